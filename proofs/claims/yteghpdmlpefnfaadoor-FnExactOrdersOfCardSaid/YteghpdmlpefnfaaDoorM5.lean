/- Parts of the proof: what single Go functions compute, each with its walk, and plain laws over these. -/
import Derived.Test.YteghpdmlpefnfaaDoorM0
import Derived.Test.YteghpdmlpefnfaaDoorM1
import Derived.Test.YteghpdmlpefnfaaDoorM3
import Derived.Test.YteghpdmlpefnfaaDoorM4
import Derived.IntWalk
import Derived.Laws.BitsLemmas
import Derived.Test.YteghpdmlpefnfaaDoorVMore
import Derived.Lib.ItoaNum
import Derived.Test.YteghpdmlpefnfaaDoorM2
import Derived.Lib.AtoiAllCases
import Derived.Lib.Strings
import Derived.Lib.Bytealg
import Derived.Sort.Walk0
namespace Go.Proofs.YteghpdmlpefnfaaDoor.Q
open Go.RowKit Go.Proofs.YteghpdmlpefnfaaDoorW.PrintWords Go.Proofs.YteghpdmlpefnfaaDoorW.PrintLast Go.Proofs.YteghpdmlpefnfaaDoorW.PrintMore
open Go.Proofs.YteghpdmlpefnfaaDoorW.PrintWords.Aside0 renaming mk → ζa
open Go.Proofs.YteghpdmlpefnfaaDoorW.PrintWords renaming gate_callee → δv, below_step → δr, below_size → δs
open List renaming map_toArray → δd, map_cons → δe, map_nil → δf, setIfInBounds_toArray → δa, set_cons_zero → δb, set_cons_succ → δc
open Go.Proofs.YteghpdmlpefnfaaDoorW.PrintWords.Kd renaming R_reads' → ζg, R_below → ζh
open Go.Act renaming put → ζl
open Bool renaming true → τ, false → φ
attribute [local go_sem] max2_int min2_int max_two min_two max_three min_three max_four min_four   -- for this text's walks alone
set_option linter.unusedVariables false
set_option linter.unusedSimpArgs false

/-! ### laws_FnExactOrdersOf: function 7 -/
mutual
def laws_FnExactOrdersOf.j0:Nat→List (S68)→List (S42)→Int→List (S71)→List (S42)→Int→Bool→Option (Bool)
 | 0,_,_,_,_,_,_,_=>none
 | k+1,x0,x4,x5,x6,x7,x8,x40=>if x40=τ then (some φ) else ((laws_toPairS.f k x0).bind fun t614=>((laws_eqPairS.f k x6 t614).bind fun t617=>(if t617=τ then ((laws_markPairS.f k x6 1).bind fun bt618=>(if bt618.1<0 then (laws_FnExactOrdersOf.j1 k x0 x4 x5 x7 τ) else ((laws_eqOrderS.f k x7 x4).bind fun t620=>(if t620=τ then (laws_FnExactOrdersOf.j1 k x0 x4 x5 x7 (x8 != x5)) else (laws_FnExactOrdersOf.j1 k x0 x4 x5 x7 τ))))) else (some φ))))
def laws_FnExactOrdersOf.j1:Nat→List (S68)→List (S42)→Int→List (S42)→Bool→Option (Bool)
 | 0,_,_,_,_,_=>none
 | k+1,x0,x4,x5,x7,x61=>if x61=τ then (some φ) else ((laws_markOrderS.f k x7 1).bind fun bt621=>((laws_heldOrderS.f k bt621.2 1).bind fun t623=>(if t623<0 then (some φ) else (if t623=bt621.1 then ((laws_toPairS.f k x0).bind fun t624=>((impl_OrdersOf.f k t624).bind fun bt627=>((laws_eqOrderS.f k bt627.1 x4).bind fun t631=>(if t631=τ then (laws_FnExactOrdersOf.j2 k bt621.2 bt621.1 (bt627.2 != x5)) else (laws_FnExactOrdersOf.j2 k bt621.2 bt621.1 τ))))) else (some φ)))))
def laws_FnExactOrdersOf.j2:Nat→List (S42)→Int→Bool→Option (Bool)
 | 0,_,_,_=>none
 | k+1,x7,x10,x87=>if x87=τ then (some φ) else ((laws_heldOrderS.f k x7 1).bind fun t632=>(if t632<0 then (some φ) else (if t632=x10 then (some τ) else (some φ))))
end
def laws_FnExactOrdersOf.f (k:Nat) (l0:List (S68)):Option (Bool):=(laws_szPairS.f k l0 1048576).bind fun t598=>(if t598<0 then (some τ) else ((laws_toPairS.f k l0).bind fun t599=>((spec_OrdersOf.f k t599).bind fun bt602=>((laws_toPairS.f k l0).bind fun t606=>((impl_OrdersOf.f k t606).bind fun bt609=>((laws_eqOrderS.f k bt609.1 bt602.1).bind fun t613=>(if t613=τ then (laws_FnExactOrdersOf.j0 k l0 bt602.1 bt602.2 t606 bt609.1 bt609.2 (bt609.2 != bt602.2)) else (laws_FnExactOrdersOf.j0 k l0 bt602.1 bt602.2 t606 bt609.1 bt609.2 τ))))))))
set_option maxHeartbeats 8000000 in
set_option maxRecDepth 100000 in
theorem laws_FnExactOrdersOf.calls (k:Nat) (A0:Option Addr) (c0:Nat) (l0:List (S68)) (r:Bool) (w:World) (hr0:Kd.C k68 w A0 l0.length l0) (hc0:l0.length≤c0) (hT0:TabsOK w) (h:laws_FnExactOrdersOf.f k l0=some r) :
  Calls Tryd.prog 7 #[.slice A0 l0.length c0] w fun e w'=>e = .returned (.bool r)∧Below w.heap.size w w':=by
 have HT0:=ζa hT0
 clear hT0
 have HR0:=ζa hr0
 have HC0:=ζa hc0
 clear hr0 hc0
 have HB:=ζa (Below.refl w.heap.size w)
 have H:((laws_szPairS.f k l0 1048576).bind fun t598=>(if t598<0 then (some τ) else ((laws_toPairS.f k l0).bind fun t599=>((spec_OrdersOf.f k t599).bind fun bt602=>((laws_toPairS.f k l0).bind fun t606=>((impl_OrdersOf.f k t606).bind fun bt609=>((laws_eqOrderS.f k bt609.1 bt602.1).bind fun t613=>(if t613=τ then (laws_FnExactOrdersOf.j0 k l0 bt602.1 bt602.2 t606 bt609.1 bt609.2 (bt609.2 != bt602.2)) else (laws_FnExactOrdersOf.j0 k l0 bt602.1 bt602.2 t606 bt609.1 bt609.2 τ)))))))))=some r:=h
 clear h
 replace H:=Option.bind_eq_some_iff.mp H
 obtain ⟨t598,A20,H⟩:=H
 replace H:(if t598<0 then (some τ) else ((laws_toPairS.f k l0).bind fun t599=>((spec_OrdersOf.f k t599).bind fun bt602=>((laws_toPairS.f k l0).bind fun t606=>((impl_OrdersOf.f k t606).bind fun bt609=>((laws_eqOrderS.f k bt609.1 bt602.1).bind fun t613=>(if t613=τ then (laws_FnExactOrdersOf.j0 k l0 bt602.1 bt602.2 t606 bt609.1 bt609.2 (bt609.2 != bt602.2)) else (laws_FnExactOrdersOf.j0 k l0 bt602.1 bt602.2 t606 bt609.1 bt609.2 τ))))))))=some r:=H
 have A2:=ζa A20
 clear A20
 by_cases c3:t598<0
 ·
  rw [if_pos c3] at H
  have c3b0:decide (t598<0)=τ:=decide_eq_true c3
  clear c3
  obtain rfl:=Option.some.inj H
  go_enter Tryd.func7,Tryd.ntmps7
  go_wp2_with (((with_reducible refine δv (f:=17) rfl ?_);refine goesL_ (some 16) rfl rfl Tryd.func17 (by kernel_rfl) rfl #[.slice A0 l0.length c0,.int .i64 1048576] rfl (by (try simp only [δd,δe,δf]);rfl) ?_;(with_reducible refine (laws_szPairS.calls k _ _ l0 1048576 t598 _ ?side1 ?side2 A2.out).mono ?_);(case side1=>repeat (exact HR0.out));(case side2=>exact HC0.out);rintro e w4 ⟨rfl,hb⟩;refine ⟨_,rfl,?_⟩;have n0_:=ζa (δr (by exact HB.out) hb);clear HB;have HB:=n0_;clear n0_;(try clear hb);(try clear hb2);(try clear hk);(try clear hi)))
  go_ret
  exact ⟨by rfl,by repeat ((with_reducible exact HB.out))⟩
 ·
  rw [if_neg c3] at H
  have c3b0:decide (t598<0)=φ:=decide_eq_false c3
  clear c3
  replace H:=Option.bind_eq_some_iff.mp H
  obtain ⟨t599,A50,H⟩:=H
  replace H:((spec_OrdersOf.f k t599).bind fun bt602=>((laws_toPairS.f k l0).bind fun t606=>((impl_OrdersOf.f k t606).bind fun bt609=>((laws_eqOrderS.f k bt609.1 bt602.1).bind fun t613=>(if t613=τ then (laws_FnExactOrdersOf.j0 k l0 bt602.1 bt602.2 t606 bt609.1 bt609.2 (bt609.2 != bt602.2)) else (laws_FnExactOrdersOf.j0 k l0 bt602.1 bt602.2 t606 bt609.1 bt609.2 τ))))))=some r:=H
  have A5:=ζa A50
  clear A50
  replace H:=Option.bind_eq_some_iff.mp H
  obtain ⟨⟨t602,t603⟩,A60,H⟩:=H
  replace H:((laws_toPairS.f k l0).bind fun t606=>((impl_OrdersOf.f k t606).bind fun bt609=>((laws_eqOrderS.f k bt609.1 t602).bind fun t613=>(if t613=τ then (laws_FnExactOrdersOf.j0 k l0 t602 t603 t606 bt609.1 bt609.2 (bt609.2 != t603)) else (laws_FnExactOrdersOf.j0 k l0 t602 t603 t606 bt609.1 bt609.2 τ)))))=some r:=H
  have A6:=ζa A60
  clear A60
  replace H:=Option.bind_eq_some_iff.mp H
  obtain ⟨t606,A70,H⟩:=H
  replace H:((impl_OrdersOf.f k t606).bind fun bt609=>((laws_eqOrderS.f k bt609.1 t602).bind fun t613=>(if t613=τ then (laws_FnExactOrdersOf.j0 k l0 t602 t603 t606 bt609.1 bt609.2 (bt609.2 != t603)) else (laws_FnExactOrdersOf.j0 k l0 t602 t603 t606 bt609.1 bt609.2 τ))))=some r:=H
  have A7:=ζa A70
  clear A70
  replace H:=Option.bind_eq_some_iff.mp H
  obtain ⟨⟨t609,t610⟩,A80,H⟩:=H
  replace H:((laws_eqOrderS.f k t609 t602).bind fun t613=>(if t613=τ then (laws_FnExactOrdersOf.j0 k l0 t602 t603 t606 t609 t610 (t610 != t603)) else (laws_FnExactOrdersOf.j0 k l0 t602 t603 t606 t609 t610 τ)))=some r:=H
  have A8:=ζa A80
  clear A80
  have HC9:=ζa H
  clear H
  go_enter Tryd.func7,Tryd.ntmps7
  go_upto_region 8 with (first|((with_reducible refine δv (f:=17) rfl ?_);refine goesL_ (some 16) rfl rfl Tryd.func17 (by kernel_rfl) rfl #[.slice A0 l0.length c0,.int .i64 1048576] rfl (by (try simp only [δd,δe,δf]);rfl) ?_;(with_reducible refine (laws_szPairS.calls k _ _ l0 1048576 t598 _ ?side1 ?side2 A2.out).mono ?_);(case side1=>repeat (exact HR0.out));(case side2=>exact HC0.out);rintro e w10 ⟨rfl,hb⟩;refine ⟨_,rfl,?_⟩;have n0_:=ζa (δr (by exact HB.out) hb);clear HB;have HB:=n0_;clear n0_;(try clear hb);(try clear hb2);(try clear hk);(try clear hi))|((with_reducible refine δv (f:=19) rfl ?_);refine goesL_ (some 21) rfl rfl Tryd.func19 (by kernel_rfl) rfl #[.slice A0 l0.length c0] rfl (by (try simp only [δd,δe,δf]);rfl) ?_;(with_reducible refine (laws_toPairS.calls k _ _ l0 t599 _ ?side1 ?side2 A5.out).mono ?_);(case side1=>repeat (exact (Kd.C_below HR0.out HB.out)));(case side2=>exact HC0.out);rintro e w11 ⟨v600,rfl,ho0,hb⟩;refine ⟨_,rfl,?_⟩;have n0_:=ζa (Kd.R_lower ho0 (δs (by exact HB.out)));have n1_:=ζa (δr (by exact HB.out) hb);clear HB;have HO601:=n0_;have HB:=n1_;clear n0_ n1_;(try clear hb);(try clear hb2);(try clear hk);(try clear hi);(try clear ho0);obtain ⟨Ao12,co12,eo12⟩:=Kd.R_slice HO601.out;subst eo12)|((with_reducible refine δv (f:=26) rfl ?_);refine goesL_ (some 22) rfl rfl Tryd.func26 (by kernel_rfl) rfl #[.slice Ao12 t599.length co12] rfl (by (try simp only [δd,δe,δf]);rfl) ?_;(with_reducible refine (spec_OrdersOf.calls k _ _ t599 t602 t603 _ ?side1 ?side2 A6.out).mono ?_);(case side1=>repeat (exact (ζg HO601.out).2.2));(case side2=>exact (ζg HO601.out).2.1);rintro e w13 ⟨v604,rfl,ho0,hb⟩;refine ⟨_,rfl,?_⟩;have n0_:=ζa (ζh (by exact HO601.out) hb);have n1_:=ζa (Kd.R_lower ho0 (δs (by exact HB.out)));have n2_:=ζa (δr (by exact HB.out) hb);clear HO601;clear HB;have HO601:=n0_;have HO605:=n1_;have HB:=n2_;clear n0_ n1_ n2_;(try clear hb);(try clear hb2);(try clear hk);(try clear hi);(try clear ho0))|((with_reducible refine δv (f:=19) rfl ?_);refine goesL_ (some 26) rfl rfl Tryd.func19 (by kernel_rfl) rfl #[.slice A0 l0.length c0] rfl (by (try simp only [δd,δe,δf]);rfl) ?_;(with_reducible refine (laws_toPairS.calls k _ _ l0 t606 _ ?side1 ?side2 A7.out).mono ?_);(case side1=>repeat (exact (Kd.C_below HR0.out HB.out)));(case side2=>exact HC0.out);rintro e w14 ⟨v607,rfl,ho0,hb⟩;refine ⟨_,rfl,?_⟩;have n0_:=ζa (Kd.R_elder' (by exact HO601.out) (Kd.R_base ho0) hb);have n1_:=ζa (ζh (by exact HO605.out) hb);have n2_:=ζa (Kd.R_lower (Kd.R_new' ho0 (Kd.R_lt (by exact HO601.out))) (δs (by exact HB.out)));have n3_:=ζa (δr (by exact HB.out) hb);clear HO601;clear HO605;clear HB;have HO601:=n0_;have HO605:=n1_;have HO608:=n2_;have HB:=n3_;clear n0_ n1_ n2_ n3_;(try clear hb);(try clear hb2);(try clear hk);(try clear hi);(try clear ho0);obtain ⟨Ao15,co15,eo15⟩:=Kd.R_slice HO608.out;subst eo15)|((with_reducible refine δv (f:=27) rfl ?_);refine goesL_ (some 29) rfl rfl Tryd.func27 (by kernel_rfl) rfl #[.slice Ao15 t606.length co15] rfl (by (try simp only [δd,δe,δf]);rfl) ?_;(with_reducible refine (impl_OrdersOf.calls k _ _ t606 t609 t610 _ ?side1 ?side2 (HT0.out.below (by exact HB.out)) A8.out).mono ?_);(case side1=>repeat (exact (ζg HO608.out).2.2));(case side2=>exact (ζg HO608.out).2.1);rintro e w16 ⟨v611,rfl,ho0,hb⟩;refine ⟨_,rfl,?_⟩;have n0_:=ζa (ζh (by exact HO601.out) hb);have n1_:=ζa (Kd.R_elder' (by exact HO605.out) (Kd.R_base ho0) hb);have n2_:=ζa (ζh (by exact HO608.out) hb);have n3_:=ζa (Kd.R_lower (Kd.R_new' ho0 (Kd.R_lt (by exact HO605.out))) (δs (by exact HB.out)));have n4_:=ζa (δr (by exact HB.out) hb);clear HO601;clear HO605;clear HO608;clear HB;have HO601:=n0_;have HO605:=n1_;have HO608:=n2_;have HO612:=n3_;have HB:=n4_;clear n0_ n1_ n2_ n3_ n4_;(try clear hb);(try clear hb2);(try clear hk);(try clear hi);(try clear ho0)))
  (try simp only [ζl,δa,δb,δc])
  go_cut [40] (fun v40 wc => ∃ (kq:Nat) (x40_8:Bool),v40 = .bool x40_8∧Aside0 (laws_FnExactOrdersOf.j0 kq l0 t602 t603 t606 t609 t610 x40_8=some r)∧Aside0 (kq≤k)∧Aside0 (Kd.R k42 42 wc w.heap.size (fun k_=>some k_≠(v611:Value).ownBlock) v604 t602)∧Aside0 (Kd.R k71 71 wc w.heap.size (fun _=>True) (.slice Ao15 t606.length co15) t606)∧Aside0 (Kd.R k42 42 wc w.heap.size (fun k_=>some k_≠(v604:Value).ownBlock) v611 t609)∧Aside0 (Below w.heap.size w wc))
  case first =>
   have H:=HC9.out
   clear HC9
   replace H:=Option.bind_eq_some_iff.mp H
   obtain ⟨t613,A170,H⟩:=H
   replace H:(if t613=τ then (laws_FnExactOrdersOf.j0 k l0 t602 t603 t606 t609 t610 (t610 != t603)) else (laws_FnExactOrdersOf.j0 k l0 t602 t603 t606 t609 t610 τ))=some r:=H
   have A17:=ζa A170
   clear A170
   by_cases c18:t613=τ
   ·
    subst c18
    have H1:(laws_FnExactOrdersOf.j0 k l0 t602 t603 t606 t609 t610 (t610 != t603))=some r:=by rw [if_pos rfl] at H;exact H
    clear H
    have H:=H1
    clear H1
    have H':=ζa H
    clear H
    obtain ⟨Ao19,co19,eo19⟩:=Kd.R_slice HO612.out
    subst eo19
    obtain ⟨Ao20,co20,eo20⟩:=Kd.R_slice HO605.out
    subst eo20
    go_wp2_with (((with_reducible refine δv (f:=28) rfl ?_);refine goesL_ (some 34) rfl rfl Tryd.func28 (by kernel_rfl) rfl #[.slice Ao19 t609.length co19,.slice Ao20 t602.length co20] rfl (by (try simp only [δd,δe,δf]);rfl) ?_;(with_reducible refine (laws_eqOrderS.calls k _ _ t609 _ _ t602 τ _ ?side1 ?side2 ?side3 ?side4 A17.out).mono ?_);(case side1=>repeat (exact (ζg HO612.out).2.2));(case side2=>exact (ζg HO612.out).2.1);(case side3=>repeat (exact (ζg HO605.out).2.2));(case side4=>exact (ζg HO605.out).2.1);rintro e w21 ⟨rfl,hb⟩;refine ⟨_,rfl,?_⟩;have n0_:=ζa (ζh (by exact HO601.out) hb);have n1_:=ζa (ζh (by exact HO605.out) hb);have n2_:=ζa (ζh (by exact HO608.out) hb);have n3_:=ζa (ζh (by exact HO612.out) hb);have n4_:=ζa (δr (by exact HB.out) hb);clear HO601;clear HO605;clear HO608;clear HO612;clear HB;have HO601:=n0_;have HO605:=n1_;have HO608:=n2_;have HO612:=n3_;have HB:=n4_;clear n0_ n1_ n2_ n3_ n4_;(try clear hb);(try clear hb2);(try clear hk);(try clear hi)))
    go_meet
    case rel=>exact ⟨_,((t610 != t603)),(by rfl),H',⟨by omega⟩,⟨by exact Kd.R_mono HO605.out (fun _ hk=>hk.2)⟩,⟨by exact Kd.R_mono HO608.out (fun _ hk=>trivial)⟩,⟨by exact Kd.R_mono HO612.out (fun _ hk=>hk.2)⟩,⟨by repeat ((with_reducible exact HB.out))⟩⟩
   ·
    replace c18:=Bool.eq_false_iff.mpr c18
    subst c18
    have H1:(laws_FnExactOrdersOf.j0 k l0 t602 t603 t606 t609 t610 τ)=some r:=by rw [if_neg (show ¬ (φ=τ) by decide)] at H;exact H
    clear H
    have H:=H1
    clear H1
    have H':=ζa H
    clear H
    obtain ⟨Ao22,co22,eo22⟩:=Kd.R_slice HO612.out
    subst eo22
    obtain ⟨Ao23,co23,eo23⟩:=Kd.R_slice HO605.out
    subst eo23
    go_wp2_with (((with_reducible refine δv (f:=28) rfl ?_);refine goesL_ (some 34) rfl rfl Tryd.func28 (by kernel_rfl) rfl #[.slice Ao22 t609.length co22,.slice Ao23 t602.length co23] rfl (by (try simp only [δd,δe,δf]);rfl) ?_;(with_reducible refine (laws_eqOrderS.calls k _ _ t609 _ _ t602 φ _ ?side1 ?side2 ?side3 ?side4 A17.out).mono ?_);(case side1=>repeat (exact (ζg HO612.out).2.2));(case side2=>exact (ζg HO612.out).2.1);(case side3=>repeat (exact (ζg HO605.out).2.2));(case side4=>exact (ζg HO605.out).2.1);rintro e w24 ⟨rfl,hb⟩;refine ⟨_,rfl,?_⟩;have n0_:=ζa (ζh (by exact HO601.out) hb);have n1_:=ζa (ζh (by exact HO605.out) hb);have n2_:=ζa (ζh (by exact HO608.out) hb);have n3_:=ζa (ζh (by exact HO612.out) hb);have n4_:=ζa (δr (by exact HB.out) hb);clear HO601;clear HO605;clear HO608;clear HO612;clear HB;have HO601:=n0_;have HO605:=n1_;have HO608:=n2_;have HO612:=n3_;have HB:=n4_;clear n0_ n1_ n2_ n3_ n4_;(try clear hb);(try clear hb2);(try clear hk);(try clear hi)))
    go_meet
    case rel=>exact ⟨_,(τ),(by rfl),H',⟨by omega⟩,⟨by exact Kd.R_mono HO605.out (fun _ hk=>hk.2)⟩,⟨by exact Kd.R_mono HO608.out (fun _ hk=>trivial)⟩,⟨by exact Kd.R_mono HO612.out (fun _ hk=>hk.2)⟩,⟨by repeat ((with_reducible exact HB.out))⟩⟩
  case rest =>
   clear HC9
   try clear c1
   try clear c2
   try clear p2
   try clear c3
   try clear c3b0
   try clear c7
   try clear c17
   try clear c18
   try clear c19
   obtain ⟨kq,x40_8,rfl,HA,HJ8,HO_4,HO_6,HO_7,HB⟩:=hcut
   cases kq with
   | zero=>exact absurd HA.out (by simp [laws_FnExactOrdersOf.j0])
   | succ kj8 =>
    have H:=HA.out
    clear HA
    simp only [laws_FnExactOrdersOf.j0] at H
    by_cases c25:x40_8=τ
    ·
     subst c25
     have H1:(some φ)=some r:=by rw [if_pos rfl] at H;exact H
     clear H
     have H:=H1
     clear H1
     obtain rfl:=Option.some.inj H
     go_wp2
     go_ret
     exact ⟨by rfl,by repeat ((with_reducible exact HB.out))⟩
    ·
     replace c25:=Bool.eq_false_iff.mpr c25
     subst c25
     have H1:((laws_toPairS.f kj8 l0).bind fun t614=>((laws_eqPairS.f kj8 t606 t614).bind fun t617=>(if t617=τ then ((laws_markPairS.f kj8 t606 1).bind fun bt618=>(if bt618.1<0 then (laws_FnExactOrdersOf.j1 kj8 l0 t602 t603 t609 τ) else ((laws_eqOrderS.f kj8 t609 t602).bind fun t620=>(if t620=τ then (laws_FnExactOrdersOf.j1 kj8 l0 t602 t603 t609 (t610 != t603)) else (laws_FnExactOrdersOf.j1 kj8 l0 t602 t603 t609 τ))))) else (some φ))))=some r:=by rw [if_neg (show ¬ (φ=τ) by decide)] at H;exact H
     clear H
     have H:=H1
     clear H1
     replace H:=Option.bind_eq_some_iff.mp H
     obtain ⟨t614,A260,H⟩:=H
     replace H:((laws_eqPairS.f kj8 t606 t614).bind fun t617=>(if t617=τ then ((laws_markPairS.f kj8 t606 1).bind fun bt618=>(if bt618.1<0 then (laws_FnExactOrdersOf.j1 kj8 l0 t602 t603 t609 τ) else ((laws_eqOrderS.f kj8 t609 t602).bind fun t620=>(if t620=τ then (laws_FnExactOrdersOf.j1 kj8 l0 t602 t603 t609 (t610 != t603)) else (laws_FnExactOrdersOf.j1 kj8 l0 t602 t603 t609 τ))))) else (some φ)))=some r:=H
     have A26:=ζa A260
     clear A260
     replace H:=Option.bind_eq_some_iff.mp H
     obtain ⟨t617,A270,H⟩:=H
     replace H:(if t617=τ then ((laws_markPairS.f kj8 t606 1).bind fun bt618=>(if bt618.1<0 then (laws_FnExactOrdersOf.j1 kj8 l0 t602 t603 t609 τ) else ((laws_eqOrderS.f kj8 t609 t602).bind fun t620=>(if t620=τ then (laws_FnExactOrdersOf.j1 kj8 l0 t602 t603 t609 (t610 != t603)) else (laws_FnExactOrdersOf.j1 kj8 l0 t602 t603 t609 τ))))) else (some φ))=some r:=H
     have A27:=ζa A270
     clear A270
     by_cases c28:t617=τ
     ·
      subst c28
      have H1:((laws_markPairS.f kj8 t606 1).bind fun bt618=>(if bt618.1<0 then (laws_FnExactOrdersOf.j1 kj8 l0 t602 t603 t609 τ) else ((laws_eqOrderS.f kj8 t609 t602).bind fun t620=>(if t620=τ then (laws_FnExactOrdersOf.j1 kj8 l0 t602 t603 t609 (t610 != t603)) else (laws_FnExactOrdersOf.j1 kj8 l0 t602 t603 t609 τ)))))=some r:=by rw [if_pos rfl] at H;exact H
      clear H
      have H:=H1
      clear H1
      replace H:=Option.bind_eq_some_iff.mp H
      obtain ⟨⟨t618,t619⟩,A290,H⟩:=H
      replace H:(if t618<0 then (laws_FnExactOrdersOf.j1 kj8 l0 t602 t603 t609 τ) else ((laws_eqOrderS.f kj8 t609 t602).bind fun t620=>(if t620=τ then (laws_FnExactOrdersOf.j1 kj8 l0 t602 t603 t609 (t610 != t603)) else (laws_FnExactOrdersOf.j1 kj8 l0 t602 t603 t609 τ))))=some r:=H
      have A29:=ζa A290
      clear A290
      have HC30:=ζa H
      clear H
      go_upto_region 14 with (first|((with_reducible refine δv (f:=19) rfl ?_);refine goesL_ (some 43) rfl rfl Tryd.func19 (by kernel_rfl) rfl #[.slice A0 l0.length c0] rfl (by (try simp only [δd,δe,δf]);rfl) ?_;(with_reducible refine (laws_toPairS.calls kj8 _ _ l0 t614 _ ?side1 ?side2 A26.out).mono ?_);(case side1=>repeat (exact (Kd.C_below HR0.out HB.out)));(case side2=>exact HC0.out);rintro e w31 ⟨v615,rfl,ho0,hb⟩;refine ⟨_,rfl,?_⟩;have n0_:=ζa (ζh (by exact HO_4.out) hb);have n1_:=ζa (Kd.R_elder' (by exact HO_6.out) (Kd.R_base ho0) hb);have n2_:=ζa (ζh (by exact HO_7.out) hb);have n3_:=ζa (Kd.R_lower (Kd.R_new' ho0 (Kd.R_lt (by exact HO_6.out))) (δs (by exact HB.out)));have n4_:=ζa (δr (by exact HB.out) hb);clear HO_4;clear HO_6;clear HO_7;clear HB;have HO_4:=n0_;have HO_6:=n1_;have HO_7:=n2_;have HO616:=n3_;have HB:=n4_;clear n0_ n1_ n2_ n3_ n4_;(try clear hb);(try clear hb2);(try clear hk);(try clear hi);(try clear ho0);obtain ⟨Ao32,co32,eo32⟩:=Kd.R_slice HO616.out;subst eo32)|((with_reducible refine δv (f:=22) rfl ?_);refine goesL_ (some 44) rfl rfl Tryd.func22 (by kernel_rfl) rfl #[.slice Ao15 t606.length co15,.slice Ao32 t614.length co32] rfl (by (try simp only [δd,δe,δf]);rfl) ?_;(with_reducible refine (laws_eqPairS.calls kj8 _ _ t606 _ _ t614 τ _ ?side1 ?side2 ?side3 ?side4 A27.out).mono ?_);(case side1=>repeat (exact (ζg HO_6.out).2.2));(case side2=>exact (ζg HO_6.out).2.1);(case side3=>repeat (exact (ζg HO616.out).2.2));(case side4=>exact (ζg HO616.out).2.1);rintro e w33 ⟨rfl,hb⟩;refine ⟨_,rfl,?_⟩;have n0_:=ζa (ζh (by exact HO_4.out) hb);have n1_:=ζa (ζh (by exact HO_6.out) hb);have n2_:=ζa (ζh (by exact HO_7.out) hb);have n3_:=ζa (ζh (by exact HO616.out) hb);have n4_:=ζa (δr (by exact HB.out) hb);clear HO_4;clear HO_6;clear HO_7;clear HO616;clear HB;have HO_4:=n0_;have HO_6:=n1_;have HO_7:=n2_;have HO616:=n3_;have HB:=n4_;clear n0_ n1_ n2_ n3_ n4_;(try clear hb);(try clear hb2);(try clear hk);(try clear hi))|((with_reducible refine δv (f:=29) rfl ?_);refine goesL_ (some 48) rfl rfl Tryd.func29 (by kernel_rfl) rfl #[.slice Ao15 t606.length co15,.int .i64 1] rfl (by (try simp only [δd,δe,δf]);rfl) ?_;(with_reducible refine (laws_markPairS.calls kj8 (fun k_=>some k_=(.slice Ao15 t606.length co15:Value).ownBlock) (.slice Ao15 t606.length co15) t606 1 t618 t619 w _ ?side1 ?side2 A29.out).mono ?_);(case side1=>repeat ((with_reducible exact HB.out)));(case side2=>exact Kd.R_tight rfl HO_6.out);rintro e w34 ⟨rfl,hy0,hb,hkp⟩;refine ⟨_,rfl,?_⟩;have n0_:=ζa (Kd.R_mono (ok':=fun k_=>some k_≠(v611:Value).ownBlock) (Kd.R_keptB ((Kd.R_apart' HO_4.out (Kd.R_typed HO_6.out) (by decide))) hkp (fun k_ hk_ hs_=>(hk_.2) hs_)) (fun k_ hk_=>hk_.1.1));have n1_:=ζa (Kd.R_reok rfl hy0 (fun k_ e_=>HO_6.out.1 k_ e_));have n2_:=ζa (Kd.R_mono (ok':=fun k_=>some k_≠(v604:Value).ownBlock) (Kd.R_keptB ((Kd.R_apart' HO_7.out (Kd.R_typed HO_6.out) (by decide))) hkp (fun k_ hk_ hs_=>(hk_.2) hs_)) (fun k_ hk_=>hk_.1.1));have n3_:=ζa (Kd.R_mono (ok':=fun k_=>some k_≠(.slice Ao15 t606.length co15:Value).ownBlock) (Kd.R_keptB (HO616.out) hkp (fun k_ hk_ hs_=>(hk_.2) hs_)) (fun k_ hk_=>hk_.1.2));have n4_:=ζa (hb);clear HO_4;clear HO_6;clear HO_7;clear HO616;clear HB;have HO_4:=n0_;have HO_6:=n1_;have HO_7:=n2_;have HO616:=n3_;have HB:=n4_;clear n0_ n1_ n2_ n3_ n4_;(try clear hb);(try clear hkp);(try clear hy0)))
      (try simp only [ζl,δa,δb,δc])
      go_cut [61] (fun v61 wc => ∃ (kq:Nat) (x61_29:Bool),v61 = .bool x61_29∧Aside0 (laws_FnExactOrdersOf.j1 kq l0 t602 t603 t609 x61_29=some r)∧Aside0 (kq≤kj8)∧Aside0 (Kd.R k42 42 wc w.heap.size (fun k_=>some k_≠(v611:Value).ownBlock) v604 t602)∧Aside0 (Kd.R k42 42 wc w.heap.size (fun k_=>some k_≠(v604:Value).ownBlock) v611 t609)∧Aside0 (Below w.heap.size w wc))
      case first =>
       have H:=HC30.out
       clear HC30
       by_cases c35:t618<0
       ·
        rw [if_pos c35] at H
        have c35b0:decide (t618<0)=τ:=decide_eq_true c35
        clear c35
        (skip)
        have H':=ζa H
        clear H
        go_wp2
        go_meet
        case rel=>exact ⟨_,(τ),(by rfl),H',⟨by have:=HJ8.out;omega⟩,⟨by exact HO_4.out⟩,⟨by exact HO_7.out⟩,⟨by repeat ((with_reducible exact HB.out))⟩⟩
       ·
        rw [if_neg c35] at H
        have c35b0:decide (t618<0)=φ:=decide_eq_false c35
        clear c35
        (skip)
        replace H:=Option.bind_eq_some_iff.mp H
        obtain ⟨t620,A360,H⟩:=H
        replace H:(if t620=τ then (laws_FnExactOrdersOf.j1 kj8 l0 t602 t603 t609 (t610 != t603)) else (laws_FnExactOrdersOf.j1 kj8 l0 t602 t603 t609 τ))=some r:=H
        have A36:=ζa A360
        clear A360
        by_cases c37:t620=τ
        ·
         subst c37
         have H1:(laws_FnExactOrdersOf.j1 kj8 l0 t602 t603 t609 (t610 != t603))=some r:=by rw [if_pos rfl] at H;exact H
         clear H
         have H:=H1
         clear H1
         have H':=ζa H
         clear H
         obtain ⟨Ao38,co38,eo38⟩:=Kd.R_slice HO_7.out
         subst eo38
         obtain ⟨Ao39,co39,eo39⟩:=Kd.R_slice HO_4.out
         subst eo39
         go_wp2_with ((go_at_call 28;(with_reducible refine (laws_eqOrderS.calls kj8 _ _ t609 _ _ t602 τ _ ?side1 ?side2 ?side3 ?side4 A36.out).mono ?_);(case side1=>repeat (exact (ζg HO_7.out).2.2));(case side2=>exact (ζg HO_7.out).2.1);(case side3=>repeat (exact (ζg HO_4.out).2.2));(case side4=>exact (ζg HO_4.out).2.1);rintro e w40 ⟨rfl,hb⟩;have n0_:=ζa (ζh (by exact HO_4.out) hb);have n1_:=ζa (ζh (by exact HO_6.out) hb);have n2_:=ζa (ζh (by exact HO_7.out) hb);have n3_:=ζa (ζh (by exact HO616.out) hb);have n4_:=ζa (δr (by exact HB.out) hb);clear HO_4;clear HO_6;clear HO_7;clear HO616;clear HB;have HO_4:=n0_;have HO_6:=n1_;have HO_7:=n2_;have HO616:=n3_;have HB:=n4_;clear n0_ n1_ n2_ n3_ n4_;(try clear hb);(try clear hb2);(try clear hk);(try clear hi)))
         go_meet
         case rel=>exact ⟨_,((t610 != t603)),(by rfl),H',⟨by have:=HJ8.out;omega⟩,⟨by exact HO_4.out⟩,⟨by exact HO_7.out⟩,⟨by repeat ((with_reducible exact HB.out))⟩⟩
        ·
         replace c37:=Bool.eq_false_iff.mpr c37
         subst c37
         have H1:(laws_FnExactOrdersOf.j1 kj8 l0 t602 t603 t609 τ)=some r:=by rw [if_neg (show ¬ (φ=τ) by decide)] at H;exact H
         clear H
         have H:=H1
         clear H1
         have H':=ζa H
         clear H
         obtain ⟨Ao41,co41,eo41⟩:=Kd.R_slice HO_7.out
         subst eo41
         obtain ⟨Ao42,co42,eo42⟩:=Kd.R_slice HO_4.out
         subst eo42
         go_wp2_with ((go_at_call 28;(with_reducible refine (laws_eqOrderS.calls kj8 _ _ t609 _ _ t602 φ _ ?side1 ?side2 ?side3 ?side4 A36.out).mono ?_);(case side1=>repeat (exact (ζg HO_7.out).2.2));(case side2=>exact (ζg HO_7.out).2.1);(case side3=>repeat (exact (ζg HO_4.out).2.2));(case side4=>exact (ζg HO_4.out).2.1);rintro e w43 ⟨rfl,hb⟩;have n0_:=ζa (ζh (by exact HO_4.out) hb);have n1_:=ζa (ζh (by exact HO_6.out) hb);have n2_:=ζa (ζh (by exact HO_7.out) hb);have n3_:=ζa (ζh (by exact HO616.out) hb);have n4_:=ζa (δr (by exact HB.out) hb);clear HO_4;clear HO_6;clear HO_7;clear HO616;clear HB;have HO_4:=n0_;have HO_6:=n1_;have HO_7:=n2_;have HO616:=n3_;have HB:=n4_;clear n0_ n1_ n2_ n3_ n4_;(try clear hb);(try clear hb2);(try clear hk);(try clear hi)))
         go_meet
         case rel=>exact ⟨_,(τ),(by rfl),H',⟨by have:=HJ8.out;omega⟩,⟨by exact HO_4.out⟩,⟨by exact HO_7.out⟩,⟨by repeat ((with_reducible exact HB.out))⟩⟩
      case rest =>
       clear HC30
       try clear c1
       try clear c2
       try clear p2
       try clear c3
       try clear c3b0
       try clear c7
       try clear c17
       try clear c18
       try clear c19
       try clear c22
       try clear c25
       try clear c26
       try clear c27
       try clear c28
       try clear c29
       try clear c35
       try clear c35b0
       try clear c37
       try clear p2
       obtain ⟨kq,x61_29,rfl,HA,HJ29,HO_4,HO_7,HB⟩:=hcut
       cases kq with
       | zero=>exact absurd HA.out (by simp [laws_FnExactOrdersOf.j1])
       | succ kj29 =>
        have H:=HA.out
        clear HA
        simp only [laws_FnExactOrdersOf.j1] at H
        by_cases c44:x61_29=τ
        ·
         subst c44
         have H1:(some φ)=some r:=by rw [if_pos rfl] at H;exact H
         clear H
         have H:=H1
         clear H1
         obtain rfl:=Option.some.inj H
         go_wp2
         go_ret
         exact ⟨by rfl,by repeat ((with_reducible exact HB.out))⟩
        ·
         replace c44:=Bool.eq_false_iff.mpr c44
         subst c44
         have H1:((laws_markOrderS.f kj29 t609 1).bind fun bt621=>((laws_heldOrderS.f kj29 bt621.2 1).bind fun t623=>(if t623<0 then (some φ) else (if t623=bt621.1 then ((laws_toPairS.f kj29 l0).bind fun t624=>((impl_OrdersOf.f kj29 t624).bind fun bt627=>((laws_eqOrderS.f kj29 bt627.1 t602).bind fun t631=>(if t631=τ then (laws_FnExactOrdersOf.j2 kj29 bt621.2 bt621.1 (bt627.2 != t603)) else (laws_FnExactOrdersOf.j2 kj29 bt621.2 bt621.1 τ))))) else (some φ)))))=some r:=by rw [if_neg (show ¬ (φ=τ) by decide)] at H;exact H
         clear H
         have H:=H1
         clear H1
         replace H:=Option.bind_eq_some_iff.mp H
         obtain ⟨⟨t621,t622⟩,A450,H⟩:=H
         replace H:((laws_heldOrderS.f kj29 t622 1).bind fun t623=>(if t623<0 then (some φ) else (if t623=t621 then ((laws_toPairS.f kj29 l0).bind fun t624=>((impl_OrdersOf.f kj29 t624).bind fun bt627=>((laws_eqOrderS.f kj29 bt627.1 t602).bind fun t631=>(if t631=τ then (laws_FnExactOrdersOf.j2 kj29 t622 t621 (bt627.2 != t603)) else (laws_FnExactOrdersOf.j2 kj29 t622 t621 τ))))) else (some φ))))=some r:=H
         have A45:=ζa A450
         clear A450
         replace H:=Option.bind_eq_some_iff.mp H
         obtain ⟨t623,A460,H⟩:=H
         replace H:(if t623<0 then (some φ) else (if t623=t621 then ((laws_toPairS.f kj29 l0).bind fun t624=>((impl_OrdersOf.f kj29 t624).bind fun bt627=>((laws_eqOrderS.f kj29 bt627.1 t602).bind fun t631=>(if t631=τ then (laws_FnExactOrdersOf.j2 kj29 t622 t621 (bt627.2 != t603)) else (laws_FnExactOrdersOf.j2 kj29 t622 t621 τ))))) else (some φ)))=some r:=H
         have A46:=ζa A460
         clear A460
         by_cases c47:t623<0
         ·
          rw [if_pos c47] at H
          have c47b0:decide (t623<0)=τ:=decide_eq_true c47
          clear c47
          obtain rfl:=Option.some.inj H
          obtain ⟨Ao48,co48,eo48⟩:=Kd.R_slice HO_7.out
          subst eo48
          go_wp2_with (first|((with_reducible refine δv (f:=30) rfl ?_);refine goesL_ (some 64) rfl rfl Tryd.func30 (by kernel_rfl) rfl #[.slice Ao48 t609.length co48,.int .i64 1] rfl (by (try simp only [δd,δe,δf]);rfl) ?_;(with_reducible refine (laws_markOrderS.calls kj29 (fun k_=>some k_=(.slice Ao48 t609.length co48:Value).ownBlock) (.slice Ao48 t609.length co48) t609 1 t621 t622 w _ ?side1 ?side2 A45.out).mono ?_);(case side1=>repeat ((with_reducible exact HB.out)));(case side2=>exact Kd.R_tight rfl HO_7.out);rintro e w49 ⟨rfl,hy0,hb,hkp⟩;refine ⟨_,rfl,?_⟩;have n0_:=ζa (Kd.R_mono (ok':=fun k_=>some k_≠(.slice Ao48 t609.length co48:Value).ownBlock) (Kd.R_keptB (HO_4.out) hkp (fun k_ hk_ hs_=>(hk_) hs_)) (fun k_ hk_=>hk_.1));have n1_:=ζa (Kd.R_reok rfl hy0 (fun k_ e_=>HO_7.out.1 k_ e_));have n2_:=ζa (hb);clear HO_4;clear HO_7;clear HB;have HO_4:=n0_;have HO_7:=n1_;have HB:=n2_;clear n0_ n1_ n2_;(try clear hb);(try clear hkp);(try clear hy0))|((with_reducible refine δv (f:=31) rfl ?_);refine goesL_ (some 67) rfl rfl Tryd.func31 (by kernel_rfl) rfl #[.slice Ao48 t622.length co48,.int .i64 1] rfl (by (try simp only [δd,δe,δf]);first|(rw [show t622.length=t609.length from (ζg HO_7.out).1.symm] <;> rfl)) ?_;(with_reducible refine (laws_heldOrderS.calls kj29 _ _ t622 1 t623 _ ?side1 ?side2 A46.out).mono ?_);(case side1=>repeat (exact (ζg HO_7.out).2.2));(case side2=>rw [show t622.length=t609.length from (ζg HO_7.out).1.symm];exact (ζg HO_7.out).2.1);rintro e w50 ⟨rfl,hb⟩;refine ⟨_,rfl,?_⟩;have n0_:=ζa (ζh (by exact HO_4.out) hb);have n1_:=ζa (ζh (by exact HO_7.out) hb);have n2_:=ζa (δr (by exact HB.out) hb);clear HO_4;clear HO_7;clear HB;have HO_4:=n0_;have HO_7:=n1_;have HB:=n2_;clear n0_ n1_ n2_;(try clear hb);(try clear hb2);(try clear hk);(try clear hi)))
          go_ret
          exact ⟨by rfl,by repeat ((with_reducible exact HB.out))⟩
         ·
          rw [if_neg c47] at H
          have c47b0:decide (t623<0)=φ:=decide_eq_false c47
          clear c47
          by_cases c51:t623=t621
          ·
           rw [if_pos c51] at H
           have c51b0:(t623 == t621)=τ:=beq_iff_eq.mpr c51
           have c51b1:(t623 != t621)=φ:=bne_eq_false_iff_eq.mpr c51
           clear c51
           replace H:=Option.bind_eq_some_iff.mp H
           obtain ⟨t624,A520,H⟩:=H
           replace H:((impl_OrdersOf.f kj29 t624).bind fun bt627=>((laws_eqOrderS.f kj29 bt627.1 t602).bind fun t631=>(if t631=τ then (laws_FnExactOrdersOf.j2 kj29 t622 t621 (bt627.2 != t603)) else (laws_FnExactOrdersOf.j2 kj29 t622 t621 τ))))=some r:=H
           have A52:=ζa A520
           clear A520
           replace H:=Option.bind_eq_some_iff.mp H
           obtain ⟨⟨t627,t628⟩,A530,H⟩:=H
           replace H:((laws_eqOrderS.f kj29 t627 t602).bind fun t631=>(if t631=τ then (laws_FnExactOrdersOf.j2 kj29 t622 t621 (t628 != t603)) else (laws_FnExactOrdersOf.j2 kj29 t622 t621 τ)))=some r:=H
           have A53:=ζa A530
           clear A530
           have HC54:=ζa H
           clear H
           obtain ⟨Ao55,co55,eo55⟩:=Kd.R_slice HO_7.out
           subst eo55
           go_upto_region 25 with (first|((with_reducible refine δv (f:=30) rfl ?_);refine goesL_ (some 64) rfl rfl Tryd.func30 (by kernel_rfl) rfl #[.slice Ao55 t609.length co55,.int .i64 1] rfl (by (try simp only [δd,δe,δf]);rfl) ?_;(with_reducible refine (laws_markOrderS.calls kj29 (fun k_=>some k_=(.slice Ao55 t609.length co55:Value).ownBlock) (.slice Ao55 t609.length co55) t609 1 t621 t622 w _ ?side1 ?side2 A45.out).mono ?_);(case side1=>repeat ((with_reducible exact HB.out)));(case side2=>exact Kd.R_tight rfl HO_7.out);rintro e w56 ⟨rfl,hy0,hb,hkp⟩;refine ⟨_,rfl,?_⟩;have n0_:=ζa (Kd.R_mono (ok':=fun k_=>some k_≠(.slice Ao55 t609.length co55:Value).ownBlock) (Kd.R_keptB (HO_4.out) hkp (fun k_ hk_ hs_=>(hk_) hs_)) (fun k_ hk_=>hk_.1));have n1_:=ζa (Kd.R_reok rfl hy0 (fun k_ e_=>HO_7.out.1 k_ e_));have n2_:=ζa (hb);clear HO_4;clear HO_7;clear HB;have HO_4:=n0_;have HO_7:=n1_;have HB:=n2_;clear n0_ n1_ n2_;(try clear hb);(try clear hkp);(try clear hy0))|((with_reducible refine δv (f:=31) rfl ?_);refine goesL_ (some 67) rfl rfl Tryd.func31 (by kernel_rfl) rfl #[.slice Ao55 t622.length co55,.int .i64 1] rfl (by (try simp only [δd,δe,δf]);first|(rw [show t622.length=t609.length from (ζg HO_7.out).1.symm] <;> rfl)) ?_;(with_reducible refine (laws_heldOrderS.calls kj29 _ _ t622 1 t623 _ ?side1 ?side2 A46.out).mono ?_);(case side1=>repeat (exact (ζg HO_7.out).2.2));(case side2=>rw [show t622.length=t609.length from (ζg HO_7.out).1.symm];exact (ζg HO_7.out).2.1);rintro e w57 ⟨rfl,hb⟩;refine ⟨_,rfl,?_⟩;have n0_:=ζa (ζh (by exact HO_4.out) hb);have n1_:=ζa (ζh (by exact HO_7.out) hb);have n2_:=ζa (δr (by exact HB.out) hb);clear HO_4;clear HO_7;clear HB;have HO_4:=n0_;have HO_7:=n1_;have HB:=n2_;clear n0_ n1_ n2_;(try clear hb);(try clear hb2);(try clear hk);(try clear hi))|((with_reducible refine δv (f:=19) rfl ?_);refine goesL_ (some 75) rfl rfl Tryd.func19 (by kernel_rfl) rfl #[.slice A0 l0.length c0] rfl (by (try simp only [δd,δe,δf]);rfl) ?_;(with_reducible refine (laws_toPairS.calls kj29 _ _ l0 t624 _ ?side1 ?side2 A52.out).mono ?_);(case side1=>repeat (exact (Kd.C_below HR0.out HB.out)));(case side2=>exact HC0.out);rintro e w58 ⟨v625,rfl,ho0,hb⟩;refine ⟨_,rfl,?_⟩;have n0_:=ζa (ζh (by exact HO_4.out) hb);have n1_:=ζa (ζh (by exact HO_7.out) hb);have n2_:=ζa (Kd.R_lower ho0 (δs (by exact HB.out)));have n3_:=ζa (δr (by exact HB.out) hb);clear HO_4;clear HO_7;clear HB;have HO_4:=n0_;have HO_7:=n1_;have HO626:=n2_;have HB:=n3_;clear n0_ n1_ n2_ n3_;(try clear hb);(try clear hb2);(try clear hk);(try clear hi);(try clear ho0);obtain ⟨Ao59,co59,eo59⟩:=Kd.R_slice HO626.out;subst eo59)|((with_reducible refine δv (f:=27) rfl ?_);refine goesL_ (some 76) rfl rfl Tryd.func27 (by kernel_rfl) rfl #[.slice Ao59 t624.length co59] rfl (by (try simp only [δd,δe,δf]);rfl) ?_;(with_reducible refine (impl_OrdersOf.calls kj29 _ _ t624 t627 t628 _ ?side1 ?side2 (HT0.out.below (by exact HB.out)) A53.out).mono ?_);(case side1=>repeat (exact (ζg HO626.out).2.2));(case side2=>exact (ζg HO626.out).2.1);rintro e w60 ⟨v629,rfl,ho0,hb⟩;refine ⟨_,rfl,?_⟩;have n0_:=ζa (Kd.R_elder' (by exact HO_4.out) (Kd.R_base ho0) hb);have n1_:=ζa (Kd.R_elder' (by exact HO_7.out) (Kd.R_base ho0) hb);have n2_:=ζa (ζh (by exact HO626.out) hb);have n3_:=ζa (Kd.R_lower (Kd.R_new' (Kd.R_new' ho0 (Kd.R_lt (by exact HO_4.out))) (Kd.R_lt (by exact HO_7.out))) (δs (by exact HB.out)));have n4_:=ζa (δr (by exact HB.out) hb);clear HO_4;clear HO_7;clear HO626;clear HB;have HO_4:=n0_;have HO_7:=n1_;have HO626:=n2_;have HO630:=n3_;have HB:=n4_;clear n0_ n1_ n2_ n3_ n4_;(try clear hb);(try clear hb2);(try clear hk);(try clear hi);(try clear ho0)))
           (try simp only [ζl,δa,δb,δc])
           go_cut [87] (fun v87 wc => ∃ (kq:Nat) (x87_53:Bool),v87 = .bool x87_53∧Aside0 (laws_FnExactOrdersOf.j2 kq t622 t621 x87_53=some r)∧Aside0 (kq≤kj29)∧Aside0 (Kd.R k42 42 wc w.heap.size (fun _=>True) (.slice Ao55 t609.length co55) t622)∧Aside0 (Below w.heap.size w wc))
           case first =>
            have H:=HC54.out
            clear HC54
            replace H:=Option.bind_eq_some_iff.mp H
            obtain ⟨t631,A610,H⟩:=H
            replace H:(if t631=τ then (laws_FnExactOrdersOf.j2 kj29 t622 t621 (t628 != t603)) else (laws_FnExactOrdersOf.j2 kj29 t622 t621 τ))=some r:=H
            have A61:=ζa A610
            clear A610
            by_cases c62:t631=τ
            ·
             subst c62
             have H1:(laws_FnExactOrdersOf.j2 kj29 t622 t621 (t628 != t603))=some r:=by rw [if_pos rfl] at H;exact H
             clear H
             have H:=H1
             clear H1
             have H':=ζa H
             clear H
             obtain ⟨Ao63,co63,eo63⟩:=Kd.R_slice HO630.out
             subst eo63
             obtain ⟨Ao64,co64,eo64⟩:=Kd.R_slice HO_4.out
             subst eo64
             go_wp2_with (((with_reducible refine δv (f:=28) rfl ?_);refine goesL_ (some 81) rfl rfl Tryd.func28 (by kernel_rfl) rfl #[.slice Ao63 t627.length co63,.slice Ao64 t602.length co64] rfl (by (try simp only [δd,δe,δf]);rfl) ?_;(with_reducible refine (laws_eqOrderS.calls kj29 _ _ t627 _ _ t602 τ _ ?side1 ?side2 ?side3 ?side4 A61.out).mono ?_);(case side1=>repeat (exact (ζg HO630.out).2.2));(case side2=>exact (ζg HO630.out).2.1);(case side3=>repeat (exact (ζg HO_4.out).2.2));(case side4=>exact (ζg HO_4.out).2.1);rintro e w65 ⟨rfl,hb⟩;refine ⟨_,rfl,?_⟩;have n0_:=ζa (ζh (by exact HO_4.out) hb);have n1_:=ζa (ζh (by exact HO_7.out) hb);have n2_:=ζa (ζh (by exact HO626.out) hb);have n3_:=ζa (ζh (by exact HO630.out) hb);have n4_:=ζa (δr (by exact HB.out) hb);clear HO_4;clear HO_7;clear HO626;clear HO630;clear HB;have HO_4:=n0_;have HO_7:=n1_;have HO626:=n2_;have HO630:=n3_;have HB:=n4_;clear n0_ n1_ n2_ n3_ n4_;(try clear hb);(try clear hb2);(try clear hk);(try clear hi)))
             go_meet
             case rel=>exact ⟨_,((t628 != t603)),(by rfl),H',⟨by have:=HJ8.out;have:=HJ29.out;omega⟩,⟨by exact Kd.R_mono HO_7.out (fun _ hk=>trivial)⟩,⟨by repeat ((with_reducible exact HB.out))⟩⟩
            ·
             replace c62:=Bool.eq_false_iff.mpr c62
             subst c62
             have H1:(laws_FnExactOrdersOf.j2 kj29 t622 t621 τ)=some r:=by rw [if_neg (show ¬ (φ=τ) by decide)] at H;exact H
             clear H
             have H:=H1
             clear H1
             have H':=ζa H
             clear H
             obtain ⟨Ao66,co66,eo66⟩:=Kd.R_slice HO630.out
             subst eo66
             obtain ⟨Ao67,co67,eo67⟩:=Kd.R_slice HO_4.out
             subst eo67
             go_wp2_with (((with_reducible refine δv (f:=28) rfl ?_);refine goesL_ (some 81) rfl rfl Tryd.func28 (by kernel_rfl) rfl #[.slice Ao66 t627.length co66,.slice Ao67 t602.length co67] rfl (by (try simp only [δd,δe,δf]);rfl) ?_;(with_reducible refine (laws_eqOrderS.calls kj29 _ _ t627 _ _ t602 φ _ ?side1 ?side2 ?side3 ?side4 A61.out).mono ?_);(case side1=>repeat (exact (ζg HO630.out).2.2));(case side2=>exact (ζg HO630.out).2.1);(case side3=>repeat (exact (ζg HO_4.out).2.2));(case side4=>exact (ζg HO_4.out).2.1);rintro e w68 ⟨rfl,hb⟩;refine ⟨_,rfl,?_⟩;have n0_:=ζa (ζh (by exact HO_4.out) hb);have n1_:=ζa (ζh (by exact HO_7.out) hb);have n2_:=ζa (ζh (by exact HO626.out) hb);have n3_:=ζa (ζh (by exact HO630.out) hb);have n4_:=ζa (δr (by exact HB.out) hb);clear HO_4;clear HO_7;clear HO626;clear HO630;clear HB;have HO_4:=n0_;have HO_7:=n1_;have HO626:=n2_;have HO630:=n3_;have HB:=n4_;clear n0_ n1_ n2_ n3_ n4_;(try clear hb);(try clear hb2);(try clear hk);(try clear hi)))
             go_meet
             case rel=>exact ⟨_,(τ),(by rfl),H',⟨by have:=HJ8.out;have:=HJ29.out;omega⟩,⟨by exact Kd.R_mono HO_7.out (fun _ hk=>trivial)⟩,⟨by repeat ((with_reducible exact HB.out))⟩⟩
           case rest =>
            clear HC54
            try clear c1
            try clear c2
            try clear p2
            try clear c3
            try clear c3b0
            try clear c4
            try clear c5
            try clear c6
            try clear c7
            try clear c17
            try clear c18
            try clear c19
            try clear c22
            try clear c25
            try clear c26
            try clear c27
            try clear c28
            try clear c29
            try clear c30
            try clear c31
            try clear c35
            try clear c35b0
            try clear c37
            try clear c44
            try clear c47
            try clear c47b0
            try clear c51
            try clear c51b0
            try clear c51b1
            try clear c62
            try clear p2
            obtain ⟨kq,x87_53,rfl,HA,HJ53,HO_7,HB⟩:=hcut
            have hl7_53:=(ζg HO_7.out).1
            rw [hl7_53] at HO_7
            (try simp only [hl7_53])
            cases kq with
            | zero=>exact absurd HA.out (by simp [laws_FnExactOrdersOf.j2])
            | succ kj53 =>
             have H:=HA.out
             clear HA
             simp only [laws_FnExactOrdersOf.j2] at H
             by_cases c69:x87_53=τ
             ·
              subst c69
              have H1:(some φ)=some r:=by rw [if_pos rfl] at H;exact H
              clear H
              have H:=H1
              clear H1
              obtain rfl:=Option.some.inj H
              go_wp2
              go_ret
              exact ⟨by rfl,by repeat ((with_reducible exact HB.out))⟩
             ·
              replace c69:=Bool.eq_false_iff.mpr c69
              subst c69
              have H1:((laws_heldOrderS.f kj53 t622 1).bind fun t632=>(if t632<0 then (some φ) else (if t632=t621 then (some τ) else (some φ))))=some r:=by rw [if_neg (show ¬ (φ=τ) by decide)] at H;exact H
              clear H
              have H:=H1
              clear H1
              replace H:=Option.bind_eq_some_iff.mp H
              obtain ⟨t632,A700,H⟩:=H
              replace H:(if t632<0 then (some φ) else (if t632=t621 then (some τ) else (some φ)))=some r:=H
              have A70:=ζa A700
              clear A700
              by_cases c71:t632<0
              ·
               rw [if_pos c71] at H
               have c71b0:decide (t632<0)=τ:=decide_eq_true c71
               clear c71
               obtain rfl:=Option.some.inj H
               go_wp2_with (((with_reducible refine δv (f:=31) rfl ?_);refine goesL_ (some 90) rfl rfl Tryd.func31 (by kernel_rfl) rfl #[.slice Ao55 t622.length co55,.int .i64 1] rfl (by (try simp only [δd,δe,δf]);rfl) ?_;(with_reducible refine (laws_heldOrderS.calls kj53 _ _ t622 1 t632 _ ?side1 ?side2 A70.out).mono ?_);(case side1=>repeat (exact (ζg HO_7.out).2.2));(case side2=>exact (ζg HO_7.out).2.1);rintro e w72 ⟨rfl,hb⟩;refine ⟨_,rfl,?_⟩;have n0_:=ζa (ζh (by exact HO_7.out) hb);have n1_:=ζa (δr (by exact HB.out) hb);clear HO_7;clear HB;have HO_7:=n0_;have HB:=n1_;clear n0_ n1_;(try clear hb);(try clear hb2);(try clear hk);(try clear hi)))
               go_ret
               exact ⟨by rfl,by repeat ((with_reducible exact HB.out))⟩
              ·
               rw [if_neg c71] at H
               have c71b0:decide (t632<0)=φ:=decide_eq_false c71
               clear c71
               by_cases c73:t632=t621
               ·
                rw [if_pos c73] at H
                have c73b0:(t632 == t621)=τ:=beq_iff_eq.mpr c73
                have c73b1:(t632 != t621)=φ:=bne_eq_false_iff_eq.mpr c73
                clear c73
                obtain rfl:=Option.some.inj H
                go_wp2_with (((with_reducible refine δv (f:=31) rfl ?_);refine goesL_ (some 90) rfl rfl Tryd.func31 (by kernel_rfl) rfl #[.slice Ao55 t622.length co55,.int .i64 1] rfl (by (try simp only [δd,δe,δf]);rfl) ?_;(with_reducible refine (laws_heldOrderS.calls kj53 _ _ t622 1 t632 _ ?side1 ?side2 A70.out).mono ?_);(case side1=>repeat (exact (ζg HO_7.out).2.2));(case side2=>exact (ζg HO_7.out).2.1);rintro e w74 ⟨rfl,hb⟩;refine ⟨_,rfl,?_⟩;have n0_:=ζa (ζh (by exact HO_7.out) hb);have n1_:=ζa (δr (by exact HB.out) hb);clear HO_7;clear HB;have HO_7:=n0_;have HB:=n1_;clear n0_ n1_;(try clear hb);(try clear hb2);(try clear hk);(try clear hi)))
                go_ret
                exact ⟨by rfl,by repeat ((with_reducible exact HB.out))⟩
               ·
                rw [if_neg c73] at H
                have c73b0:(t632 == t621)=φ:=beq_eq_false_iff_ne.mpr c73
                have c73b1:(t632 != t621)=τ:=bne_iff_ne.mpr c73
                obtain rfl:=Option.some.inj H
                go_wp2_with (((with_reducible refine δv (f:=31) rfl ?_);refine goesL_ (some 90) rfl rfl Tryd.func31 (by kernel_rfl) rfl #[.slice Ao55 t622.length co55,.int .i64 1] rfl (by (try simp only [δd,δe,δf]);rfl) ?_;(with_reducible refine (laws_heldOrderS.calls kj53 _ _ t622 1 t632 _ ?side1 ?side2 A70.out).mono ?_);(case side1=>repeat (exact (ζg HO_7.out).2.2));(case side2=>exact (ζg HO_7.out).2.1);rintro e w75 ⟨rfl,hb⟩;refine ⟨_,rfl,?_⟩;have n0_:=ζa (ζh (by exact HO_7.out) hb);have n1_:=ζa (δr (by exact HB.out) hb);clear HO_7;clear HB;have HO_7:=n0_;have HB:=n1_;clear n0_ n1_;(try clear hb);(try clear hb2);(try clear hk);(try clear hi)))
                go_ret
                exact ⟨by rfl,by repeat ((with_reducible exact HB.out))⟩
          ·
           rw [if_neg c51] at H
           have c51b0:(t623 == t621)=φ:=beq_eq_false_iff_ne.mpr c51
           have c51b1:(t623 != t621)=τ:=bne_iff_ne.mpr c51
           obtain rfl:=Option.some.inj H
           obtain ⟨Ao76,co76,eo76⟩:=Kd.R_slice HO_7.out
           subst eo76
           go_wp2_with (first|((with_reducible refine δv (f:=30) rfl ?_);refine goesL_ (some 64) rfl rfl Tryd.func30 (by kernel_rfl) rfl #[.slice Ao76 t609.length co76,.int .i64 1] rfl (by (try simp only [δd,δe,δf]);rfl) ?_;(with_reducible refine (laws_markOrderS.calls kj29 (fun k_=>some k_=(.slice Ao76 t609.length co76:Value).ownBlock) (.slice Ao76 t609.length co76) t609 1 t621 t622 w _ ?side1 ?side2 A45.out).mono ?_);(case side1=>repeat ((with_reducible exact HB.out)));(case side2=>exact Kd.R_tight rfl HO_7.out);rintro e w77 ⟨rfl,hy0,hb,hkp⟩;refine ⟨_,rfl,?_⟩;have n0_:=ζa (Kd.R_mono (ok':=fun k_=>some k_≠(.slice Ao76 t609.length co76:Value).ownBlock) (Kd.R_keptB (HO_4.out) hkp (fun k_ hk_ hs_=>(hk_) hs_)) (fun k_ hk_=>hk_.1));have n1_:=ζa (Kd.R_reok rfl hy0 (fun k_ e_=>HO_7.out.1 k_ e_));have n2_:=ζa (hb);clear HO_4;clear HO_7;clear HB;have HO_4:=n0_;have HO_7:=n1_;have HB:=n2_;clear n0_ n1_ n2_;(try clear hb);(try clear hkp);(try clear hy0))|((with_reducible refine δv (f:=31) rfl ?_);refine goesL_ (some 67) rfl rfl Tryd.func31 (by kernel_rfl) rfl #[.slice Ao76 t622.length co76,.int .i64 1] rfl (by (try simp only [δd,δe,δf]);first|(rw [show t622.length=t609.length from (ζg HO_7.out).1.symm] <;> rfl)) ?_;(with_reducible refine (laws_heldOrderS.calls kj29 _ _ t622 1 t623 _ ?side1 ?side2 A46.out).mono ?_);(case side1=>repeat (exact (ζg HO_7.out).2.2));(case side2=>rw [show t622.length=t609.length from (ζg HO_7.out).1.symm];exact (ζg HO_7.out).2.1);rintro e w78 ⟨rfl,hb⟩;refine ⟨_,rfl,?_⟩;have n0_:=ζa (ζh (by exact HO_4.out) hb);have n1_:=ζa (ζh (by exact HO_7.out) hb);have n2_:=ζa (δr (by exact HB.out) hb);clear HO_4;clear HO_7;clear HB;have HO_4:=n0_;have HO_7:=n1_;have HB:=n2_;clear n0_ n1_ n2_;(try clear hb);(try clear hb2);(try clear hk);(try clear hi)))
           go_ret
           exact ⟨by rfl,by repeat ((with_reducible exact HB.out))⟩
     ·
      replace c28:=Bool.eq_false_iff.mpr c28
      subst c28
      have H1:(some φ)=some r:=by rw [if_neg (show ¬ (φ=τ) by decide)] at H;exact H
      clear H
      have H:=H1
      clear H1
      obtain rfl:=Option.some.inj H
      go_wp2_with (first|((with_reducible refine δv (f:=19) rfl ?_);refine goesL_ (some 43) rfl rfl Tryd.func19 (by kernel_rfl) rfl #[.slice A0 l0.length c0] rfl (by (try simp only [δd,δe,δf]);rfl) ?_;(with_reducible refine (laws_toPairS.calls kj8 _ _ l0 t614 _ ?side1 ?side2 A26.out).mono ?_);(case side1=>repeat (exact (Kd.C_below HR0.out HB.out)));(case side2=>exact HC0.out);rintro e w79 ⟨v615,rfl,ho0,hb⟩;refine ⟨_,rfl,?_⟩;have n0_:=ζa (ζh (by exact HO_4.out) hb);have n1_:=ζa (Kd.R_elder' (by exact HO_6.out) (Kd.R_base ho0) hb);have n2_:=ζa (ζh (by exact HO_7.out) hb);have n3_:=ζa (Kd.R_lower (Kd.R_new' ho0 (Kd.R_lt (by exact HO_6.out))) (δs (by exact HB.out)));have n4_:=ζa (δr (by exact HB.out) hb);clear HO_4;clear HO_6;clear HO_7;clear HB;have HO_4:=n0_;have HO_6:=n1_;have HO_7:=n2_;have HO616:=n3_;have HB:=n4_;clear n0_ n1_ n2_ n3_ n4_;(try clear hb);(try clear hb2);(try clear hk);(try clear hi);(try clear ho0);obtain ⟨Ao80,co80,eo80⟩:=Kd.R_slice HO616.out;subst eo80)|((with_reducible refine δv (f:=22) rfl ?_);refine goesL_ (some 44) rfl rfl Tryd.func22 (by kernel_rfl) rfl #[.slice Ao15 t606.length co15,.slice Ao80 t614.length co80] rfl (by (try simp only [δd,δe,δf]);rfl) ?_;(with_reducible refine (laws_eqPairS.calls kj8 _ _ t606 _ _ t614 φ _ ?side1 ?side2 ?side3 ?side4 A27.out).mono ?_);(case side1=>repeat (exact (ζg HO_6.out).2.2));(case side2=>exact (ζg HO_6.out).2.1);(case side3=>repeat (exact (ζg HO616.out).2.2));(case side4=>exact (ζg HO616.out).2.1);rintro e w81 ⟨rfl,hb⟩;refine ⟨_,rfl,?_⟩;have n0_:=ζa (ζh (by exact HO_4.out) hb);have n1_:=ζa (ζh (by exact HO_6.out) hb);have n2_:=ζa (ζh (by exact HO_7.out) hb);have n3_:=ζa (ζh (by exact HO616.out) hb);have n4_:=ζa (δr (by exact HB.out) hb);clear HO_4;clear HO_6;clear HO_7;clear HO616;clear HB;have HO_4:=n0_;have HO_6:=n1_;have HO_7:=n2_;have HO616:=n3_;have HB:=n4_;clear n0_ n1_ n2_ n3_ n4_;(try clear hb);(try clear hb2);(try clear hk);(try clear hi)))
      go_ret
      exact ⟨by rfl,by repeat ((with_reducible exact HB.out))⟩


open Go.RowKit renaming wrap64 → ζm
open Go.Proofs.YteghpdmlpefnfaaDoorW.PrintWords renaming gate_callee → δv, below_step → δr, gate_dst → δx, below_size → δs, below_drew1 → δj
open Go.Proofs.YteghpdmlpefnfaaDoorW.PrintLast renaming pure_ → ζk, any_of → ζj
open Go.Proofs.YteghpdmlpefnfaaDoorW.PrintWords.Kd renaming R_below → ζh

/-! ### spec_l00Digits: function 63 -/
def spec_l00Digits.f:Nat→Int→Option (ByteArray)
 | 0,_=>none
 | k+1,a0=>if a0=(-9223372036854775808) then (some (⟨#[45,57,50,50,51,51,55,50,48,51,54,56,53,52,55,55,53,56,48,56]⟩:ByteArray)) else (if a0<0 then ((spec_l00Digits.f k (ζm (-a0))).bind fun t107=>(if 1+t107.size≤9223372036854775807 then (some ((⟨#[45]⟩:ByteArray) ++ t107)) else (none))) else (if a0<10 then (some (strOfNums (([(ζm (48+a0)) % 256]:List Int)))) else ((spec_l00Digits.f k (ζm (Int.tdiv a0 10))).bind fun t111=>((some (([(ζm (48+(Int.tmod a0 10))) % 256]:List Int):List Int)).bind fun y112=>(if t111.size+(strOfNums y112).size≤9223372036854775807 then (some (t111 ++ (strOfNums y112))) else (none))))))
def spec_l00Digits.T7:Bool × List (List Nat × List Nat):=(τ,[([],[]),([0],[0]),([1],[1]),([],[]),([3],[3]),([4],[4]),([5],[5]),([6],[6]),([7],[7]),([2,8],[2,8]),([9,2,0,1,2,3,4,5,6,7,8,9],[9])])
def spec_l00Digits.B7:List Nat:=[0,1,3,0,8,24,56,120,248,511,1023]
theorem spec_l00Digits.tab7:rtab .any (opsOf Tryd.f63 7)=spec_l00Digits.T7:=by kernel_rfl
theorem spec_l00Digits.bits7:waitsOk spec_l00Digits.T7.2 spec_l00Digits.B7=τ:=by kernel_rfl
set_option maxHeartbeats 8000000 in
set_option maxRecDepth 100000 in
theorem spec_l00Digits.calls (k:Nat) : ∀ (a0:Int) (r:ByteArray) (w:World) (h:spec_l00Digits.f k a0=some r),
  Calls Tryd.prog 63 #[.int .i64 a0] w fun e w'=>e = .returned (.string r)∧Below w.heap.size w w':=by
 induction k using Nat.strongRecOn with
 | _ k ih =>
 intro a0 r w h
 cases k with
 | zero=>exact absurd h (by simp [spec_l00Digits.f])
 | succ k =>
 simp only [spec_l00Digits.f] at h
 have HB:=ζa (Below.refl w.heap.size w)
 have H:(if a0=(-9223372036854775808) then (some (⟨#[45,57,50,50,51,51,55,50,48,51,54,56,53,52,55,55,53,56,48,56]⟩:ByteArray)) else (if a0<0 then ((spec_l00Digits.f k (ζm (-a0))).bind fun t107=>(if 1+t107.size≤9223372036854775807 then (some ((⟨#[45]⟩:ByteArray) ++ t107)) else (none))) else (if a0<10 then (some (strOfNums (([(ζm (48+a0)) % 256]:List Int)))) else ((spec_l00Digits.f k (ζm (Int.tdiv a0 10))).bind fun t111=>((some (([(ζm (48+(Int.tmod a0 10))) % 256]:List Int):List Int)).bind fun y112=>(if t111.size+(strOfNums y112).size≤9223372036854775807 then (some (t111 ++ (strOfNums y112))) else (none)))))))=some r:=h
 clear h
 by_cases c2:a0=(-9223372036854775808)
 ·
  rw [if_pos c2] at H
  have c2b0:(a0 == (-9223372036854775808))=τ:=beq_iff_eq.mpr c2
  have c2b1:(a0 != (-9223372036854775808))=φ:=bne_eq_false_iff_eq.mpr c2
  clear c2
  obtain rfl:=Option.some.inj H
  go_enter Tryd.func63,Tryd.ntmps63
  go_wp2
  go_ret
  exact ⟨by rfl,by repeat ((with_reducible exact HB.out))⟩
 ·
  rw [if_neg c2] at H
  have c2b0:(a0 == (-9223372036854775808))=φ:=beq_eq_false_iff_ne.mpr c2
  have c2b1:(a0 != (-9223372036854775808))=τ:=bne_iff_ne.mpr c2
  by_cases c3:a0<0
  ·
   rw [if_pos c3] at H
   have c3b0:decide (a0<0)=τ:=decide_eq_true c3
   clear c3
   replace H:=Option.bind_eq_some_iff.mp H
   obtain ⟨t107,A40,H⟩:=H
   replace H:(if 1+t107.size≤9223372036854775807 then (some ((⟨#[45]⟩:ByteArray) ++ t107)) else (none))=some r:=H
   have A4:=ζa A40
   clear A40
   by_cases c5:1+t107.size≤9223372036854775807
   ·
    rw [if_pos c5] at H
    have c5b0:=eq_true c5
    have c5b1:decide (1+t107.size≤9223372036854775807)=τ:=decide_eq_true c5
    try have c5b2:(9223372036854775807<1+t107.size)=False:=eq_false (Nat.not_lt.2 c5)
    obtain rfl:=Option.some.inj H
    go_enter Tryd.func63,Tryd.ntmps63
    go_wp2_with (((with_reducible refine δv (f:=63) rfl ?_);refine goesL_ (some 9) rfl rfl Tryd.func63 (by kernel_rfl) rfl #[.int .i64 (ζm (-a0))] rfl (by (try simp only [δd,δe,δf]);rfl) ?_;(with_reducible refine (ih k (by omega) (ζm (-a0)) t107 _ A4.out).mono ?_);rintro e w6 ⟨rfl,hb⟩;refine ⟨_,rfl,?_⟩;have n0_:=ζa (δr (by exact HB.out) hb);clear HB;have HB:=n0_;clear n0_;(try clear hb);(try clear hb2);(try clear hk);(try clear hi)))
    go_ret
    exact ⟨by rfl,by repeat ((with_reducible exact HB.out))⟩
   ·
    rw [if_neg c5] at H
    exact absurd H (by simp)
  ·
   rw [if_neg c3] at H
   have c3b0:decide (a0<0)=φ:=decide_eq_false c3
   clear c3
   by_cases c7:a0<10
   ·
    rw [if_pos c7] at H
    have c7b0:decide (a0<10)=τ:=decide_eq_true c7
    clear c7
    obtain ⟨y108,hy108⟩ : ∃ y_:List Int,y_=(([(ζm (48+a0)) % 256]:List Int)):=⟨_,rfl⟩
    replace H:(some (strOfNums y108))=some r:=by (rw [hy108];with_reducible exact H)
    have Ny108:=ζa hy108
    clear hy108
    obtain rfl:=Option.some.inj H
    go_enter Tryd.func63,Tryd.ntmps63
    go_wp2_with (((with_reducible refine δx (N:=16) rfl ?_);refine Kd.R_lit (Kd.int .u8) _ 5 ?hg (N:=16) ?hd (xs:=([(ζm (48+a0)) % 256]:List Int)) (inner:=[.int .u8 ((ζm (48+a0)) % 256)]) (ok:=fun _=>True) (okp:=fun _=>True) ?hr ?hp (fun _ hk=>hk) trivial (Below.refl _ _) (Nat.le_refl _) (by simp) ?_;(case hd=>rfl);(case hg=>rfl);(case hr=>(go_simp;done));(case hp=>exact (Reps.one (show Kd.M (Kd.int .u8) _ _ _ ((ζm (48+a0)) % 256) [.int .u8 ((ζm (48+a0)) % 256)] from rfl) (Reps.none _ _)));intro v109 w8 ho9 hb hg_ hnew_;clear hg_ hnew_;(rw [← Ny108.out] at ho9);have n0_:=ζa (Kd.R_lower ho9 (δs (by exact HB.out)));have n1_:=ζa (δr (by exact HB.out) hb);clear HB;have HO110:=n0_;have HB:=n1_;clear n0_ n1_;clear hb ho9;have hcv10:=own_string (P:=Tryd.prog) Tryd.underlying25 Tryd.underlying5 Tryd.underlying9 (Kd.own_of_R HO110.out)))
    go_ret
    exact ⟨by rfl,by repeat ((with_reducible exact HB.out))⟩
   ·
    rw [if_neg c7] at H
    have c7b0:decide (a0<10)=φ:=decide_eq_false c7
    clear c7
    replace H:=Option.bind_eq_some_iff.mp H
    obtain ⟨t111,A110,H⟩:=H
    replace H:((some (([(ζm (48+(Int.tmod a0 10))) % 256]:List Int):List Int)).bind fun y112=>(if t111.size+(strOfNums y112).size≤9223372036854775807 then (some (t111 ++ (strOfNums y112))) else (none)))=some r:=H
    have A11:=ζa A110
    clear A110
    obtain ⟨y112,hy112⟩ : ∃ y_:List Int,y_=(([(ζm (48+(Int.tmod a0 10))) % 256]:List Int)):=⟨_,rfl⟩
    replace H:(if t111.size+(strOfNums y112).size≤9223372036854775807 then (some (t111 ++ (strOfNums y112))) else (none))=some r:=by (have H2_:=(Option.bind_some _ _).symm.trans H;rw [hy112];with_reducible exact H2_)
    have Ny112:=ζa hy112
    clear hy112
    by_cases c12:t111.size+(strOfNums y112).size≤9223372036854775807
    ·
     rw [if_pos c12] at H
     have c12b0:=eq_true c12
     have c12b1:decide (t111.size+(strOfNums y112).size≤9223372036854775807)=τ:=decide_eq_true c12
     try have c12b2:(9223372036854775807<t111.size+(strOfNums y112).size)=False:=eq_false (Nat.not_lt.2 c12)
     obtain rfl:=Option.some.inj H
     go_enter Tryd.func63,Tryd.ntmps63
     try go_wp2
     have n0_:=ζa (δj HB.out)
     clear HB
     have HB:=n0_
     clear n0_
     refine start_ (n:=11) (S:=fun w'=>True) (ds:=[]) #[φ,φ,φ,φ,φ,φ,φ,φ,φ,φ,φ] (by kernel_rfl) rfl rfl trivial (fun hHeld => ?_);refine with_tabW spec_l00Digits.tab7 spec_l00Digits.bits7 (fun HT_ HW_ => ?_)
     generalize w.drew=w13 at HB hHeld ⊢
     refine ζk (i:=0) (N:=some 18) (v:=?_) (a':=?_) #[τ,φ,φ,φ,φ,φ,φ,φ,φ,φ,φ] rfl rfl (ζj HT_.out (by kernel_rfl)) (fun _ _ _ h=>h) (Or.inl ⟨by rfl,?_⟩) ?_ ?_
     rotate_left
     · intro w';go_simp;with_reducible rfl
     rotate_left
     · simp only [ζl,δa,δb,δc,i64_w,i32_w];rfl
     refine ζk (i:=1) (N:=some 19) (v:=?_) (a':=?_) #[τ,τ,φ,φ,φ,φ,φ,φ,φ,φ,φ] rfl rfl (ζj HT_.out (by kernel_rfl)) (fun _ _ _ h=>h) (Or.inl ⟨by rfl,?_⟩) ?_ ?_
     rotate_left
     · intro w';go_simp;with_reducible rfl
     rotate_left
     · simp only [ζl,δa,δb,δc,i64_w,i32_w];rfl
     refine ζk (i:=3) (N:=some 21) (v:=?_) (a':=?_) #[τ,τ,φ,τ,φ,φ,φ,φ,φ,φ,φ] rfl rfl (ζj HT_.out (by kernel_rfl)) (fun _ _ _ h=>h) (Or.inl ⟨by rfl,?_⟩) ?_ ?_
     rotate_left
     · intro w';go_simp;with_reducible rfl
     rotate_left
     · simp only [ζl,δa,δb,δc,i64_w,i32_w];rfl
     refine ζk (i:=4) (N:=some 22) (v:=?_) (a':=?_) #[τ,τ,φ,τ,τ,φ,φ,φ,φ,φ,φ] rfl rfl (ζj HT_.out (by kernel_rfl)) (fun _ _ _ h=>h) (Or.inl ⟨by rfl,?_⟩) ?_ ?_
     rotate_left
     · intro w';go_simp;with_reducible rfl
     rotate_left
     · simp only [ζl,δa,δb,δc,i64_w,i32_w];rfl
     refine ζk (i:=5) (N:=some 23) (v:=?_) (a':=?_) #[τ,τ,φ,τ,τ,τ,φ,φ,φ,φ,φ] rfl rfl (ζj HT_.out (by kernel_rfl)) (fun _ _ _ h=>h) (Or.inl ⟨by rfl,?_⟩) ?_ ?_
     rotate_left
     · intro w';go_simp;with_reducible rfl
     rotate_left
     · simp only [ζl,δa,δb,δc,i64_w,i32_w];rfl
     refine ζk (i:=6) (N:=some 24) (v:=?_) (a':=?_) #[τ,τ,φ,τ,τ,τ,τ,φ,φ,φ,φ] rfl rfl (ζj HT_.out (by kernel_rfl)) (fun _ _ _ h=>h) (Or.inl ⟨by rfl,?_⟩) ?_ ?_
     rotate_left
     · intro w';go_simp;with_reducible rfl
     rotate_left
     · simp only [ζl,δa,δb,δc,i64_w,i32_w];rfl
     refine join_ (σ:=Value) 2 #[τ,τ,τ,τ,τ,τ,τ,τ,τ,φ,φ] (fun s_ => [(20,.string t111),(25,s_),(26,.string (strOfNums y112))]) (fun s_ w'=>(Kd.R (Kd.int .u8) 5 w' w.heap.size (fun _=>True) s_ y112)∧(Below w.heap.size w w')) ?_ ?_
     rotate_left
     ·
      intro hCont
      refine two_ (i:=2) (j:=7) (Ni:=some 20) (Nj:=some 25) #[τ,τ,τ,τ,τ,τ,τ,φ,φ,φ,φ] #[τ,τ,φ,τ,τ,τ,τ,τ,φ,φ,φ] rfl rfl rfl rfl (two_of HT_.out (by kernel_rfl)) (by decide) (by decide) (fun K hK => ?_) (fun K hK => ?_)
      ·
       skip
       refine goes_ Tryd.func63 (by kernel_rfl) rfl #[.int .i64 (ζm (Int.tdiv a0 10))] (by rfl) rfl rfl (by (try simp only [δd,δe,δf]);rfl) ?_
       with_reducible refine (ih k (by omega) (ζm (Int.tdiv a0 10)) t111 _ A11.out).mono ?_
       rintro e w14 ⟨rfl,hb⟩
       refine ⟨_,rfl,?_⟩
       have n0_:=ζa (δr (by exact HB.out) hb)
       clear HB
       have HB:=n0_
       clear n0_
       (try clear hb)
       (try clear hb2)
       (try clear hk)
       (try clear hi)
       refine hK.out _ _ trivial (fun hHeld => ?_)
       clear hK K
       refine norm_ (a':=?_) ?_ ?_
       rotate_left
       ·
        show ζl _ (some 20) _=_
        simp only [ζl,δa,δb,δc,i64_w,i32_w];rfl
       refine one_ (i:=7) (N:=some 25) #[τ,τ,τ,τ,τ,τ,τ,τ,φ,φ,φ] rfl rfl (one_of HT_.out (by kernel_rfl)) (by decide) (fun K hK => ?_)
       refine Kd.R_lit_step (Kd.int .u8) _ 5 ?hg (N:=25) ?hd (xs:=([(ζm (48+(Int.tmod a0 10))) % 256]:List Int)) (inner:=[.int .u8 ((ζm (48+(Int.tmod a0 10))) % 256)]) (ok:=fun _=>True) (okp:=fun _=>True) ?hr ?hp (fun _ hk=>hk) trivial (Below.refl _ _) (Nat.le_refl _) (by simp) ?_;(case hd=>rfl);(case hg=>rfl);(case hr=>(go_simp;rfl));(case hp=>exact (Reps.one (show Kd.M (Kd.int .u8) _ _ _ ((ζm (48+(Int.tmod a0 10))) % 256) [.int .u8 ((ζm (48+(Int.tmod a0 10))) % 256)] from rfl) (Reps.none _ _)))
       intro v113 w15 ho16 hb hg_ hnew_
       clear hg_ hnew_
       (rw [← Ny112.out] at ho16)
       have n0_:=ζa (Kd.R_lower ho16 (δs (by exact HB.out)))
       have n1_:=ζa (δr (by exact HB.out) hb)
       clear HB
       have HO114:=n0_
       have HB:=n1_
       clear n0_ n1_
       clear hb ho16
       refine hK.out _ _ trivial (fun hHeld => ?_)
       clear hK K
       refine norm_ (a':=?_) ?_ ?_
       rotate_left
       ·
        show ζl _ (some 25) _=_
        simp only [ζl,δa,δb,δc,i64_w,i32_w];rfl
       refine one_ (i:=8) (N:=some 26) #[τ,τ,τ,τ,τ,τ,τ,τ,τ,φ,φ] rfl rfl (one_of HT_.out (by kernel_rfl)) (by decide) (fun K hK => ?_)
       have hcv17:=own_string (P:=Tryd.prog) Tryd.underlying25 Tryd.underlying5 Tryd.underlying9 (Kd.own_of_R HO114.out)
       refine value_ (w1:=?_) (v:=?_) (by rfl) rfl ?_ ?_
       rotate_left 2
       ·
        go_simp
        constructor
        · rfl
        ·
         rfl
       clear hcv17
       refine hK.out _ _ trivial (fun hHeld => ?_)
       clear hK K
       refine norm_ (a':=?_) ?_ ?_
       rotate_left
       ·
        show ζl _ (some 26) _=_
        simp only [ζl,δa,δb,δc,i64_w,i32_w];rfl
       exact norm_ (by simp only [putAll,ζl,δa,δb,δc]) (hCont (v113) _ ⟨(by exact HO114.out),(by exact HB.out)⟩)
      ·
       skip
       refine Kd.R_lit_step (Kd.int .u8) _ 5 ?hg (N:=25) ?hd (xs:=([(ζm (48+(Int.tmod a0 10))) % 256]:List Int)) (inner:=[.int .u8 ((ζm (48+(Int.tmod a0 10))) % 256)]) (ok:=fun _=>True) (okp:=fun _=>True) ?hr ?hp (fun _ hk=>hk) trivial (Below.refl _ _) (Nat.le_refl _) (by simp) ?_;(case hd=>rfl);(case hg=>rfl);(case hr=>(go_simp;rfl));(case hp=>exact (Reps.one (show Kd.M (Kd.int .u8) _ _ _ ((ζm (48+(Int.tmod a0 10))) % 256) [.int .u8 ((ζm (48+(Int.tmod a0 10))) % 256)] from rfl) (Reps.none _ _)))
       intro v113 w14 ho15 hb hg_ hnew_
       clear hg_ hnew_
       (rw [← Ny112.out] at ho15)
       have n0_:=ζa (Kd.R_lower ho15 (δs (by exact HB.out)))
       have n1_:=ζa (δr (by exact HB.out) hb)
       clear HB
       have HO114:=n0_
       have HB:=n1_
       clear n0_ n1_
       clear hb ho15
       refine hK.out _ _ trivial (fun hHeld => ?_)
       clear hK K
       refine norm_ (a':=?_) ?_ ?_
       rotate_left
       ·
        show ζl _ (some 25) _=_
        simp only [ζl,δa,δb,δc,i64_w,i32_w];rfl
       refine two_ (i:=2) (j:=8) (Ni:=some 20) (Nj:=some 26) #[τ,τ,τ,τ,τ,τ,τ,τ,φ,φ,φ] #[τ,τ,φ,τ,τ,τ,τ,τ,τ,φ,φ] rfl rfl rfl rfl (two_of HT_.out (by kernel_rfl)) (by decide) (by decide) (fun K hK => ?_) (fun K hK => ?_)
       ·
        skip
        refine goes_ Tryd.func63 (by kernel_rfl) rfl #[.int .i64 (ζm (Int.tdiv a0 10))] (by rfl) rfl rfl (by (try simp only [δd,δe,δf]);rfl) ?_
        with_reducible refine (ih k (by omega) (ζm (Int.tdiv a0 10)) t111 _ A11.out).mono ?_
        rintro e w16 ⟨rfl,hb⟩
        refine ⟨_,rfl,?_⟩
        have n0_:=ζa (ζh (by exact HO114.out) hb)
        have n1_:=ζa (δr (by exact HB.out) hb)
        clear HO114
        clear HB
        have HO114:=n0_
        have HB:=n1_
        clear n0_ n1_
        (try clear hb)
        (try clear hb2)
        (try clear hk)
        (try clear hi)
        refine hK.out _ _ trivial (fun hHeld => ?_)
        clear hK K
        refine norm_ (a':=?_) ?_ ?_
        rotate_left
        ·
         show ζl _ (some 20) _=_
         simp only [ζl,δa,δb,δc,i64_w,i32_w];rfl
        refine one_ (i:=8) (N:=some 26) #[τ,τ,τ,τ,τ,τ,τ,τ,τ,φ,φ] rfl rfl (one_of HT_.out (by kernel_rfl)) (by decide) (fun K hK => ?_)
        have hcv17:=own_string (P:=Tryd.prog) Tryd.underlying25 Tryd.underlying5 Tryd.underlying9 (Kd.own_of_R HO114.out)
        refine value_ (w1:=?_) (v:=?_) (by rfl) rfl ?_ ?_
        rotate_left 2
        ·
         go_simp
         constructor
         · rfl
         ·
          rfl
        clear hcv17
        refine hK.out _ _ trivial (fun hHeld => ?_)
        clear hK K
        refine norm_ (a':=?_) ?_ ?_
        rotate_left
        ·
         show ζl _ (some 26) _=_
         simp only [ζl,δa,δb,δc,i64_w,i32_w];rfl
        exact norm_ (by simp only [putAll,ζl,δa,δb,δc]) (hCont (v113) _ ⟨(by exact HO114.out),(by exact HB.out)⟩)
       ·
        skip
        have hcv16:=own_string (P:=Tryd.prog) Tryd.underlying25 Tryd.underlying5 Tryd.underlying9 (Kd.own_of_R HO114.out)
        refine value_ (w1:=?_) (v:=?_) (by rfl) rfl ?_ ?_
        rotate_left 2
        ·
         go_simp
         constructor
         · rfl
         ·
          rfl
        clear hcv16
        refine hK.out _ _ trivial (fun hHeld => ?_)
        clear hK K
        refine norm_ (a':=?_) ?_ ?_
        rotate_left
        ·
         show ζl _ (some 26) _=_
         simp only [ζl,δa,δb,δc,i64_w,i32_w];rfl
        refine one_ (i:=2) (N:=some 20) #[τ,τ,τ,τ,τ,τ,τ,τ,τ,φ,φ] rfl rfl (one_of HT_.out (by kernel_rfl)) (by decide) (fun K hK => ?_)
        refine goes_ Tryd.func63 (by kernel_rfl) rfl #[.int .i64 (ζm (Int.tdiv a0 10))] (by rfl) rfl rfl (by (try simp only [δd,δe,δf]);rfl) ?_
        with_reducible refine (ih k (by omega) (ζm (Int.tdiv a0 10)) t111 _ A11.out).mono ?_
        rintro e w17 ⟨rfl,hb⟩
        refine ⟨_,rfl,?_⟩
        have n0_:=ζa (ζh (by exact HO114.out) hb)
        have n1_:=ζa (δr (by exact HB.out) hb)
        clear HO114
        clear HB
        have HO114:=n0_
        have HB:=n1_
        clear n0_ n1_
        (try clear hb)
        (try clear hb2)
        (try clear hk)
        (try clear hi)
        refine hK.out _ _ trivial (fun hHeld => ?_)
        clear hK K
        refine norm_ (a':=?_) ?_ ?_
        rotate_left
        ·
         show ζl _ (some 20) _=_
         simp only [ζl,δa,δb,δc,i64_w,i32_w];rfl
        exact norm_ (by simp only [putAll,ζl,δa,δb,δc]) (hCont (v113) _ ⟨(by exact HO114.out),(by exact HB.out)⟩)
     rintro v113 w18 ⟨h0_,h1_⟩
     have n0_:Aside0 (Kd.R (Kd.int .u8) 5 w18 w.heap.size (fun _=>True) v113 y112):=⟨h0_⟩
     have n1_:Aside0 (Below w.heap.size w w18):=⟨h1_⟩
     clear HB
     clear h0_ h1_
     have HO114:=n0_
     have HB:=n1_
     clear n0_ n1_
     have hHeld:=trivial
     refine norm_ (a':=?_) ?_ ?_
     rotate_left
     · simp only [putAll,ζl,δa,δb,δc];rfl
     refine ζk (i:=9) (N:=some 27) (v:=?_) (a':=?_) #[τ,τ,τ,τ,τ,τ,τ,τ,τ,τ,φ] rfl rfl (ζj HT_.out (by kernel_rfl)) (fun _ _ _ h=>h) (Or.inl ⟨by rfl,?_⟩) ?_ ?_
     rotate_left
     · intro w';go_simp;with_reducible rfl
     rotate_left
     · simp only [ζl,δa,δb,δc,i64_w,i32_w];rfl
     refine ζk (i:=10) (N:=some 2) (v:=?_) (a':=?_) #[τ,τ,τ,τ,τ,τ,τ,τ,τ,τ,τ] rfl rfl (ζj HT_.out (by kernel_rfl)) (fun _ _ _ h=>h) (Or.inl ⟨by rfl,?_⟩) ?_ ?_
     rotate_left
     · intro w';go_simp;with_reducible rfl
     rotate_left
     · simp only [ζl,δa,δb,δc,i64_w,i32_w];rfl
     refine done_ (done_of HT_.out (by kernel_rfl)) ?_
     try go_wp2
     go_ret
     exact ⟨by rfl,by repeat ((with_reducible exact HB.out))⟩
    ·
     rw [if_neg c12] at H
     exact absurd H (by simp)

end Go.Proofs.YteghpdmlpefnfaaDoor.Q

/- Plain arithmetic: products of two amounts in halves of nine digits; long division digit by digit. No program. -/
namespace Go.Proofs.YteghpdmlpefnfaaDoor.U
open Go Go.RowKit
set_option linter.unusedVariables false
set_option linter.unusedSimpArgs false

theorem wid {n : Int} (h0 : -9223372036854775808 ≤ n) (h1 : n ≤ 9223372036854775807) : wrap64 n = n := IntWalk.wrap64_in n ⟨h0, h1⟩
theorem tdiv_nn {a b : Int} (h : 0 ≤ a) : Int.tdiv a b = a / b := Int.tdiv_eq_ediv_of_nonneg h
theorem tmod_nn {a b : Int} (h : 0 ≤ a) : Int.tmod a b = a % b := Int.tmod_eq_emod_of_nonneg h
theorem u64w (n : Int) : IntKind.u64.wrap n = n % 18446744073709551616 := by simp [IntKind.wrap, IntKind.bits, IntKind.signed]
theorem u64id {n : Int} (h0 : 0 ≤ n) (h1 : n < 18446744073709551616) : IntKind.u64.wrap n = n := by rw [u64w]; exact Int.emod_eq_of_lt h0 h1

theorem mul_bd {x y X Y : Int} (hx : 0 ≤ x) (hx' : x ≤ X) (hy : 0 ≤ y) (hy' : y ≤ Y) : 0 ≤ x * y ∧ x * y ≤ X * Y :=
  ⟨Int.mul_nonneg hx hy, Int.mul_le_mul hx' hy' hy (Int.le_trans hx hx')⟩

theorem wide_eq (a b : Int) (ha : 0 ≤ a) (ha' : a ≤ 1000000000000000000) (hb : 0 ≤ b) (hb' : b ≤ 1000000000000000000) :
    a * b = (a / 1000000000) * (b / 1000000000) * 1000000000000000000 + ((a / 1000000000) * (b % 1000000000) + (a % 1000000000) * (b / 1000000000)) * 1000000000 + (a % 1000000000) * (b % 1000000000) := by
  have e1 : a = (a / 1000000000) * 1000000000 + a % 1000000000 := by omega
  have e2 : b = (b / 1000000000) * 1000000000 + b % 1000000000 := by omega
  generalize a / 1000000000 = x at *
  generalize a % 1000000000 = y at *
  generalize b / 1000000000 = z at *
  generalize b % 1000000000 = u at *
  subst e1 e2
  grind

/-- One digit more of a long division. -/
theorem digit_step (c T out rest low : Int) (hc : 1 ≤ c) (hT : 1 ≤ T) (hr : 0 ≤ rest) (hl : 0 ≤ low) :
    (out * 10 + (10 * rest + low / T % 10) / c) * T + ((10 * rest + low / T % 10) % c * T + low % T) / c = out * (10 * T) + (rest * (10 * T) + low % (10 * T)) / c := by
  have e1 : low % (10 * T) = low / T % 10 * T + low % T := by
    have h1 : low / (10 * T) = low / T / 10 := by rw [Int.mul_comm, Int.ediv_ediv_of_nonneg (by omega)]
    have h2 := Int.mul_ediv_add_emod low (10 * T)
    have h3 := Int.mul_ediv_add_emod low T
    have h4 := Int.mul_ediv_add_emod (low / T) 10
    rw [h1] at h2
    generalize low / T / 10 = p at *
    generalize low / T % 10 = d at *
    generalize low / T = m at *
    subst h4
    generalize low % T = e at *
    generalize low % (10 * T) = f at *
    grind
  have h5 := Int.mul_ediv_add_emod (10 * rest + low / T % 10) c
  generalize low / T % 10 = d at *
  generalize (10 * rest + d) / c = q at *
  generalize (10 * rest + d) % c = s at *
  have e2 : rest * (10 * T) + low % (10 * T) = c * (q * T) + (s * T + low % T) := by
    rw [e1]
    generalize low % T = e at *
    grind
  rw [e2, Int.mul_add_ediv_left _ _ (by omega)]
  grind

/-- Knuth's step: a digit that is guessed too great is told by the lower half. -/
theorem knuth_lower (Y yn1 yn0 u v q : Int) (hY : Y = yn1 * 4294967296 + yn0) (h0 : 0 ≤ yn0) (hv : 0 ≤ v) (hv' : v < 4294967296) (hq : 0 ≤ q) (h : q * Y ≤ u * 4294967296 + v) : q * yn1 ≤ u := by
  have h1 : q * Y = q * yn1 * 4294967296 + q * yn0 := by subst hY; grind
  have h2 : 0 ≤ q * yn0 := Int.mul_nonneg hq h0
  omega

end Go.Proofs.YteghpdmlpefnfaaDoor.U

/- A number's digits: the reference's are the library's. -/
namespace Go.Proofs.YteghpdmlpefnfaaDoor.U
open Go Go.RowKit Go.Proofs.YteghpdmlpefnfaaDoor.Q Go.Proofs.YteghpdmlpefnfaaDoorW.PrintWords Go.Proofs.YteghpdmlpefnfaaDoorW.PrintLast Go.Proofs.YteghpdmlpefnfaaDoorW.PrintMore
set_option linter.unusedVariables false
set_option linter.unusedSimpArgs false

def digV (u : Nat) : ByteArray := ⟨(Lib.decDigits u).toArray⟩
theorem one_digit (u : Nat) (h : u < 10) : strOfNums [(wrap64 (48 + (u : Int))) % 256] = ⟨#[UInt8.ofNat (48 + u)]⟩ := by
  rw [wid (by omega) (by omega)]
  have : ((48 + (u : Int)) % 256) = ((48 + u : Nat) : Int) := by omega
  rw [this]
  rfl
theorem digits_ev (u : Nat) (hu : u ≤ 1000000000000000000) : Ev (fun k => spec_l00Digits.f k (u : Int)) (digV u) := by
  induction u using Nat.strongRecOn with
  | _ u ih =>
    by_cases h : u < 10
    · refine Ev.step (fun k => ?_) (Ev.now _)
      rw [spec_l00Digits.f, if_neg (by omega), if_neg (by omega), if_pos (by omega), one_digit u h, digV, Lib.decDigits_one h]
    · have e1 : wrap64 (Int.tdiv (u : Int) 10) = ((u / 10 : Nat) : Int) := by rw [tdiv_nn (by omega), wid (by omega) (by omega)]; omega
      have e2 : Int.tmod (u : Int) 10 = ((u % 10 : Nat) : Int) := by rw [tmod_nn (by omega)]; omega
      have hs : (digV (u / 10)).size ≤ u := by
        show (Lib.decDigits (u / 10)).toArray.size ≤ u
        rw [List.size_toArray, Lib.decDigits_length]
        have hn : ∀ v : Nat, 1 ≤ v → Lib.nDigits v ≤ v := by
          intro v
          induction v using Nat.strongRecOn with
          | _ v ihv =>
            intro h1
            rw [Lib.nDigits]
            split
            · exact h1
            · have := ihv (v / 10) (by omega) (by omega); omega
        have := hn (u / 10) (by omega)
        omega
      refine Ev.step (f := fun k => (spec_l00Digits.f k ((u / 10 : Nat) : Int)).bind fun t => if t.size + 1 ≤ 9223372036854775807 then some (t ++ (⟨#[UInt8.ofNat (48 + u % 10)]⟩ : ByteArray)) else none) (fun k => ?_) ?_
      · rw [spec_l00Digits.f, if_neg (by omega), if_neg (by omega), if_neg (by omega), e1, e2]
        simp only [Option.bind_some, one_digit (u % 10) (by omega)]
        rfl
      · refine Ev.bind (ih (u / 10) (by omega) (by omega)) ?_
        simp only [if_pos (show (digV (u / 10)).size + 1 ≤ 9223372036854775807 by omega)]
        have : digV (u / 10) ++ (⟨#[UInt8.ofNat (48 + u % 10)]⟩ : ByteArray) = digV u := by
          unfold digV
          conv => rhs; rw [Lib.decDigits, dif_neg h]
          apply ByteArray.ext
          simp
        rw [this]
        exact Ev.now _
theorem itoa_eq (n : Int) (h : 0 ≤ n) : (⟨(Lib.itoa n).toArray⟩ : ByteArray) = digV n.toNat := by
  unfold Lib.itoa digV
  rw [if_neg (by omega)]
end Go.Proofs.YteghpdmlpefnfaaDoor.U

/- Amounts: the number that a text tells, as the program and as the reference read it. -/
namespace Go.Proofs.YteghpdmlpefnfaaDoor.U
open Go Go.RowKit Go.Proofs.YteghpdmlpefnfaaDoor.Q Go.Proofs.YteghpdmlpefnfaaDoorW.PrintWords Go.Proofs.YteghpdmlpefnfaaDoorW.PrintLast Go.Proofs.YteghpdmlpefnfaaDoorW.PrintMore
set_option linter.unusedVariables false
set_option linter.unusedSimpArgs false

theorem nd_small (j v : Nat) (h : v < 10 ^ (j + 1)) : Lib.nDigits v ≤ j + 1 := by
  induction j generalizing v with
  | zero => rw [Lib.nDigits, dif_pos (by simpa using h)]; omega
  | succ j ih =>
    rw [Lib.nDigits]
    split
    · omega
    · have := ih (v / 10) (by rw [Nat.pow_succ] at h; omega); omega
theorem digV_size (v : Nat) (h : v ≤ 1000000000000000000) : (digV v).size ≤ 19 := by
  show (Lib.decDigits v).toArray.size ≤ 19
  rw [List.size_toArray, Lib.decDigits_length]
  exact nd_small 18 v (by omega)
theorem dec_big {v : Nat} (h : ¬ v < 10) : Lib.decDigits v = Lib.decDigits (v / 10) ++ [UInt8.ofNat (48 + v % 10)] := by
  conv => lhs; rw [Lib.decDigits, dif_neg h]
theorem chr_nat (d : Nat) (h : d < 10) : (UInt8.ofNat (48 + d)).toNat = 48 + d := by
  rw [UInt8.toNat_ofNat']; omega

/-- Digits, one behind the other, onto what those ahead tell. -/
def telD (x : Nat) : List UInt8 → Option Nat
  | [] => some x
  | c :: r => if c.toNat < 48 ∨ 57 < c.toNat then none else if (1000000000000000000 - (c.toNat - 48)) / 10 < x then none else telD (x * 10 + (c.toNat - 48)) r
theorem telD_append (l r : List UInt8) : ∀ x, telD x (l ++ r) = (telD x l).bind fun y => telD y r := by
  induction l with
  | nil => intro x; rfl
  | cons c l ih =>
    intro x
    simp only [List.cons_append, telD]
    split
    · rfl
    · split
      · rfl
      · exact ih _
theorem telD_one (x d : Nat) (hd : d < 10) (h : x * 10 + d ≤ 1000000000000000000) : telD x [UInt8.ofNat (48 + d)] = some (x * 10 + d) := by
  simp only [telD, chr_nat d hd]
  rw [if_neg (by omega), if_neg (by omega)]
  congr 1; omega
theorem telD_dec (v : Nat) (h : v ≤ 1000000000000000000) : telD 0 (Lib.decDigits v) = some v := by
  induction v using Nat.strongRecOn with
  | _ v ih =>
    by_cases hv : v < 10
    · rw [Lib.decDigits_one hv, telD_one 0 v hv (by omega)]; congr 1; omega
    · rw [dec_big hv, telD_append, ih (v / 10) (by omega) (by omega)]
      show telD (v / 10) _ = _
      rw [telD_one _ _ (by omega) (by omega)]; congr 1; omega
/-- No needless naught ahead. -/
def plainB (l : List UInt8) : Bool := decide (l ≠ []) && (decide (l.length = 1) || decide (l.head? ≠ some 48))
theorem snoc_cases {α : Type} (l : List α) : l = [] ∨ ∃ (i : List α) (c : α), l = i ++ [c] := by
  rcases List.eq_nil_or_concat l with h | ⟨i, c, h⟩
  · exact .inl h
  · exact .inr ⟨i, c, by rw [h, List.concat_eq_append]⟩
theorem telD_snoc {l : List UInt8} {c : UInt8} {n : Nat} (h : telD 0 (l ++ [c]) = some n) :
    ∃ m, telD 0 l = some m ∧ 48 ≤ c.toNat ∧ c.toNat ≤ 57 ∧ n = m * 10 + (c.toNat - 48) ∧ n ≤ 1000000000000000000 := by
  rw [telD_append] at h
  obtain ⟨m, h1, h2⟩ := Option.bind_eq_some_iff.mp h
  refine ⟨m, h1, ?_⟩
  simp only [telD] at h2
  split at h2
  · cases h2
  · split at h2
    · cases h2
    · injection h2 with h2
      omega
theorem dec_of_telD (k : Nat) : ∀ (l : List UInt8) (n : Nat), l.length = k → plainB l = true → telD 0 l = some n → l = Lib.decDigits n ∧ n ≤ 1000000000000000000 := by
  induction k with
  | zero =>
    intro l n hl hp h
    have : l = [] := List.length_eq_zero_iff.1 hl
    subst this
    simp [plainB] at hp
  | succ k ih =>
    intro l n hl hp h
    rcases snoc_cases l with rfl | ⟨i, c, rfl⟩
    · simp at hl
    obtain ⟨m, h1, h2, h3, h4, h5⟩ := telD_snoc h
    refine ⟨?_, h5⟩
    by_cases hi : i = []
    · subst hi
      simp only [telD, Option.some.injEq] at h1
      subst h1
      rw [Lib.decDigits_one (by omega), h4]
      simp only [List.nil_append, List.cons.injEq, and_true]
      apply UInt8.toNat_inj.1
      rw [chr_nat _ (by omega)]; omega
    · have hne : i.head? ≠ some 48 := by
        simp only [plainB, Bool.and_eq_true, Bool.or_eq_true, decide_eq_true_iff] at hp
        rcases hp.2 with hp | hp
        · rw [List.length_append, List.length_singleton] at hp
          exact absurd (List.length_eq_zero_iff.1 (by omega)) hi
        · cases i with
          | nil => exact absurd rfl hi
          | cons a i => simpa using hp
      obtain ⟨e, _⟩ := ih i m (by rw [List.length_append, List.length_singleton] at hl; omega) (by simp only [plainB, Bool.and_eq_true, Bool.or_eq_true, decide_eq_true_iff]; exact ⟨hi, .inr hne⟩) h1
      have hm : m ≠ 0 := by
        rintro rfl
        rw [e, Lib.decDigits_one (by omega)] at hne
        exact hne rfl
      rw [dec_big (v := n) (by omega)]
      have e1 : n / 10 = m := by omega
      have e2 : n % 10 = c.toNat - 48 := by omega
      rw [e1, e2, ← e]
      congr 2
      apply UInt8.toNat_inj.1
      rw [chr_nat _ (by omega)]; omega
theorem dec_head (v : Nat) : ∃ d r, d < 10 ∧ Lib.decDigits v = UInt8.ofNat (48 + d) :: r := by
  induction v using Nat.strongRecOn with
  | _ v ih =>
    by_cases hv : v < 10
    · exact ⟨v, [], hv, Lib.decDigits_one hv⟩
    · obtain ⟨d, r, hd, e⟩ := ih (v / 10) (by omega)
      exact ⟨d, r ++ [UInt8.ofNat (48 + v % 10)], hd, by rw [dec_big hv, e]; rfl⟩
theorem dec_plain (v : Nat) : plainB (Lib.decDigits v) = true := by
  have hne : Lib.decDigits v ≠ [] := fun e => by
    have h := Lib.decDigits_length v
    rw [e] at h
    have := Lib.nDigits_pos v
    simp at h; omega
  have hd : Lib.nDigits v = 1 ∨ (Lib.decDigits v).head? ≠ some 48 := by
    induction v using Nat.strongRecOn with
    | _ v ih =>
      by_cases hv : v < 10
      · exact .inl (Lib.nDigits_small hv)
      · right
        obtain ⟨d, r, hd, e⟩ := dec_head (v / 10)
        by_cases hv2 : v / 10 < 10
        · rw [dec_big hv, Lib.decDigits_one hv2]
          simp only [List.cons_append, List.head?_cons, ne_eq, Option.some.injEq]
          intro e
          have := congrArg UInt8.toNat e
          rw [chr_nat _ hv2] at this
          have e48 : (48 : UInt8).toNat = 48 := rfl
          omega
        · rcases ih (v / 10) (by omega) (by rw [e]; simp) with h | h
          · rw [Lib.nDigits_big hv2] at h
            have := Lib.nDigits_pos (v / 10 / 10)
            omega
          · rw [e] at h
            rw [dec_big hv, e]
            exact h
  simp only [plainB, Bool.and_eq_true, Bool.or_eq_true, decide_eq_true_iff]
  refine ⟨hne, ?_⟩
  rcases hd with h | h
  · left; rw [Lib.decDigits_length, h]
  · exact .inr h
/-- The amount of a text, where it tells one. -/
def amtO (a : ByteArray) : Option Nat := if plainB a.data.toList = true then telD 0 a.data.toList else none
theorem amtO_iff (a : ByteArray) (n : Nat) : amtO a = some n ↔ a = digV n ∧ n ≤ 1000000000000000000 := by
  unfold amtO
  constructor
  · intro h
    split at h
    · rename_i hp
      obtain ⟨e, hn⟩ := dec_of_telD _ _ n rfl hp h
      refine ⟨?_, hn⟩
      apply ByteArray.ext
      apply Array.toList_inj.mp
      rw [e]
      rfl
    · cases h
  · rintro ⟨rfl, hn⟩
    have e : (digV n).data.toList = Lib.decDigits n := rfl
    rw [e, if_pos (dec_plain n)]
    exact telD_dec n hn
def amtV (a : ByteArray) : Int := match amtO a with | some n => (n : Int) | none => -1
theorem amtV_digV (n : Nat) (h : n ≤ 1000000000000000000) : amtV (digV n) = n := by
  unfold amtV
  rw [(amtO_iff _ n).2 ⟨rfl, h⟩]
theorem amtV_eq {a : ByteArray} (h : 0 ≤ amtV a) : a = digV (amtV a).toNat ∧ amtV a ≤ 1000000000000000000 := by
  unfold amtV at *
  cases e : amtO a with
  | none => rw [e] at h; simp at h
  | some n =>
    obtain ⟨h1, h2⟩ := (amtO_iff a n).1 e
    exact ⟨by simpa using h1, by simp only; omega⟩
theorem amtV_low (a : ByteArray) : -1 ≤ amtV a := by
  unfold amtV
  split <;> omega

/-! ### the program's -/
theorem parse_append (l r : List UInt8) : ∀ x, Lib.parseUint10 x (l ++ r) = match Lib.parseUint10 x l with | .ok u => Lib.parseUint10 u r | .syntax => .syntax | .range => .range := by
  induction l with
  | nil => intro x; rfl
  | cons c l ih =>
    intro x
    simp only [List.cons_append, Lib.parseUint10]
    split
    · split
      · rfl
      · split
        · rfl
        · exact ih _
    · rfl
theorem parse_one (x d : Nat) (hd : d < 10) (h : x * 10 + d < 9223372036854775808) : Lib.parseUint10 x [UInt8.ofNat (48 + d)] = .ok (x * 10 + d) := by
  simp only [Lib.parseUint10, chr_nat d hd]
  rw [if_pos (by omega), if_neg (by omega), if_neg (by omega)]
  congr 1; omega
theorem parse_dec (v : Nat) (h : v < 9223372036854775808) : Lib.parseUint10 0 (Lib.decDigits v) = .ok v := by
  induction v using Nat.strongRecOn with
  | _ v ih =>
    by_cases hv : v < 10
    · rw [Lib.decDigits_one hv, parse_one 0 v hv (by omega)]; congr 1; omega
    · rw [dec_big hv, parse_append, ih (v / 10) (by omega) (by omega)]
      show Lib.parseUint10 (v / 10) _ = _
      rw [parse_one _ _ (by omega) (by omega)]; congr 1; omega
theorem atoi_dec (v : Nat) (h : v < 9223372036854775808) : Lib.atoiAll (Lib.decDigits v) = .ok (v : Int) := by
  obtain ⟨d, r, hd, e⟩ := dec_head v
  have h1 := parse_dec v h
  rw [e] at h1 ⊢
  rw [Lib.atoiAll_plain _ _ (by rw [chr_nat d hd]; omega) (by rw [chr_nat d hd]; omega)]
  unfold Lib.parseMag
  rw [if_neg (by simp), h1]
  simp only [Lib.signless]
  rw [if_neg (by omega)]
theorem toList_eq_iff (a b : ByteArray) : a.toList = b.toList ↔ a = b := by
  constructor
  · intro h
    rw [ByteArray.toList_eq, ByteArray.toList_eq] at h
    exact ByteArray.ext (Array.toList_inj.mp h)
  · rintro rfl; rfl
theorem readAmount_eq (a : ByteArray) (hs : a.size ≤ 281474976710656) : impl_readAmount.f a = some (if 0 ≤ amtV a then (amtV a, true) else (0, false)) := by
  unfold impl_readAmount.f
  rw [if_pos hs]
  by_cases h : 0 ≤ amtV a
  · obtain ⟨e, hn⟩ := amtV_eq h
    rw [if_pos h]
    generalize amtV a = n at *
    have e1 : Lib.atoiAll a.data.toList = .ok n := by
      have := atoi_dec n.toNat (by omega)
      rw [e]
      rw [show ((n.toNat : Nat) : Int) = n by omega] at this
      exact this
    rw [e1]
    simp only [if_pos h, if_pos hn]
    rw [itoa_eq n h, ← e, if_pos rfl]
  · rw [if_neg h]
    cases hh : Lib.atoiAll a.data.toList with
    | «syntax» => rfl
    | range => rfl
    | ok v =>
      simp only
      by_cases h0 : 0 ≤ v
      · rw [if_pos h0]
        by_cases h1 : v ≤ 1000000000000000000
        · rw [if_pos h1, itoa_eq v h0]
          by_cases h2 : (digV v.toNat).toList = a.toList
          · exfalso
            have e := (toList_eq_iff _ _).1 h2
            apply h
            rw [← e, amtV_digV _ (by omega)]
            omega
          · rw [if_neg h2]
        · rw [if_neg h1]
      · rw [if_neg h0]

/-! ### the reference's -/
theorem bt_get (a : ByteArray) (i : Nat) (h : i < a.size) : bt a (i : Int) = ((a.data.toList[i]'(by rw [Array.length_toList]; exact h)).toNat : Int) := by
  unfold bt
  rw [dif_pos (by simpa using h)]
  simp
  rfl
def telI (x : Nat) (l : List UInt8) : Int := match telD x l with | some n => (n : Int) | none => -1
theorem l02Of_go (a : ByteArray) (hs : a.size ≤ 19) : ∀ (d i x : Nat), i + d = a.size → x ≤ 1000000000000000000 → Ev (fun k => spec_l02Of.l0 k a (x : Int) (i : Int)) (telI x (a.data.toList.drop i)) := by
  intro d
  induction d with
  | zero =>
    intro i x hi hx
    refine Ev.step (fun k => ?_) (Ev.now _)
    rw [spec_l02Of.l0, if_neg (by omega), List.drop_of_length_le (by rw [Array.length_toList]; show a.size ≤ i; omega)]
    rfl
  | succ d ih =>
    intro i x hi hx
    have hlt : i < a.size := by omega
    have hb := bt_get a i hlt
    have hl : i < a.data.toList.length := by rw [Array.length_toList]; exact hlt
    rw [List.drop_eq_getElem_cons hl]
    generalize a.data.toList[i] = c at *
    have hc := UInt8.toNat_lt c
    unfold telI
    simp only [telD]
    by_cases h1 : c.toNat < 48 ∨ 57 < c.toNat
    · rw [if_pos h1]
      refine Ev.step (f := fun k => spec_l02Of.j2 k a (x : Int) (i : Int) true) (fun k => ?_) (Ev.step (fun k => by rw [spec_l02Of.j2, if_pos rfl]) (Ev.now _))
      rw [spec_l02Of.l0, if_pos (by omega), if_pos (by omega), hb]
      by_cases h2 : c.toNat < 48
      · rw [if_pos (by omega)]
      · rw [if_neg (by omega), decide_eq_true (by omega)]
    · rw [if_neg h1]
      refine Ev.step (f := fun k => spec_l02Of.j2 k a (x : Int) (i : Int) false) (fun k => ?_) ?_
      · rw [spec_l02Of.l0, if_pos (by omega), if_pos (by omega), hb, if_neg (by omega), decide_eq_false (by omega)]
      · have e1 : ((c.toNat : Int) - 48) % 256 = ((c.toNat - 48 : Nat) : Int) := by omega
        by_cases h3 : (1000000000000000000 - (c.toNat - 48)) / 10 < x
        · rw [if_pos h3]
          refine Ev.step (fun k => ?_) (Ev.now _)
          rw [spec_l02Of.j2, if_neg (by decide), if_pos (by omega), if_pos (by omega), hb, e1, if_pos (by omega)]
        · rw [if_neg h3]
          have := ih (i + 1) (x * 10 + (c.toNat - 48)) (by omega) (by omega)
          refine Ev.step (fun k => ?_) this
          rw [spec_l02Of.j2, if_neg (by decide), if_pos (by omega), if_pos (by omega), hb, e1, if_neg (by omega), wid (n := (x : Int) * 10) (by omega) (by omega), wid (n := (x : Int) * 10 + _) (by omega) (by omega), wid (n := (i : Int) + 1) (by omega) (by omega)]
          rfl
theorem l02Of_ev (a : ByteArray) (hs : a.size ≤ 9223372036854775807) : Ev (fun k => spec_l02Of.f k a) (amtV a) := by
  have hbad : amtV a = -1 → Ev (fun k => spec_l02Of.j0 k a true) (amtV a) := fun e => by
    rw [e]; exact Ev.step (fun k => by rw [spec_l02Of.j0, if_pos rfl]) (Ev.now _)
  have hln : a.data.toList.length = a.size := by rw [Array.length_toList]; rfl
  have hbig : 19 < a.size → amtV a = -1 := fun h => by
    by_cases h0 : 0 ≤ amtV a
    · obtain ⟨e, hn⟩ := amtV_eq h0
      have := digV_size (amtV a).toNat (by omega)
      rw [← e] at this
      omega
    · have := amtV_low a; omega
  have hgo : Ev (fun k => spec_l02Of.l0 k a 0 0) (telI 0 a.data.toList) ∨ 19 < a.size := by
    by_cases h : 19 < a.size
    · exact .inr h
    · exact .inl (by have := l02Of_go a (by omega) a.size 0 0 (by omega) (by omega); simpa using this)
  unfold spec_l02Of.f spec_l01In.f
  by_cases h1 : (a.size : Int) ≥ 1
  · simp only [if_pos h1, Option.bind_some]
    by_cases h2 : (a.size : Int) ≤ 19
    · simp only [decide_eq_true h2, if_true]
      have hg : Ev (fun k => spec_l02Of.l0 k a 0 0) (telI 0 a.data.toList) := by
        rcases hgo with h | h
        · exact h
        · omega
      by_cases h3 : (a.size : Int) > 1
      · simp only [if_pos h3, if_pos (show (0 : Int) < (a.size : Int) by omega)]
        have hb := bt_get a 0 (by omega)
        have hh : a.data.toList.head? = some (a.data.toList[0]'(by omega)) := by rw [List.head?_eq_getElem?, List.getElem?_eq_getElem]
        by_cases h4 : a.data.toList[0]'(by omega) = 48
        · have e : (bt a 0 == 48) = true := by rw [beq_iff_eq]; have := hb; rw [h4] at this; exact this
          simp only [e]
          refine hbad ?_
          unfold amtV amtO
          rw [if_neg]
          simp only [plainB, Bool.and_eq_true, Bool.or_eq_true, decide_eq_true_iff, hh, h4]
          rintro ⟨_, h | h⟩
          · omega
          · exact h rfl
        · have e : (bt a 0 == 48) = false := by
            rw [beq_eq_false_iff_ne]
            intro h5
            apply h4
            apply UInt8.toNat_inj.1
            have e48 : (48 : UInt8).toNat = 48 := rfl
            have := hb.symm.trans h5
            omega
          simp only [e]
          refine Ev.step (fun k => by rw [spec_l02Of.j0, if_neg (by decide)]) ?_
          have e2 : amtV a = telI 0 a.data.toList := by
            unfold amtV amtO telI
            rw [if_pos]
            simp only [plainB, Bool.and_eq_true, Bool.or_eq_true, decide_eq_true_iff, hh]
            refine ⟨fun e0 => ?_, .inr (fun e0 => h4 (Option.some.inj e0))⟩
            rw [e0] at hln; simp at hln; omega
          rw [e2]
          exact hg
      · simp only [if_neg h3]
        refine Ev.step (fun k => by rw [spec_l02Of.j0, if_neg (by decide)]) ?_
        have e2 : amtV a = telI 0 a.data.toList := by
          unfold amtV amtO telI
          rw [if_pos]
          simp only [plainB, Bool.and_eq_true, Bool.or_eq_true, decide_eq_true_iff]
          refine ⟨fun e0 => ?_, .inl (by omega)⟩
          rw [e0] at hln; simp at hln; omega
        rw [e2]
        exact hg
    · simp only [decide_eq_false h2, Bool.false_eq_true, if_false]
      exact hbad (hbig (by omega))
  · simp only [if_neg h1, Option.bind_some, Bool.false_eq_true, if_false]
    refine hbad ?_
    unfold amtV amtO
    have : a.data.toList = [] := List.length_eq_zero_iff.1 (by omega)
    rw [this]
    rfl
end Go.Proofs.YteghpdmlpefnfaaDoor.U

/- A store is a row of pairs: its size, its copy, whether it stands, and what is found in it. -/
namespace Go.Proofs.YteghpdmlpefnfaaDoor.U
open Go Go.RowKit Go.Proofs.YteghpdmlpefnfaaDoor.Q Go.Proofs.YteghpdmlpefnfaaDoorW.PrintWords Go.Proofs.YteghpdmlpefnfaaDoorW.PrintLast Go.Proofs.YteghpdmlpefnfaaDoorW.PrintMore
set_option linter.unusedVariables false
set_option linter.unusedSimpArgs false

abbrev LP := S68
abbrev IP := S71
def toP (x : LP) : IP := ⟨x.f0, x.f1⟩
theorem rdL (l : List LP) (i : Nat) (h : i < l.length) : rd_T68 l (i : Int) = l[i] := by simp [rd_T68, List.getD_eq_getElem?_getD, List.getElem?_eq_getElem h]
theorem rdI (l : List IP) (i : Nat) (h : i < l.length) : rd_T71 l (i : Int) = l[i] := by simp [rd_T71, List.getD_eq_getElem?_getD, List.getElem?_eq_getElem h]

theorem szPair_ok (a b : ByteArray) (n : Int) (ha : a.size ≤ 9223372036854775807) (hb : b.size ≤ 9223372036854775807) (h0 : 0 ≤ n) (h1 : n ≤ 1048576) :
    ∃ z, laws_szPair.f a b n = some z ∧ (z < 0 ∨ (0 ≤ z ∧ z ≤ n ∧ a.size ≤ 1048576 ∧ b.size ≤ 1048576)) := by
  unfold laws_szPair.f
  rw [wid (n := n - (a.size : Int)) (by omega) (by omega)]
  by_cases c1 : n - (a.size : Int) < 0
  · exact ⟨-1, by rw [if_pos c1], .inl (by decide)⟩
  rw [if_neg c1, wid (n := n - (a.size : Int) - (b.size : Int)) (by omega) (by omega)]
  by_cases c2 : n - (a.size : Int) - (b.size : Int) < 0
  · exact ⟨-1, by rw [if_pos c2], .inl (by decide)⟩
  exact ⟨_, by rw [if_neg c2], .inr (by omega)⟩
/-- All pairs are short. -/
def Short (l : List LP) : Prop := l.length ≤ 1048576 ∧ ∀ x ∈ l, x.f0.size ≤ 1048576 ∧ x.f1.size ≤ 1048576
theorem szPairS_go (l : List LP) (hl : l.length ≤ 1048576) (hx : ∀ x ∈ l, x.f0.size ≤ 9223372036854775807 ∧ x.f1.size ≤ 9223372036854775807) : ∀ (d i : Nat) (n : Int), i + d = l.length → 0 ≤ n → n ≤ 1048576 →
    ∃ z, Ev (fun k => laws_szPairS.l0 k l n (i : Int)) z ∧ (z < 0 ∨ (0 ≤ z ∧ z ≤ n ∧ ∀ x ∈ l.drop i, x.f0.size ≤ 1048576 ∧ x.f1.size ≤ 1048576)) := by
  intro d
  induction d with
  | zero =>
    intro i n hi h0 h1
    refine ⟨n, Ev.step (fun k => ?_) (Ev.now _), .inr ⟨h0, Int.le_refl _, ?_⟩⟩
    · rw [laws_szPairS.l0, if_neg (by omega)]
    · rw [List.drop_of_length_le (by omega)]; simp
  | succ d ih =>
    intro i n hi h0 h1
    have hlt : i < l.length := by omega
    obtain ⟨z1, e1, hz1⟩ := szPair_ok l[i].f0 l[i].f1 n (hx _ (List.getElem_mem hlt)).1 (hx _ (List.getElem_mem hlt)).2 h0 h1
    have hstep : ∀ k, laws_szPairS.l0 (k + 1) l n (i : Int) = if z1 < 0 then some (-1) else laws_szPairS.l0 k l z1 ((i + 1 : Nat) : Int) := by
      intro k
      rw [laws_szPairS.l0, if_pos (by omega), if_pos (by omega), rdL l i hlt, e1, wid (n := (i : Int) + 1) (by omega) (by omega)]
      rfl
    by_cases hn : z1 < 0
    · exact ⟨-1, Ev.step hstep (by simp only [if_pos hn]; exact Ev.now _), .inl (by decide)⟩
    rcases hz1 with hz1 | ⟨hz0, hzn, ha, hb⟩
    · exact absurd hz1 hn
    obtain ⟨z, e2, hz⟩ := ih (i + 1) z1 (by omega) hz0 (by omega)
    refine ⟨z, Ev.step hstep (by simp only [if_neg hn]; exact e2), ?_⟩
    rcases hz with hz | ⟨hz1, hz2, hz3⟩
    · exact .inl hz
    refine .inr ⟨hz1, by omega, ?_⟩
    rw [List.drop_eq_getElem_cons hlt]
    intro x hxm
    rcases List.mem_cons.1 hxm with rfl | hxm
    · exact ⟨ha, hb⟩
    · exact hz3 x hxm
theorem szPairS_ev (l : List LP) (n : Int) (hl : l.length ≤ 9223372036854775807) (hx : ∀ x ∈ l, x.f0.size ≤ 9223372036854775807 ∧ x.f1.size ≤ 9223372036854775807) (h0 : 0 ≤ n) (h1 : n ≤ 1048576) :
    ∃ z, Ev (fun k => laws_szPairS.f k l n) z ∧ (z < 0 ∨ (0 ≤ z ∧ z ≤ n ∧ Short l)) := by
  unfold laws_szPairS.f
  rw [wid (n := n - (l.length : Int)) (by omega) (by omega)]
  by_cases c1 : n - (l.length : Int) < 0
  · exact ⟨-1, by simp only [if_pos c1]; exact Ev.now _, .inl (by decide)⟩
  simp only [if_neg c1]
  obtain ⟨z, e, hz⟩ := szPairS_go l (by omega) hx l.length 0 (n - (l.length : Int)) (by omega) (by omega) (by omega)
  refine ⟨z, e, ?_⟩
  rcases hz with hz | ⟨hz1, hz2, hz3⟩
  · exact .inl hz
  · exact .inr ⟨hz1, by omega, by omega, by simpa using hz3⟩

theorem toPairS_go (l : List LP) (hl : l.length ≤ 1048576) : ∀ (d i : Nat) (o : List IP), i + d = l.length → o.length = l.length → (∀ j, j < i → o[j]? = (l.map toP)[j]?) →
    Ev (fun k => laws_toPairS.l0 k l o (i : Int)) (l.map toP) := by
  intro d
  induction d with
  | zero =>
    intro i o hi ho hj
    have e : o = l.map toP := by
      apply List.ext_getElem?
      intro j
      by_cases h : j < i
      · exact hj j h
      · rw [List.getElem?_eq_none (by omega), List.getElem?_eq_none (by simp; omega)]
    refine Ev.step (fun k => ?_) (Ev.now _)
    rw [laws_toPairS.l0, if_neg (by omega), e]
  | succ d ih =>
    intro i o hi ho hj
    have hlt : i < l.length := by omega
    refine Ev.step (f := fun k => laws_toPairS.l0 k l (o.set i (toP l[i])) ((i + 1 : Nat) : Int)) (fun k => ?_) (ih (i + 1) (o.set i (toP l[i])) (by omega) (by simpa using ho) ?_)
    · rw [laws_toPairS.l0, if_pos (by omega), if_pos (by omega), rdL l i hlt]
      simp only [laws_toPair.f, Option.bind_some]
      rw [if_pos (by omega), wid (n := (i : Int) + 1) (by omega) (by omega)]
      rfl
    · intro j hji
      rw [List.getElem?_set]
      by_cases h : i = j
      · subst h
        rw [if_pos rfl, if_pos (by omega)]
        simp [hlt]
      · rw [if_neg h]
        exact hj j (by omega)
theorem toPairS_ev (l : List LP) (hl : l.length ≤ 1048576) : Ev (fun k => laws_toPairS.f k l) (l.map toP) := by
  unfold laws_toPairS.f
  simp only [if_pos (show (0 : Int) ≤ (l.length : Int) by omega), if_pos (show (l.length : Int).toNat ≤ 8796093022208 by omega)]
  exact toPairS_go l hl l.length 0 _ (by omega) (by simp) (by simp)
theorem eqPair_self (a b : ByteArray) : laws_eqPair.f a b a b = some true := by unfold laws_eqPair.f; rw [if_pos rfl, if_pos rfl]
theorem eqPairS_go (l : List IP) (hl : l.length ≤ 1048576) : ∀ (d i : Nat), i + d = l.length → Ev (fun k => laws_eqPairS.l0 k l l (i : Int)) true := by
  intro d
  induction d with
  | zero =>
    intro i hi
    exact Ev.step (fun k => by rw [laws_eqPairS.l0, if_neg (by omega)]) (Ev.now _)
  | succ d ih =>
    intro i hi
    refine Ev.step (f := fun k => laws_eqPairS.l0 k l l ((i + 1 : Nat) : Int)) (fun k => ?_) (ih (i + 1) (by omega))
    rw [laws_eqPairS.l0, if_pos (by omega), if_pos (by omega), if_pos (by omega), eqPair_self, wid (n := (i : Int) + 1) (by omega) (by omega)]
    rfl
theorem eqPairS_ev (l : List IP) (hl : l.length ≤ 1048576) : Ev (fun k => laws_eqPairS.f k l l) true := by
  unfold laws_eqPairS.f
  simp only [if_true]
  exact eqPairS_go l hl l.length 0 (by omega)

/-! ### whether it stands -/
def keyB (x : ByteArray) : Bool := decide (1 ≤ x.size ∧ x.size ≤ 60)
def valueB (x : ByteArray) : Bool := decide (x.size ≤ 1000)
def lessB (l : List IP) (i : Nat) : Bool := decide (i = 0) || Op.bytesLess ((rd_T71 l ((i : Int) - 1)).f0).toList ((rd_T71 l (i : Int)).f0).toList
def pairB (l : List IP) (i : Nat) : Bool := keyB (rd_T71 l (i : Int)).f0 && (valueB (rd_T71 l (i : Int)).f1 && lessB l i)
def fromB (l : List IP) : Nat → Nat → Bool
  | 0, _ => true
  | d + 1, i => pairB l i && fromB l d (i + 1)
/-- The store stands: keys and values are in their bounds, keys rise, and there are at most 400. -/
def storeB (l : List IP) : Bool := fromB l l.length 0 && decide (l.length ≤ 400)
theorem implKey_eq (x : ByteArray) : impl_isKey.f x = some (keyB x) := by
  unfold impl_isKey.f impl_within.f keyB
  by_cases h : (x.size : Int) ≥ 1
  · simp only [if_pos h, Option.bind_some]; congr 1; rw [decide_eq_decide]; omega
  · simp only [if_neg h, Option.bind_some]; congr 1; rw [eq_comm, decide_eq_false_iff_not]; omega
theorem specKey_eq (x : ByteArray) : spec_l03Key.f x = some (keyB x) := by
  unfold spec_l03Key.f spec_l01In.f keyB
  by_cases h : (x.size : Int) ≥ 1
  · simp only [if_pos h, Option.bind_some]; congr 1; rw [decide_eq_decide]; omega
  · simp only [if_neg h, Option.bind_some]; congr 1; rw [eq_comm, decide_eq_false_iff_not]; omega
theorem implValue_eq (x : ByteArray) : impl_isValue.f x = some (valueB x) := by
  unfold impl_isValue.f valueB; congr 1; rw [decide_eq_decide]; omega
theorem specPair_eq (x y : ByteArray) : spec_l03Pair.f x y = some (keyB x && valueB y) := by
  unfold spec_l03Pair.f valueB
  rw [specKey_eq]
  simp only [Option.bind_some]
  cases keyB x with
  | false => rfl
  | true => simp only [if_true, Bool.true_and]; congr 1; rw [decide_eq_decide]; omega
theorem specStore_go (l : List IP) (hl : l.length ≤ 1048576) : ∀ (d i : Nat), i + d = l.length → Ev (fun k => spec_StoreOK.l0 k l (i : Int)) (fromB l d i) := by
  intro d
  induction d with
  | zero =>
    intro i hi
    exact Ev.step (fun k => by rw [spec_StoreOK.l0, if_neg (by omega)]; rfl) (Ev.now _)
  | succ d ih =>
    intro i hi
    have hstep : ∀ k, spec_StoreOK.l0 (k + 1) l (i : Int) = if pairB l i = true then spec_StoreOK.l0 k l ((i + 1 : Nat) : Int) else some false := by
      intro k
      rw [spec_StoreOK.l0, if_pos (by omega), if_pos (by omega), specPair_eq]
      simp only [Option.bind_some, pairB, lessB]
      rw [wid (n := (i : Int) + 1) (by omega) (by omega)]
      rcases Bool.eq_false_or_eq_true (keyB (rd_T71 l (i : Int)).f0) with hk | hk
      · rcases Bool.eq_false_or_eq_true (valueB (rd_T71 l (i : Int)).f1) with hv | hv
        · simp only [hk, hv, Bool.true_and, Bool.and_self, if_true]
          by_cases h0 : i = 0
          · subst h0; simp
          · rw [if_pos (show (i : Int) > 0 by omega), wid (n := (i : Int) - 1) (by omega) (by omega), if_pos (by omega), if_pos (by omega), decide_eq_false h0, Bool.false_or]
            rfl
        · simp only [hk, hv, Bool.true_and, Bool.and_false, Bool.false_and, Bool.false_eq_true, if_false, if_true]
      · simp only [hk, Bool.false_and, Bool.false_eq_true, if_false]
    have h2 := ih (i + 1) (by omega)
    refine Ev.step hstep ?_
    rw [fromB]
    cases pairB l i with
    | false => exact Ev.now _
    | true => simp only [if_true, Bool.true_and]; exact h2
theorem specStoreOK_ev (l : List IP) (hl : l.length ≤ 1048576) : Ev (fun k => spec_StoreOK.f k l) (storeB l) := by
  unfold spec_StoreOK.f storeB
  by_cases h1 : (l.length : Int) > 4096
  · simp only [if_pos h1, decide_eq_false (show ¬ l.length ≤ 400 by omega), Bool.and_false]; exact Ev.now _
  simp only [if_neg h1]
  by_cases h2 : (l.length : Int) > 400
  · simp only [if_pos h2, decide_eq_false (show ¬ l.length ≤ 400 by omega), Bool.and_false]; exact Ev.now _
  simp only [if_neg h2, decide_eq_true (show l.length ≤ 400 by omega), Bool.and_true]
  exact specStore_go l hl l.length 0 (by omega)
theorem implStore_go (l : List IP) (hl : l.length ≤ 1048576) : ∀ (d i : Nat), i + d = l.length → Ev (fun k => impl_StoreOK.l0 k l l (l.length : Int) (i : Int)) (fromB l d i && decide (l.length ≤ 400)) := by
  intro d
  induction d with
  | zero =>
    intro i hi
    refine Ev.step (fun k => ?_) (Ev.now _)
    rw [impl_StoreOK.l0, if_neg (by omega), fromB, Bool.true_and]
    congr 1; rw [decide_eq_decide]; omega
  | succ d ih =>
    intro i hi
    have hstep : ∀ k, impl_StoreOK.l0 (k + 1) l l (l.length : Int) (i : Int) = if pairB l i = true then impl_StoreOK.l0 k l l (l.length : Int) ((i + 1 : Nat) : Int) else some false := by
      intro k
      rw [impl_StoreOK.l0, if_pos (by omega), if_pos (by omega), if_pos (by omega), implKey_eq, implValue_eq]
      simp only [Option.bind_some, pairB, lessB]
      rw [wid (n := (i : Int) + 1) (by omega) (by omega)]
      rcases Bool.eq_false_or_eq_true (keyB (rd_T71 l (i : Int)).f0) with hk | hk
      · rcases Bool.eq_false_or_eq_true (valueB (rd_T71 l (i : Int)).f1) with hv | hv
        · simp only [hk, hv, Bool.true_and, Bool.and_self, if_true]
          by_cases h0 : i = 0
          · subst h0; simp
          · rw [if_pos (show (i : Int) > 0 by omega), wid (n := (i : Int) - 1) (by omega) (by omega), if_pos (by omega), if_pos (by omega), decide_eq_false h0, Bool.false_or]
            rfl
        · simp only [hk, hv, Bool.true_and, Bool.and_false, Bool.false_and, Bool.false_eq_true, if_false, if_true]
      · simp only [hk, Bool.false_and, Bool.false_eq_true, if_false]
    have h2 := ih (i + 1) (by omega)
    refine Ev.step hstep ?_
    rw [fromB]
    cases pairB l i with
    | false => exact Ev.now _
    | true => simp only [if_true, Bool.true_and]; exact h2
theorem implStoreOK_ev (l : List IP) (hl : l.length ≤ 1048576) : Ev (fun k => impl_StoreOK.f k l) (storeB l) := by
  unfold impl_StoreOK.f storeB
  exact implStore_go l hl l.length 0 (by omega)
/-- The code of a store, no texts being too long. -/
def storeV (l : List IP) : Int := if l.length ≤ 4096 then (if storeB l = true then 0 else 1) else 2
theorem storeCode_ev (l : List IP) (ts : List ByteArray) (hl : l.length ≤ 1048576) :
    Ev (fun k => impl_storeCode.f k l ts) (if l.length ≤ 4096 ∧ (ts.any fun t => decide ((t.size : Int) > 65536)) = false then (if storeB l = true then 0 else 1) else 2) := by
  unfold impl_storeCode.f impl_isList_impl_Pair.f impl_isText.f
  simp only [Option.bind_some]
  have hbad : Ev (fun k => impl_storeCode.j0 k l true) 2 := Ev.step (fun k => by rw [impl_storeCode.j0, if_pos rfl]) (Ev.now _)
  by_cases h1 : l.length ≤ 4096
  · rw [decide_eq_true (show (l.length : Int) ≤ 4096 by omega)]
    simp only [if_true]
    cases h2 : (ts.any fun t => decide ((t.size : Int) > 65536)) with
    | true => simp only [Bool.not_true, Bool.not_false, Bool.true_eq_false, and_false, if_false]; exact hbad
    | false =>
      simp only [Bool.not_false, Bool.not_true, h1, and_true, if_true]
      refine Ev.step (fun k => by rw [impl_storeCode.j0, if_neg (by decide)]) (Ev.bind (implStoreOK_ev l hl) ?_)
      cases storeB l with
      | false => exact Ev.now _
      | true => simp only [if_true]; exact Ev.now _
  · rw [decide_eq_false (show ¬ (l.length : Int) ≤ 4096 by omega), if_neg (by simp [h1])]
    exact hbad
end Go.Proofs.YteghpdmlpefnfaaDoor.U

/- Marks: what the laws write into rows to see whether memory is shared. -/
namespace Go.Proofs.YteghpdmlpefnfaaDoor.U
open Go Go.RowKit Go.Proofs.YteghpdmlpefnfaaDoor.Q Go.Proofs.YteghpdmlpefnfaaDoorW.PrintWords Go.Proofs.YteghpdmlpefnfaaDoorW.PrintLast Go.Proofs.YteghpdmlpefnfaaDoorW.PrintMore
set_option linter.unusedVariables false
set_option linter.unusedSimpArgs false

def markV (n : Nat) : ByteArray := if n = 0 then (⟨#[109, 48]⟩ : ByteArray) else (⟨#[109]⟩ : ByteArray) ++ digV n
theorem digV_big {v : Nat} (h : ¬ v < 10) : digV v = digV (v / 10) ++ (⟨#[UInt8.ofNat (48 + v % 10)]⟩ : ByteArray) := by
  apply ByteArray.ext
  unfold digV
  rw [dec_big h]
  simp
theorem mark_go (v : Nat) : ∀ (acc : ByteArray), 1 ≤ v → v ≤ 1000000000000000000 → acc.size + v ≤ 9000000000000000000 → Ev (fun k => laws_markText.l0 k (v : Int) acc) ((⟨#[109]⟩ : ByteArray) ++ (digV v ++ acc)) := by
  induction v using Nat.strongRecOn with
  | _ v ih =>
    intro acc h1 h2 h3
    have e1 : wrap64 (Int.tdiv (v : Int) 10) = ((v / 10 : Nat) : Int) := by rw [tdiv_nn (by omega), wid (by omega) (by omega)]; omega
    have e2 : Int.tmod (v : Int) 10 = ((v % 10 : Nat) : Int) := by rw [tmod_nn (by omega)]; omega
    have sz : (⟨#[UInt8.ofNat (48 + v % 10)]⟩ : ByteArray).size = 1 := rfl
    refine Ev.step (f := fun k => laws_markText.l0 k ((v / 10 : Nat) : Int) ((⟨#[UInt8.ofNat (48 + v % 10)]⟩ : ByteArray) ++ acc)) (fun k => ?_) ?_
    · rw [laws_markText.l0, if_pos (by omega), e1, e2]
      simp only [Option.bind_some, one_digit (v % 10) (by omega)]
      rw [if_pos (by rw [sz]; omega)]
    · have hacc : ((⟨#[UInt8.ofNat (48 + v % 10)]⟩ : ByteArray) ++ acc).size = 1 + acc.size := by rw [ByteArray.size_append, sz]
      by_cases hv : v < 10
      · have e : v / 10 = 0 := by omega
        rw [e]
        refine Ev.step (fun k => ?_) (Ev.now _)
        rw [show ((0 : Nat) : Int) = 0 from rfl, laws_markText.l0, if_neg (by decide), if_pos (by rw [hacc]; omega)]
        have : digV v = (⟨#[UInt8.ofNat (48 + v % 10)]⟩ : ByteArray) := by
          apply ByteArray.ext
          unfold digV
          rw [Lib.decDigits_one hv, Nat.mod_eq_of_lt hv]
        rw [this]
      · have := ih (v / 10) (by omega) ((⟨#[UInt8.ofNat (48 + v % 10)]⟩ : ByteArray) ++ acc) (by omega) (by omega) (by rw [hacc]; omega)
        rw [digV_big hv]
        simp only [ByteArray.append_assoc] at this ⊢
        exact this
theorem markText_ev (n : Nat) (h : n ≤ 1000000000000000000) : Ev (fun k => laws_markText.f k (n : Int)) (markV n) := by
  unfold laws_markText.f markV
  by_cases h0 : n = 0
  · subst h0
    simp only [if_pos (show ((0 : Nat) : Int) ≤ 0 by decide), if_true]
    exact Ev.now _
  · simp only [if_neg (show ¬ (n : Int) ≤ 0 by omega), if_neg h0]
    have e := mark_go n (⟨#[]⟩ : ByteArray) (by omega) h (by show 0 + n ≤ _; omega)
    have z : digV n ++ (⟨#[]⟩ : ByteArray) = digV n := by apply ByteArray.ext; simp
    rw [z] at e
    exact e
/-- The pairs as they are marked, from a number on. -/
def markP (n i : Nat) : IP := ⟨markV (n + 2 * i), markV (n + 2 * i + 1)⟩
def markPs (n : Nat) (l : List IP) : List IP := (List.range l.length).map fun i => markP n i
theorem markPairS_go (N : Nat) (l : List IP) (n : Nat) (hl : l.length = N) (hN : N ≤ 1048576) (hn : n ≤ 1000000) : ∀ (d i : Nat) (o : List IP), i + d = N → o.length = N → (∀ j, j < i → o[j]? = some (markP n j)) →
    Ev (fun k => laws_markPairS.l0 k o ((n + 2 * i : Nat) : Int) (i : Int)) (((n + 2 * N : Nat) : Int), markPs n l) := by
  intro d
  induction d with
  | zero =>
    intro i o hi ho hj
    have e : o = markPs n l := by
      apply List.ext_getElem?
      intro j
      by_cases h : j < i
      · rw [hj j h]; unfold markPs; rw [List.getElem?_map, List.getElem?_range (by omega)]; rfl
      · rw [List.getElem?_eq_none (by omega), List.getElem?_eq_none (by unfold markPs; simp; omega)]
    refine Ev.step (fun k => ?_) (Ev.now _)
    rw [laws_markPairS.l0, if_neg (by omega), e, show i = N by omega]
  | succ d ih =>
    intro i o hi ho hj
    have hlt : i < o.length := by omega
    refine Ev.step (f := fun k => (laws_markText.f k ((n + 2 * i : Nat) : Int)).bind fun t => (laws_markText.f k ((n + 2 * i + 1 : Nat) : Int)).bind fun u => laws_markPairS.l0 k (o.set i ⟨t, u⟩) ((n + 2 * (i + 1) : Nat) : Int) ((i + 1 : Nat) : Int)) (fun k => ?_) ?_
    · have w1 : wrap64 (((n + 2 * i : Nat) : Int) + 1) = ((n + 2 * i + 1 : Nat) : Int) := by rw [wid (by omega) (by omega)]; omega
      have w2 : wrap64 (((n + 2 * i + 1 : Nat) : Int) + 1) = ((n + 2 * (i + 1) : Nat) : Int) := by rw [wid (by omega) (by omega)]; omega
      have w3 : wrap64 ((i : Int) + 1) = ((i + 1 : Nat) : Int) := by rw [wid (by omega) (by omega)]; omega
      rw [laws_markPairS.l0, if_pos (by omega)]
      congr 1
      funext t
      rw [if_pos (by omega), w1, w2, w3]
      simp only [Option.bind_some]
      congr 1
      funext u
      rw [Int.toNat_natCast, List.set_set]
      have : (rd_T71 (o.set i (⟨t, (rd_T71 o (i : Int)).f1⟩ : IP)) (i : Int)).f0 = t := by
        rw [rdI _ i (by rw [List.length_set]; exact hlt), List.getElem_set_self]
      rw [this]
    · refine Ev.bind (markText_ev _ (by omega)) (Ev.bind (markText_ev _ (by omega)) ?_)
      refine ih (i + 1) _ (by omega) (by rw [List.length_set]; exact ho) (fun j hji => ?_)
      rw [List.getElem?_set]
      by_cases h : i = j
      · subst h
        rw [if_pos rfl, if_pos hlt]
        rfl
      · rw [if_neg h]
        exact hj j (by omega)
theorem markPairS_ev (l : List IP) (n : Nat) (hN : l.length ≤ 1048576) (hn : n ≤ 1000000) : Ev (fun k => laws_markPairS.f k l (n : Int)) (((n + 2 * l.length : Nat) : Int), markPs n l) := by
  unfold laws_markPairS.f
  exact markPairS_go l.length l n rfl hN hn l.length 0 l (by omega) rfl (fun j h => by omega)
end Go.Proofs.YteghpdmlpefnfaaDoor.U

namespace Go.Proofs.YteghpdmlpefnfaaDoor.Q
open Go.RowKit Go.Proofs.YteghpdmlpefnfaaDoorW.PrintWords Go.Proofs.YteghpdmlpefnfaaDoorW.PrintLast Go.Proofs.YteghpdmlpefnfaaDoorW.PrintMore
open Go.Proofs.YteghpdmlpefnfaaDoorW.PrintWords.Aside0 renaming mk → ζa
open Go.Proofs.YteghpdmlpefnfaaDoorW.PrintWords renaming gate_callee → δv
open List renaming map_toArray → δd, map_cons → δe, map_nil → δf, length_drop → δg, length_take → δh
open Bool renaming true → τ, false → φ
attribute [local go_sem] max2_int min2_int max_two min_two max_three min_three max_four min_four   -- for this text's walks alone
set_option linter.unusedVariables false
set_option linter.unusedSimpArgs false

/-! ### spec_l03Get: function 82 -/
def spec_l03Get.f (k:Nat) (l0:List (S71)) (a1:ByteArray):Option (ByteArray × Bool):=(spec_l03At.f k l0 a1).bind fun t202=>(if t202<(l0.length:Int) then (if 0≤t202 then (if ((rd_T71 l0 t202).f0).toList=a1.toList then (some ((rd_T71 l0 t202).f1,τ)) else (some ((⟨#[]⟩:ByteArray),φ))) else (none)) else (some ((⟨#[]⟩:ByteArray),φ)))
set_option maxHeartbeats 8000000 in
set_option maxRecDepth 100000 in
theorem spec_l03Get.calls (k:Nat) (A0:Option Addr) (c0:Nat) (l0:List (S71)) (a1:ByteArray) (r1:ByteArray) (r2:Bool) (w:World) (hr0:Kd.C k71 w A0 l0.length l0) (hc0:l0.length≤c0) (h:spec_l03Get.f k l0 a1=some (r1,r2)) :
  Calls Tryd.prog 82 #[.slice A0 l0.length c0,.string a1] w fun e w'=>e = .returned (.tuple #[.string r1,.bool r2])∧Drawn0 w w':=by
 have HR0:=ζa hr0
 have HC0:=ζa hc0
 clear hr0 hc0
 have H:((spec_l03At.f k l0 a1).bind fun t202=>(if t202<(l0.length:Int) then (if 0≤t202 then (if ((rd_T71 l0 t202).f0).toList=a1.toList then (some ((rd_T71 l0 t202).f1,τ)) else (some ((⟨#[]⟩:ByteArray),φ))) else (none)) else (some ((⟨#[]⟩:ByteArray),φ))))=some (r1,r2):=h
 clear h
 replace H:=Option.bind_eq_some_iff.mp H
 obtain ⟨t202,A30,H⟩:=H
 replace H:(if t202<(l0.length:Int) then (if 0≤t202 then (if ((rd_T71 l0 t202).f0).toList=a1.toList then (some ((rd_T71 l0 t202).f1,τ)) else (some ((⟨#[]⟩:ByteArray),φ))) else (none)) else (some ((⟨#[]⟩:ByteArray),φ)))=some (r1,r2):=H
 have A3:=ζa A30
 clear A30
 by_cases c4:t202<(l0.length:Int)
 ·
  rw [if_pos c4] at H
  have c4b0:decide (t202<(l0.length:Int))=τ:=decide_eq_true c4
  clear c4
  by_cases c5:0≤t202
  ·
   rw [if_pos c5] at H
   have c5b0:decide (0≤t202)=τ:=decide_eq_true c5
   clear c5
   by_cases c6:((rd_T71 l0 t202).f0).toList=a1.toList
   ·
    rw [if_pos c6] at H
    have c6b0:(((rd_T71 l0 t202).f0).toList == a1.toList)=τ:=beq_iff_eq.mpr c6
    have c6b1:(((rd_T71 l0 t202).f0).toList != a1.toList)=φ:=bne_eq_false_iff_eq.mpr c6
    clear c6
    simp only [Option.some.injEq,Prod.mk.injEq] at H
    obtain ⟨rfl,rfl⟩:=H
    go_enter Tryd.func82,Tryd.ntmps82
    go_wp2_with (first|((with_reducible refine δv (f:=123) rfl ?_);refine goesL_ (some 9) rfl rfl Tryd.func123 (by kernel_rfl) rfl #[.slice A0 l0.length c0,.string a1] rfl (by (try simp only [δd,δe,δf]);first|done|rfl|(simp only [δg,δh];rfl)) ?_;(with_reducible refine (spec_l03At.calls k _ _ l0 a1 t202 _ ?side1 ?side2 A3.out).mono ?_);(case side1=>repeat (first|exact HR0.out|(with_reducible refine Kd.C_alloc ?_ _)|(with_reducible refine Kd.C_drewN ?_ _)|(with_reducible refine Kd.C_drew ?_)));(case side2=>exact HC0.out);rintro e w' ⟨rfl,⟨nd,rfl⟩⟩;refine ⟨_,rfl,?_⟩;have p203:0≤(t202:Int):=of_decide_eq_true (by first|(with_reducible assumption)|assumption);have q203:t202<(l0.length:Int):=of_decide_eq_true (by first|(with_reducible assumption)|assumption);obtain ⟨ad203,e203,hx203_0,hx203_1⟩:=at_T71 HR0.out t202 p203 q203;cases e203;replace p203:=eq_true p203;replace q203:=eq_true q203;have p204:0≤(t202:Int):=of_decide_eq_true (by first|(with_reducible assumption)|assumption);have q204:t202<(l0.length:Int):=of_decide_eq_true (by first|(with_reducible assumption)|assumption);obtain ⟨ad204,e204,hx204_0,hx204_1⟩:=at_T71 HR0.out t202 p204 q204;obtain rfl:ad203=ad204:=(by injection e204);replace p204:=eq_true p204;replace q204:=eq_true q204))
    go_ret2
    exact ⟨by first|rfl|(simp;done)|(simp [*];done),by repeat (first|exact Drawn0.refl _|apply Drawn0.step)⟩
   ·
    rw [if_neg c6] at H
    have c6b0:(((rd_T71 l0 t202).f0).toList == a1.toList)=φ:=beq_eq_false_iff_ne.mpr c6
    have c6b1:(((rd_T71 l0 t202).f0).toList != a1.toList)=τ:=bne_iff_ne.mpr c6
    simp only [Option.some.injEq,Prod.mk.injEq] at H
    obtain ⟨rfl,rfl⟩:=H
    go_enter Tryd.func82,Tryd.ntmps82
    go_wp2_with (first|((with_reducible refine δv (f:=123) rfl ?_);refine goesL_ (some 9) rfl rfl Tryd.func123 (by kernel_rfl) rfl #[.slice A0 l0.length c0,.string a1] rfl (by (try simp only [δd,δe,δf]);first|done|rfl|(simp only [δg,δh];rfl)) ?_;(with_reducible refine (spec_l03At.calls k _ _ l0 a1 t202 _ ?side1 ?side2 A3.out).mono ?_);(case side1=>repeat (first|exact HR0.out|(with_reducible refine Kd.C_alloc ?_ _)|(with_reducible refine Kd.C_drewN ?_ _)|(with_reducible refine Kd.C_drew ?_)));(case side2=>exact HC0.out);rintro e w' ⟨rfl,⟨nd,rfl⟩⟩;refine ⟨_,rfl,?_⟩;have p203:0≤(t202:Int):=of_decide_eq_true (by first|(with_reducible assumption)|assumption);have q203:t202<(l0.length:Int):=of_decide_eq_true (by first|(with_reducible assumption)|assumption);obtain ⟨ad203,e203,hx203_0,hx203_1⟩:=at_T71 HR0.out t202 p203 q203;cases e203;replace p203:=eq_true p203;replace q203:=eq_true q203))
    go_ret2
    exact ⟨by first|rfl|(simp;done)|(simp [*];done),by repeat (first|exact Drawn0.refl _|apply Drawn0.step)⟩
  ·
   rw [if_neg c5] at H
   exact absurd H (by simp)
 ·
  rw [if_neg c4] at H
  have c4b0:decide (t202<(l0.length:Int))=φ:=decide_eq_false c4
  clear c4
  simp only [Option.some.injEq,Prod.mk.injEq] at H
  obtain ⟨rfl,rfl⟩:=H
  go_enter Tryd.func82,Tryd.ntmps82
  go_wp2_with (first|((with_reducible refine δv (f:=123) rfl ?_);refine goesL_ (some 9) rfl rfl Tryd.func123 (by kernel_rfl) rfl #[.slice A0 l0.length c0,.string a1] rfl (by (try simp only [δd,δe,δf]);first|done|rfl|(simp only [δg,δh];rfl)) ?_;(with_reducible refine (spec_l03At.calls k _ _ l0 a1 t202 _ ?side1 ?side2 A3.out).mono ?_);(case side1=>repeat (first|exact HR0.out|(with_reducible refine Kd.C_alloc ?_ _)|(with_reducible refine Kd.C_drewN ?_ _)|(with_reducible refine Kd.C_drew ?_)));(case side2=>exact HC0.out);rintro e w' ⟨rfl,⟨nd,rfl⟩⟩;refine ⟨_,rfl,?_⟩))
  go_ret2
  exact ⟨by first|rfl|(simp;done)|(simp [*];done),by repeat (first|exact Drawn0.refl _|apply Drawn0.step)⟩



/-! ### strings_Compare: function 149 -/
def strings_Compare.f (a0 : ByteArray) (a1 : ByteArray) : Option Int := some (Lib.compareBytes a0.data.toList a1.data.toList)
theorem strings_Compare.calls (a0 : ByteArray) (a1 : ByteArray) (r : Int) (w : World) (h : strings_Compare.f a0 a1 = some r) :
    Calls Tryd.prog 149 #[.string a0, .string a1] w fun e w' => e = .returned (.int .i64 r) ∧ Drawn0 w w' := by
  obtain rfl := Option.some.inj h
  refine (Tryd.strings_Compare a0 a1 w).mono ?_
  rintro e w' ⟨rfl, rfl⟩
  exact ⟨rfl, Drawn0.refl _⟩


open Go.Proofs.YteghpdmlpefnfaaDoorW.PrintWords renaming gate_dst → δx, box_event → δz, below_step → δr, below_alloc → δk, pw_below_drewN → δi, below_drew1 → δj, below_size → δs, blk_cell → δl, blk_frozen → δm, gate_callee → δv, below_set → δq

/-! ### impl_pairAt_1: function 148 -/
def impl_pairAt_1.f (a0_0:ByteArray) (a0_1:ByteArray) (a1:ByteArray):Option (Int):=(strings_Compare.f a0_0 a1).bind fun t263=>(some t263)
set_option maxHeartbeats 8000000 in
set_option maxRecDepth 100000 in
theorem impl_pairAt_1.calls (a0_0:ByteArray) (a0_1:ByteArray) (a1:ByteArray) (r:Int) (w:World) (h:impl_pairAt_1.f a0_0 a0_1 a1=some r) :
  Calls Tryd.prog 148 #[.agg #[.string a0_0,.string a0_1],.string a1] w fun e w'=>e = .returned (.int .i64 r)∧Below w.heap.size w w':=by
 have hu71:=Tryd.underlying71
 have HB:=ζa (Below.refl w.heap.size w)
 have H:((strings_Compare.f a0_0 a1).bind fun t263=>(some t263))=some r:=h
 clear h
 replace H:=Option.bind_eq_some_iff.mp H
 obtain ⟨t263,A30,H⟩:=H
 replace H:(some t263)=some r:=H
 have A3:=ζa A30
 clear A30
 obtain rfl:=Option.some.inj H
 go_enter Tryd.func148,Tryd.ntmps148
 go_wp2_with (first|((with_reducible refine δx (N:=2) rfl ?_);refine δz ?hg (N:=2) ?hd (cs:=#[.string a0_0,.string a0_1]) (t:=71) ?hr ?_;(case hd=>rfl);(case hg=>rfl);(case hr=>first|(go_simp;done)|(go_simp;rfl));intro gb262 hg w4 hbox hb;have n0_:=ζa (δr (by repeat (first|(with_reducible first|exact HB.out|apply δk|apply δi|apply δj)|exact HB.out)) hb);have n1_:=ζa (hbox);have n2_:=ζa ((by rw [hg];exact (δs (by repeat (first|(with_reducible first|exact HB.out|apply δk|apply δi|apply δj)|exact HB.out))):w.heap.size≤gb262));have n3_:=ζa ((by rw [hg];exact (δs (by repeat (first|(with_reducible first|exact HB.out|apply δk|apply δi|apply δj)|exact HB.out))):w.heap.size≤gb262));clear HB;have HB:=n0_;have BK262:=n1_;have GW262:=n2_;have GE262:=n3_;clear n0_ n1_ n2_ n3_;clear hb hbox hg;have hcz5_0:w4.cell? ⟨gb262,0,none⟩=some (.string a0_0):=(δl BK262.out 0).trans rfl;have hcz5_1:w4.cell? ⟨gb262,1,none⟩=some (.string a0_1):=(δl BK262.out 1).trans rfl;have hfz5_0:=δm BK262.out 0;have hfz5_1:=δm BK262.out 1)|((with_reducible refine δv (f:=149) rfl ?_);refine goesL_ (some 8) rfl rfl Tryd.func149 (by kernel_rfl) rfl #[.string a0_0,.string a1] rfl (by (try simp only [δd,δe,δf]);first|done|rfl|(simp only [δg,δh];rfl)) ?_;(with_reducible refine (strings_Compare.calls a0_0 a1 t263 _ A3.out).mono ?_);rintro e w' ⟨rfl,⟨nd,rfl⟩⟩;refine ⟨_,rfl,?_⟩))
 go_ret
 exact ⟨by first|rfl|(simp [errW_none,errW_some] <;> rfl)|(simp [*,errW_none,errW_some] <;> rfl),by repeat (first|(with_reducible first|exact HB.out|apply δk|apply δi|apply δj|refine δq ?_ GE262.out)|exact HB.out)⟩


open Go.Proofs.YteghpdmlpefnfaaDoorW.PrintWords renaming below_step → δr

/-! ### impl_pairAt: function 126 -/
def impl_pairAt.l0:Nat→List S71→ByteArray→Int→Int→Option Int
 | 0,_,_,_,_=>none
 | k+1,l,key,i,j=>if i<j then (if 0≤(i+j) / 2 then (if (i+j) / 2<(l.length:Int) then (if Lib.compareBytes ((rd_T71 l ((i+j) / 2)).f0).data.toList key.data.toList<0 then (impl_pairAt.l0 k l key ((i+j) / 2+1) j) else (impl_pairAt.l0 k l key i ((i+j) / 2))) else none) else none) else some i
def impl_pairAt.hit (l:List S71) (key:ByteArray) (r:Int):Bool:=decide (r<(l.length:Int)) && (Lib.compareBytes ((rd_T71 l r).f0).data.toList key.data.toList == 0)
def impl_pairAt.f (k:Nat) (l0:List S71) (a1:ByteArray):Option (Int × Bool):=(impl_pairAt.l0 k l0 a1 0 (l0.length:Int)).bind fun r=>if (l0.length:Int)<1000000000000 then (if 0≤r then (if r≤(l0.length:Int) then some (r,impl_pairAt.hit l0 a1 r) else none) else none) else none
theorem impl_pairAt.lit (x:S71) (key:ByteArray) (w:World) :
  Calls Tryd.prog 148 #[.agg #[.string x.f0,.string x.f1],.string key] w fun e w'=>e = .returned (.int .i64 (Lib.compareBytes x.f0.data.toList key.data.toList))∧Below w.heap.size w w' :=
 impl_pairAt_1.calls x.f0 x.f1 key _ w rfl
set_option maxHeartbeats 4000000 in
set_option maxRecDepth 100000 in
theorem impl_pairAt.search (k:Nat) (A0:Option Addr) (c0:Nat) (l0:List S71) (key:ByteArray) (r:Int) (w:World) (hr0:Kd.C k71 w A0 l0.length l0)
  (h:impl_pairAt.l0 k l0 key 0 (l0.length:Int)=some r) (hlen:(l0.length:Int)<1000000000000) (hr:0≤r) (hr':r≤(l0.length:Int)) :
  Calls Tryd.prog 147 #[.slice A0 l0.length c0,.string key,.func (.func 148) #[] #[]] w fun e w'=>e = .returned (.tuple #[.int .i64 r,.bool (impl_pairAt.hit l0 key r)])∧Below w.heap.size w w':=by
 have HR0:=ζa hr0
 have HB:=ζa (Below.refl w.heap.size w)
 clear hr0
 have H':=ζa h
 clear h
 go_enter Tryd.func147,Tryd.ntmps147
 go_wp2
 go_loopg [9,10] k (fun kq v9 v10 w' => ∃ i j:Int,v9 = .int .i64 i∧v10 = .int .i64 j∧0≤i∧i≤j∧j≤(l0.length:Int)∧Aside0 (impl_pairAt.l0 kq l0 key i j=some r)∧Aside0 (Below w.heap.size w w'))
 case atStart=>exact ⟨0,(l0.length:Int),rfl,rfl,by omega,by omega,by omega,H',HB⟩
 case round =>
  clear H' HB
  obtain ⟨i,j,rfl,rfl,g0,g1,g2,HA,HB⟩:=hrel
  cases gk with
  | zero=>exact absurd HA.out (by simp [impl_pairAt.l0])
  | succ k1 =>
   have H:=HA.out
   clear HA
   simp only [impl_pairAt.l0] at H
   by_cases c2:i<j
   ·
    rw [if_pos c2] at H
    have p0:0≤(i+j) / 2:=by omega
    have p1:(i+j) / 2<(l0.length:Int):=by omega
    rw [if_pos p0,if_pos p1] at H
    obtain ⟨ad,e1,hx0,hx1⟩:=at_T71 HR0.out _ p0 p1
    cases e1
    replace hx0:=(HB.out.cell (World.block_lt_of_cell? w _ hx0)).trans hx0
    replace hx1:=(HB.out.cell (World.block_lt_of_cell? w _ hx1)).trans hx1
    have hcall:=impl_pairAt.lit (rd_T71 l0 ((i+j) / 2)) key
    obtain ⟨X,hX⟩ : ∃ X,Lib.compareBytes ((rd_T71 l0 ((i+j) / 2)).f0).data.toList key.data.toList=X:=⟨_,rfl⟩
    rw [hX] at hcall H
    clear hX
    have hcall':=ζa hcall
    clear hcall
    go_wp2_with fail
    refine (hcall'.out _).mono ?_
    rintro e w' ⟨rfl,hb⟩
    have HB2:=ζa (δr HB.out hb)
    clear hb HB hcall'
    by_cases c3:X<0
    ·
     rw [if_pos c3] at H
     have H':=ζa H
     clear H hr hr'
     have hw1:IntKind.i64.wrap ((i+j) / 2+1)=(i+j) / 2+1:=IntWalk.i64_in _ (by omega)
     have q1:(i+j) / 2<j:=by omega
     have c3b:decide (X<0)=τ:=decide_eq_true c3
     clear c3
     generalize hm:(i+j) / 2=m at *
     clear hm p1
     go_wp2
     go_roundg k1
     case measure=>omega
     case rel=>exact ⟨m+1,j,by first|rfl|(simp;done),rfl,by omega,by omega,by omega,H',HB2⟩
    ·
     rw [if_neg c3] at H
     have H':=ζa H
     clear H hr hr'
     have q1:(i+j) / 2<j:=by omega
     have q2:i≤(i+j) / 2:=by omega
     have c3b:decide (X<0)=φ:=decide_eq_false c3
     clear c3
     generalize hm:(i+j) / 2=m at *
     clear hm p1
     go_wp2
     go_roundg k1
     case measure=>omega
     case rel=>exact ⟨i,m,rfl,by first|rfl|(simp;done),by omega,by omega,by omega,H',HB2⟩
   ·
    rw [if_neg c2] at H
    obtain rfl:=Option.some.inj H
    obtain rfl:i=j:=by omega
    by_cases c4:i<(l0.length:Int)
    ·
     obtain ⟨ad,e1,hx0,hx1⟩:=at_T71 HR0.out _ g0 c4
     cases e1
     replace hx0:=(HB.out.cell (World.block_lt_of_cell? w _ hx0)).trans hx0
     replace hx1:=(HB.out.cell (World.block_lt_of_cell? w _ hx1)).trans hx1
     have hfin:Aside0 (impl_pairAt.hit l0 key i=(Lib.compareBytes ((rd_T71 l0 i).f0).data.toList key.data.toList == 0)):=⟨by unfold impl_pairAt.hit;rw [decide_eq_true c4];rfl⟩
     have hcall:=impl_pairAt.lit (rd_T71 l0 i) key
     obtain ⟨X,hX⟩ : ∃ X,Lib.compareBytes ((rd_T71 l0 i).f0).data.toList key.data.toList=X:=⟨_,rfl⟩
     rw [hX] at hcall hfin
     clear hX
     have hcall':=ζa hcall
     clear hcall
     go_wp2_with fail
     refine (hcall'.out _).mono ?_
     rintro e w' ⟨rfl,hb⟩
     have HB2:=ζa (δr HB.out hb)
     clear hb HB hcall'
     go_wp2
     go_ret2
     exact ⟨by rw [hfin.out];first|rfl|(simp;done),HB2.out⟩
    ·
     have hfin:Aside0 (impl_pairAt.hit l0 key i=φ):=⟨by unfold impl_pairAt.hit;rw [decide_eq_false c4];rfl⟩
     go_wp2
     go_ret2
     exact ⟨by rw [hfin.out];first|rfl|(simp;done),HB.out⟩
set_option maxHeartbeats 4000000 in
set_option maxRecDepth 100000 in
theorem impl_pairAt.calls (k:Nat) (A0:Option Addr) (c0:Nat) (l0:List (S71)) (a1:ByteArray) (r1:Int) (r2:Bool) (w:World) (hr0:Kd.C k71 w A0 l0.length l0) (hc0:l0.length≤c0) (h:impl_pairAt.f k l0 a1=some (r1,r2)) :
  Calls Tryd.prog 126 #[.slice A0 l0.length c0,.string a1] w fun e w'=>e = .returned (.tuple #[.int .i64 r1,.bool r2])∧Below w.heap.size w w':=by
 obtain ⟨r,hl,h⟩:=Option.bind_eq_some_iff.mp h
 by_cases c1:(l0.length:Int)<1000000000000
 ·
  rw [if_pos c1] at h
  by_cases c2:0≤r
  ·
   rw [if_pos c2] at h
   by_cases c3:r≤(l0.length:Int)
   ·
    rw [if_pos c3] at h
    simp only [Option.some.injEq,Prod.mk.injEq] at h
    obtain ⟨rfl,rfl⟩:=h
    have HL:=ζa hl
    clear hl
    go_enter Tryd.func126,Tryd.ntmps126
    go_wp2_with fail
    refine (impl_pairAt.search k A0 c0 l0 a1 r _ hr0 HL.out c1 c2 c3).mono ?_
    rintro e w' ⟨rfl,hb⟩
    have HB2:=ζa hb
    clear hb
    go_wp2
    go_ret2
    exact ⟨rfl,HB2.out⟩
   · rw [if_neg c3] at h;cases h
  ·
   rw [if_neg c2] at h;cases h
 · rw [if_neg c1] at h;cases h


open Go.Proofs.YteghpdmlpefnfaaDoorW.PrintWords renaming gate_callee → δv, below_step → δr, below_alloc → δk, pw_below_drewN → δi, below_drew1 → δj

/-! ### impl_get: function 88 -/
def impl_get.f (k:Nat) (l0:List (S71)) (a1:ByteArray):Option (ByteArray × Bool):=(impl_pairAt.f k l0 a1).bind fun bt264=>(if bt264.2=τ then (if 0≤bt264.1 then (if bt264.1<(l0.length:Int) then (some ((rd_T71 l0 bt264.1).f1,τ)) else (none)) else (none)) else (some ((⟨#[]⟩:ByteArray),φ)))
set_option maxHeartbeats 8000000 in
set_option maxRecDepth 100000 in
theorem impl_get.calls (k:Nat) (A0:Option Addr) (c0:Nat) (l0:List (S71)) (a1:ByteArray) (r1:ByteArray) (r2:Bool) (w:World) (hr0:Kd.C k71 w A0 l0.length l0) (hc0:l0.length≤c0) (h:impl_get.f k l0 a1=some (r1,r2)) :
  Calls Tryd.prog 88 #[.slice A0 l0.length c0,.string a1] w fun e w'=>e = .returned (.tuple #[.string r1,.bool r2])∧Below w.heap.size w w':=by
 have HR0:=ζa hr0
 have HC0:=ζa hc0
 clear hr0 hc0
 have HB:=ζa (Below.refl w.heap.size w)
 have H:((impl_pairAt.f k l0 a1).bind fun bt264=>(if bt264.2=τ then (if 0≤bt264.1 then (if bt264.1<(l0.length:Int) then (some ((rd_T71 l0 bt264.1).f1,τ)) else (none)) else (none)) else (some ((⟨#[]⟩:ByteArray),φ))))=some (r1,r2):=h
 clear h
 replace H:=Option.bind_eq_some_iff.mp H
 obtain ⟨⟨t264,t265⟩,A30,H⟩:=H
 replace H:(if t265=τ then (if 0≤t264 then (if t264<(l0.length:Int) then (some ((rd_T71 l0 t264).f1,τ)) else (none)) else (none)) else (some ((⟨#[]⟩:ByteArray),φ)))=some (r1,r2):=H
 have A3:=ζa A30
 clear A30
 by_cases c4:t265=τ
 ·
  subst c4
  have H1:(if 0≤t264 then (if t264<(l0.length:Int) then (some ((rd_T71 l0 t264).f1,τ)) else (none)) else (none))=some (r1,r2):=by rw [if_pos rfl] at H;exact H
  clear H
  have H:=H1
  clear H1
  by_cases c5:0≤t264
  ·
   rw [if_pos c5] at H
   have c5b0:decide (0≤t264)=τ:=decide_eq_true c5
   clear c5
   by_cases c6:t264<(l0.length:Int)
   ·
    rw [if_pos c6] at H
    have c6b0:decide (t264<(l0.length:Int))=τ:=decide_eq_true c6
    clear c6
    simp only [Option.some.injEq,Prod.mk.injEq] at H
    obtain ⟨rfl,rfl⟩:=H
    go_enter Tryd.func88,Tryd.ntmps88
    go_wp2_with (first|((with_reducible refine δv (f:=126) rfl ?_);refine goesL_ (some 11) rfl rfl Tryd.func126 (by kernel_rfl) rfl #[.slice A0 l0.length c0,.string a1] rfl (by (try simp only [δd,δe,δf]);first|done|rfl|(simp only [δg,δh];rfl)) ?_;(with_reducible refine (impl_pairAt.calls k _ _ l0 a1 t264 τ _ ?side1 ?side2 A3.out).mono ?_);(case side1=>repeat (first|exact HR0.out|(with_reducible refine Kd.C_alloc ?_ _)|(with_reducible refine Kd.C_drewN ?_ _)|(with_reducible refine Kd.C_drew ?_)));(case side2=>exact HC0.out);rintro e w7 ⟨rfl,hb⟩;refine ⟨_,rfl,?_⟩;have n0_:=ζa (δr (by repeat (first|(with_reducible first|exact HB.out|apply δk|apply δi|apply δj)|exact HB.out)) hb);clear HB;have HB:=n0_;clear n0_;(try clear hb);(try clear hb2);(try clear hk);(try clear hi);have p266:0≤(t264:Int):=of_decide_eq_true (by first|(with_reducible assumption)|assumption);have q266:t264<(l0.length:Int):=of_decide_eq_true (by first|(with_reducible assumption)|assumption);obtain ⟨ad266,e266,hx266_0,hx266_1⟩:=at_T71 HR0.out t264 p266 q266;cases e266;replace hx266_0:=(HB.out.cell (World.block_lt_of_cell? w _ hx266_0)).trans hx266_0;replace hx266_1:=(HB.out.cell (World.block_lt_of_cell? w _ hx266_1)).trans hx266_1;replace p266:=eq_true p266;replace q266:=eq_true q266))
    go_ret2
    exact ⟨by first|rfl|(simp [errW_none,errW_some] <;> rfl)|(simp [*,errW_none,errW_some] <;> rfl),by repeat (first|(with_reducible first|exact HB.out|apply δk|apply δi|apply δj)|exact HB.out)⟩
   ·
    rw [if_neg c6] at H
    exact absurd H (by simp)
  ·
   rw [if_neg c5] at H
   exact absurd H (by simp)
 ·
  replace c4:=Bool.eq_false_iff.mpr c4
  subst c4
  have H1:(some ((⟨#[]⟩:ByteArray),φ))=some (r1,r2):=by rw [if_neg (show ¬ (φ=τ) by decide)] at H;exact H
  clear H
  have H:=H1
  clear H1
  simp only [Option.some.injEq,Prod.mk.injEq] at H
  obtain ⟨rfl,rfl⟩:=H
  go_enter Tryd.func88,Tryd.ntmps88
  go_wp2_with (first|((with_reducible refine δv (f:=126) rfl ?_);refine goesL_ (some 11) rfl rfl Tryd.func126 (by kernel_rfl) rfl #[.slice A0 l0.length c0,.string a1] rfl (by (try simp only [δd,δe,δf]);first|done|rfl|(simp only [δg,δh];rfl)) ?_;(with_reducible refine (impl_pairAt.calls k _ _ l0 a1 t264 φ _ ?side1 ?side2 A3.out).mono ?_);(case side1=>repeat (first|exact HR0.out|(with_reducible refine Kd.C_alloc ?_ _)|(with_reducible refine Kd.C_drewN ?_ _)|(with_reducible refine Kd.C_drew ?_)));(case side2=>exact HC0.out);rintro e w8 ⟨rfl,hb⟩;refine ⟨_,rfl,?_⟩;have n0_:=ζa (δr (by repeat (first|(with_reducible first|exact HB.out|apply δk|apply δi|apply δj)|exact HB.out)) hb);clear HB;have HB:=n0_;clear n0_;(try clear hb);(try clear hb2);(try clear hk);(try clear hi)))
  go_ret2
  exact ⟨by first|rfl|(simp [errW_none,errW_some] <;> rfl)|(simp [*,errW_none,errW_some] <;> rfl),by repeat (first|(with_reducible first|exact HB.out|apply δk|apply δi|apply δj)|exact HB.out)⟩

end Go.Proofs.YteghpdmlpefnfaaDoor.Q

/- What is found in a store: the reference's search and the program's take the same steps. -/
namespace Go.Proofs.YteghpdmlpefnfaaDoor.U
open Go Go.RowKit Go.Proofs.YteghpdmlpefnfaaDoor.Q Go.Proofs.YteghpdmlpefnfaaDoorW.PrintWords Go.Proofs.YteghpdmlpefnfaaDoorW.PrintLast Go.Proofs.YteghpdmlpefnfaaDoorW.PrintMore
set_option linter.unusedVariables false
set_option linter.unusedSimpArgs false

theorem cmp_neg : ∀ a b : List UInt8, Lib.compareBytes a b < 0 ↔ Op.bytesLess a b = true
  | [], [] => by simp [Lib.compareBytes, Op.bytesLess]
  | [], _ :: _ => by simp [Lib.compareBytes, Op.bytesLess]
  | _ :: _, [] => by simp [Lib.compareBytes, Op.bytesLess]
  | a :: x, b :: y => by
    rw [Lib.compareBytes, Op.bytesLess]
    by_cases h1 : a < b
    · simp [h1]
    · by_cases h2 : b < a
      · have h3 : ¬ a = b := fun e => by subst e; exact h1 h2
        simp [h1, h2, h3]
      · have h3 : a = b := UInt8.le_antisymm (UInt8.not_lt.1 h2) (UInt8.not_lt.1 h1)
        subst h3
        simp [h1, cmp_neg x y]
theorem cmp_zero : ∀ a b : List UInt8, Lib.compareBytes a b = 0 ↔ a = b
  | [], [] => by simp [Lib.compareBytes]
  | [], _ :: _ => by simp [Lib.compareBytes]
  | _ :: _, [] => by simp [Lib.compareBytes]
  | a :: x, b :: y => by
    rw [Lib.compareBytes]
    by_cases h1 : a < b
    · have h3 : ¬ a = b := fun e => by subst e; exact UInt8.lt_irrefl _ h1
      simp [h1, h3]
    · by_cases h2 : b < a
      · have h3 : ¬ a = b := fun e => by subst e; exact h1 h2
        simp [h1, h2, h3]
      · have h3 : a = b := UInt8.le_antisymm (UInt8.not_lt.1 h2) (UInt8.not_lt.1 h1)
        subst h3
        simp [h1, cmp_zero x y]
/-- Where a key's search ends. -/
def atV (l : List IP) (key : ByteArray) : Nat → Nat → Nat → Nat
  | 0, i, _ => i
  | f + 1, i, j => if i < j then (if Op.bytesLess ((rd_T71 l (((i + j) / 2 : Nat) : Int)).f0).toList key.toList = true then atV l key f ((i + j) / 2 + 1) j else atV l key f i ((i + j) / 2)) else i
theorem atV_bd (l : List IP) (key : ByteArray) : ∀ (f i j : Nat), i ≤ j → i ≤ atV l key f i j ∧ atV l key f i j ≤ j
  | 0, i, j, h => ⟨Nat.le_refl _, h⟩
  | f + 1, i, j, h => by
    rw [atV]
    by_cases h1 : i < j
    · rw [if_pos h1]
      split
      · have := atV_bd l key f ((i + j) / 2 + 1) j (by omega); omega
      · have := atV_bd l key f i ((i + j) / 2) (by omega); omega
    · rw [if_neg h1]; omega
theorem specAt_go (l : List IP) (key : ByteArray) (hl : l.length ≤ 1048576) : ∀ (f i j : Nat), j - i < f → i ≤ j → j ≤ l.length → Ev (fun k => spec_l03At.l0 k l key (i : Int) (j : Int)) (atV l key f i j : Int)
  | 0, i, j, h, _, _ => by omega
  | f + 1, i, j, h, hij, hj => by
    rw [atV]
    by_cases h1 : i < j
    · rw [if_pos h1]
      have e1 : wrap64 (Int.tdiv (wrap64 ((i : Int) + (j : Int))) 2) = (((i + j) / 2 : Nat) : Int) := by
        rw [wid (n := (i : Int) + (j : Int)) (by omega) (by omega), tdiv_nn (by omega), wid (by omega) (by omega)]; omega
      have hstep : ∀ k, spec_l03At.l0 (k + 1) l key (i : Int) (j : Int) = if Op.bytesLess ((rd_T71 l (((i + j) / 2 : Nat) : Int)).f0).toList key.toList = true then spec_l03At.l0 k l key (((i + j) / 2 + 1 : Nat) : Int) (j : Int) else spec_l03At.l0 k l key (i : Int) (((i + j) / 2 : Nat) : Int) := by
        intro k
        rw [spec_l03At.l0, if_pos (by omega), e1, if_pos (by omega), if_pos (by omega), wid (n := (((i + j) / 2 : Nat) : Int) + 1) (by omega) (by omega)]
        rfl
      refine Ev.step hstep ?_
      split
      · exact specAt_go l key hl f _ _ (by omega) (by omega) hj
      · exact specAt_go l key hl f _ _ (by omega) (by omega) (by omega)
    · rw [if_neg h1]
      exact Ev.step (fun k => by rw [spec_l03At.l0, if_neg (by omega)]) (Ev.now _)
theorem implAt_go (l : List IP) (key : ByteArray) (hl : l.length ≤ 1048576) : ∀ (f i j : Nat), j - i < f → i ≤ j → j ≤ l.length → Ev (fun k => impl_pairAt.l0 k l key (i : Int) (j : Int)) (atV l key f i j : Int)
  | 0, i, j, h, _, _ => by omega
  | f + 1, i, j, h, hij, hj => by
    rw [atV]
    by_cases h1 : i < j
    · rw [if_pos h1]
      have e1 : ((i : Int) + (j : Int)) / 2 = (((i + j) / 2 : Nat) : Int) := by omega
      have hstep : ∀ k, impl_pairAt.l0 (k + 1) l key (i : Int) (j : Int) = if Op.bytesLess ((rd_T71 l (((i + j) / 2 : Nat) : Int)).f0).toList key.toList = true then impl_pairAt.l0 k l key (((i + j) / 2 + 1 : Nat) : Int) (j : Int) else impl_pairAt.l0 k l key (i : Int) (((i + j) / 2 : Nat) : Int) := by
        intro k
        rw [impl_pairAt.l0, if_pos (by omega), e1, if_pos (by omega), if_pos (by omega), Lib.toList_data, Lib.toList_data]
        by_cases hb : Op.bytesLess ((rd_T71 l (((i + j) / 2 : Nat) : Int)).f0).data.toList key.data.toList = true
        · rw [if_pos hb, if_pos ((cmp_neg _ _).2 hb)]; rfl
        · rw [if_neg hb, if_neg (fun e => hb ((cmp_neg _ _).1 e))]
      refine Ev.step hstep ?_
      split
      · exact implAt_go l key hl f _ _ (by omega) (by omega) hj
      · exact implAt_go l key hl f _ _ (by omega) (by omega) (by omega)
    · rw [if_neg h1]
      exact Ev.step (fun k => by rw [impl_pairAt.l0, if_neg (by omega)]) (Ev.now _)
def atOf (l : List IP) (key : ByteArray) : Nat := atV l key (l.length + 1) 0 l.length
theorem atOf_le (l : List IP) (key : ByteArray) : atOf l key ≤ l.length := (atV_bd l key _ 0 l.length (by omega)).2
theorem specAt_ev (l : List IP) (key : ByteArray) (hl : l.length ≤ 1048576) : Ev (fun k => spec_l03At.f k l key) (atOf l key : Int) := specAt_go l key hl (l.length + 1) 0 l.length (by omega) (by omega) (by omega)
def hitB (l : List IP) (key : ByteArray) : Bool := decide (atOf l key < l.length) && (((rd_T71 l (atOf l key : Int)).f0).toList == key.toList)
theorem implAt_ev (l : List IP) (key : ByteArray) (hl : l.length ≤ 1048576) : Ev (fun k => impl_pairAt.f k l key) ((atOf l key : Int), hitB l key) := by
  unfold impl_pairAt.f
  refine Ev.bind (implAt_go l key hl (l.length + 1) 0 l.length (by omega) (by omega) (by omega)) ?_
  have hle := atOf_le l key
  have e : impl_pairAt.hit l key (atOf l key : Int) = hitB l key := by
    unfold impl_pairAt.hit hitB
    congr 1
    · rw [decide_eq_decide]; omega
    · rw [Lib.toList_data, Lib.toList_data, Bool.eq_iff_iff, beq_iff_eq, beq_iff_eq]
      exact cmp_zero _ _
  rw [show atV l key (l.length + 1) 0 l.length = atOf l key from rfl]
  simp only [if_pos (show (l.length : Int) < 1000000000000 by omega), if_pos (show (0 : Int) ≤ (atOf l key : Int) by omega), if_pos (show (atOf l key : Int) ≤ (l.length : Int) by omega), e]
  exact Ev.now _
/-- What is found, and whether. -/
def getV (l : List IP) (key : ByteArray) : ByteArray × Bool := if hitB l key = true then ((rd_T71 l (atOf l key : Int)).f1, true) else ((⟨#[]⟩ : ByteArray), false)
theorem specGet_ev (l : List IP) (key : ByteArray) (hl : l.length ≤ 1048576) : Ev (fun k => spec_l03Get.f k l key) (getV l key) := by
  unfold spec_l03Get.f getV hitB
  refine Ev.bind (specAt_ev l key hl) ?_
  by_cases h1 : atOf l key < l.length
  · simp only [if_pos (show (atOf l key : Int) < (l.length : Int) by omega), if_pos (show (0 : Int) ≤ (atOf l key : Int) by omega), decide_eq_true h1, Bool.true_and]
    by_cases h2 : ((rd_T71 l (atOf l key : Int)).f0).toList = key.toList
    · simp only [h2, beq_self_eq_true, if_true]; exact Ev.now _
    · simp only [if_neg h2, beq_eq_false_iff_ne.2 h2, Bool.false_eq_true, if_false]; exact Ev.now _
  · simp only [if_neg (show ¬ (atOf l key : Int) < (l.length : Int) by omega), decide_eq_false h1, Bool.false_and, Bool.false_eq_true, if_false]; exact Ev.now _
theorem implGet_ev (l : List IP) (key : ByteArray) (hl : l.length ≤ 1048576) : Ev (fun k => impl_get.f k l key) (getV l key) := by
  unfold impl_get.f getV
  refine Ev.bind (implAt_ev l key hl) ?_
  cases h : hitB l key with
  | false => simp only [Bool.false_eq_true, if_false]; exact Ev.now _
  | true =>
    have h1 : atOf l key < l.length := by
      unfold hitB at h
      rw [Bool.and_eq_true, decide_eq_true_iff] at h
      exact h.1
    simp only [if_true, if_pos (show (0 : Int) ≤ (atOf l key : Int) by omega), if_pos (show (atOf l key : Int) < (l.length : Int) by omega)]
    exact Ev.now _
end Go.Proofs.YteghpdmlpefnfaaDoor.U

/- Fields: how the program writes texts in line. -/
namespace Go.Proofs.YteghpdmlpefnfaaDoor.U
open Go Go.RowKit Go.Proofs.YteghpdmlpefnfaaDoor.Q Go.Proofs.YteghpdmlpefnfaaDoorW.PrintWords Go.Proofs.YteghpdmlpefnfaaDoorW.PrintLast Go.Proofs.YteghpdmlpefnfaaDoorW.PrintMore
set_option linter.unusedVariables false
set_option linter.unusedSimpArgs false

theorem w00 : wrap64 (0 - 1) = -1 := by rw [wid (n := 0 - 1) (by decide) (by decide)]; rfl
theorem w10 : wrap64 (1 - 1) = 0 := by rw [wid (n := 1 - 1) (by decide) (by decide)]; rfl
theorem w21 : wrap64 (2 - 1) = 1 := by rw [wid (n := 2 - 1) (by decide) (by decide)]; rfl
theorem number_end (n : Int) (l : List Int) : Ev (fun k => impl_number.l0 k n l (-1)) (strOfNums l) := Ev.step (fun k => by rw [impl_number.l0, if_neg (by decide)]) (Ev.now _)
theorem number1_ev (n : Int) : Ev (fun k => impl_number.f k n 1) (strOfNums [n % 256]) := by
  unfold impl_number.f
  simp only [if_pos (show (0 : Int) ≤ 1 by omega), if_pos (show (1 : Int).toNat ≤ 281474976710656 by decide), w10, show List.replicate (1 : Int).toNat (0 : Int) = [0] from rfl]
  refine Ev.step (fun k => ?_) (number_end (n / 256) [n % 256])
  rw [impl_number.l0, if_pos (by decide), if_pos (by decide), if_pos (by decide), w00]
  rfl
theorem number2_ev (n : Int) : Ev (fun k => impl_number.f k n 2) (strOfNums [n / 256 % 256, n % 256]) := by
  unfold impl_number.f
  simp only [if_pos (show (0 : Int) ≤ 2 by omega), if_pos (show (2 : Int).toNat ≤ 281474976710656 by decide), w21, show List.replicate (2 : Int).toNat (0 : Int) = [0, 0] from rfl]
  refine Ev.step (f := fun k => impl_number.l0 k (n / 256) [0, n % 256] 0) (fun k => ?_) (Ev.step (fun k => ?_) (number_end (n / 256 / 256) [n / 256 % 256, n % 256]))
  · rw [impl_number.l0, if_pos (by decide), if_pos (by decide), if_pos (by decide), w10]
    rfl
  · rw [impl_number.l0, if_pos (by decide), if_pos (by decide), if_pos (by simp), w00]
    rfl
/-- One text behind its length. -/
def fieldV (t : ByteArray) : ByteArray := strOfNums [(t.size : Int) / 256 % 256, (t.size : Int) % 256] ++ t
def restV : List ByteArray → ByteArray
  | [] => ByteArray.empty
  | t :: ts => fieldV t ++ restV ts
def fieldsV (l : List ByteArray) : ByteArray := strOfNums [(l.length : Int) % 256] ++ restV l
theorem nums_size (l : List Int) : (strOfNums l).size = l.length := by simp [strOfNums, ByteArray.size]
theorem fields_go (l : List ByteArray) (M : Nat) (hl : l.length ≤ 1000) (hM : M ≤ 4611686018427387904) (hx : ∀ x ∈ l, x.size ≤ 1048576) : ∀ (d i : Nat) (o : ByteArray), i + d = l.length → o.size ≤ i * 1048580 + 1048580 →
    Ev (fun k => impl_fields.l0 k o l (l.length : Int) (i : Int)) (o ++ restV (l.drop i)) := by
  intro d
  induction d with
  | zero =>
    intro i o hi ho
    refine Ev.step (fun k => ?_) (Ev.now _)
    rw [impl_fields.l0, if_neg (by omega), List.drop_of_length_le (by omega)]
    simp [restV]
  | succ d ih =>
    intro i o hi ho
    have hlt : i < l.length := by omega
    have hr : rdOf ByteArray.empty l (i : Int) = l[i] := by simp [rdOf, List.getD_eq_getElem?_getD, List.getElem?_eq_getElem hlt]
    have hs := hx _ (List.getElem_mem hlt)
    refine Ev.step (f := fun k => (impl_number.f k (l[i].size : Int) 2).bind fun t => if t.size + l[i].size ≤ 9223372036854775807 then (if o.size + (t ++ l[i]).size ≤ 9223372036854775807 then impl_fields.l0 k (o ++ (t ++ l[i])) l (l.length : Int) ((i + 1 : Nat) : Int) else none) else none) (fun k => ?_) ?_
    · rw [impl_fields.l0, if_pos (by omega), if_pos (by omega), if_pos (by omega), hr, wid (n := (i : Int) + 1) (by omega) (by omega)]
      rfl
    · refine Ev.bind (number2_ev _) ?_
      have h1 : (strOfNums [(l[i].size : Int) / 256 % 256, (l[i].size : Int) % 256]).size = 2 := by rw [nums_size]; rfl
      have h2 : (strOfNums [(l[i].size : Int) / 256 % 256, (l[i].size : Int) % 256] ++ l[i]).size = 2 + l[i].size := by rw [ByteArray.size_append, h1]
      simp only [h1, h2, if_pos (show 2 + l[i].size ≤ 9223372036854775807 by omega), if_pos (show o.size + (2 + l[i].size) ≤ 9223372036854775807 by omega)]
      have h3 := ih (i + 1) (o ++ fieldV l[i]) (by omega) (by rw [ByteArray.size_append]; show o.size + (fieldV l[i]).size ≤ _; unfold fieldV; rw [h2]; omega)
      rw [List.drop_eq_getElem_cons hlt, restV]
      rw [ByteArray.append_assoc] at h3
      exact h3
theorem fields_ev (l : List ByteArray) (hl : l.length ≤ 1000) (hx : ∀ x ∈ l, x.size ≤ 1048576) : Ev (fun k => impl_fields.f k l) (fieldsV l) := by
  unfold impl_fields.f fieldsV
  refine Ev.bind (number1_ev _) ?_
  have := fields_go l 0 hl (by omega) hx l.length 0 (strOfNums [(l.length : Int) % 256]) (by omega) (by rw [nums_size]; simp)
  simpa using this
end Go.Proofs.YteghpdmlpefnfaaDoor.U

/- Fields that are read back from a text: as the program and as the reference read them. -/
namespace Go.Proofs.YteghpdmlpefnfaaDoor.U
open Go Go.RowKit Go.Proofs.YteghpdmlpefnfaaDoor.Q Go.Proofs.YteghpdmlpefnfaaDoorW.PrintWords Go.Proofs.YteghpdmlpefnfaaDoorW.PrintLast Go.Proofs.YteghpdmlpefnfaaDoorW.PrintMore
set_option linter.unusedVariables false
set_option linter.unusedSimpArgs false

theorem size_data (a : ByteArray) : a.data.toList.length = a.size := by rw [Array.length_toList]; rfl
theorem ext_list {a b : ByteArray} (h : a.data.toList = b.data.toList) : a = b := ByteArray.ext (Array.toList_inj.mp h)
theorem extract_list (a : ByteArray) (i j : Nat) : (a.extract i j).data.toList = (a.data.toList.take j).drop i := by
  rw [ByteArray.data_extract, Array.toList_extract]
  simp [List.extract_eq_take_drop, List.drop_take]
theorem bt_list (a : ByteArray) (i : Nat) (h : i < a.size) : bt a (i : Int) = ((a.data.toList.getD i 0).toNat : Int) := by
  unfold bt
  rw [dif_pos (by simpa using h), List.getD_eq_getElem?_getD, List.getElem?_eq_getElem (by rw [size_data]; exact h)]
  simp
  rfl
theorem size_ext (a : ByteArray) (i j : Nat) : (a.extract i j).size = min j a.size - i := by
  rw [← size_data, extract_list, List.length_drop, List.length_take, size_data]
theorem ext_ext (a : ByteArray) (p i j : Nat) : (a.extract p a.size).extract i j = a.extract (p + i) (p + j) := by
  apply ext_list
  rw [extract_list, extract_list, extract_list, List.take_of_length_le (i := a.size) (by rw [size_data]; exact Nat.le_refl _)]
  rw [List.take_drop, List.drop_drop]
theorem ext_cap (a : ByteArray) (i j : Nat) (h : a.size ≤ j) : a.extract i j = a.extract i a.size := by
  apply ext_list
  rw [extract_list, extract_list, List.take_of_length_le (by rw [size_data]; exact h), List.take_of_length_le (by rw [size_data]; exact Nat.le_refl _)]
theorem bt_ext (a : ByteArray) (p j i : Nat) (h : p + i < min j a.size) : bt (a.extract p j) (i : Int) = bt a ((p + i : Nat) : Int) := by
  rw [bt_list _ _ (by rw [size_ext]; omega), bt_list _ _ (by omega), extract_list]
  congr 2
  rw [List.getD_eq_getElem?_getD, List.getD_eq_getElem?_getD, List.getElem?_drop, List.getElem?_take, if_pos (by omega)]

/-- The first two bytes' number. -/
def hd2 (s : ByteArray) : Nat := (bt s 0 * 256 + bt s 1).toNat
def readN : Nat → ByteArray → Option (List ByteArray)
  | 0, s => if s.size = 0 then some [] else none
  | n + 1, s => if s.size < 2 then none else if 1000 < hd2 s then none else if s.size < 2 + hd2 s then none else (readN n (s.extract (2 + hd2 s) s.size)).map (s.extract 2 (2 + hd2 s) :: ·)
def readV (a : ByteArray) : Option (List ByteArray) := if a.size = 0 then none else if 40 < bt a 0 then none else readN (bt a 0).toNat (a.extract 1 a.size)
/-- What a reader answers. -/
def readR (x : List ByteArray) (out : List ByteArray) : Option (List ByteArray) → List ByteArray × Bool
  | some l => (out ++ l, true)
  | none => (x, false)

theorem hd2_bd (s : ByteArray) : hd2 s ≤ 65535 ∧ ((hd2 s : Nat) : Int) = bt s 0 * 256 + bt s 1 := by
  have h0 := bt_range s 0
  have h1 := bt_range s 1
  unfold hd2
  omega
theorem numberOf_ev (s : ByteArray) (h : s.size = 2) : Ev (fun k => impl_numberOf.f k s) (hd2 s : Int) := by
  have h0 := bt_range s 0
  have h1 := bt_range s 1
  rw [(hd2_bd s).2]
  unfold impl_numberOf.f
  rw [show ((s.size : Nat) : Int) = 2 by omega]
  refine Ev.step (f := fun k => impl_numberOf.l0 k s (bt s 0) 2 1) (fun k => ?_) (Ev.step (f := fun k => impl_numberOf.l0 k s (bt s 0 * 256 + bt s 1) 2 2) (fun k => ?_) (Ev.step (fun k => ?_) (Ev.now _)))
  · rw [impl_numberOf.l0, if_pos (by decide), if_pos (by decide), if_pos (by omega)]
    rw [wid (n := 0 * 256) (by decide) (by decide), wid (n := bt s 0) (by omega) (by omega), wid (by omega) (by omega), wid (n := 0 + 1) (by decide) (by decide)]
    congr 1; omega
  · rw [impl_numberOf.l0, if_pos (by decide), if_pos (by decide), if_pos (by omega)]
    rw [wid (n := bt s 0 * 256) (by omega) (by omega), wid (n := bt s 1) (by omega) (by omega), wid (by omega) (by omega), wid (n := 1 + 1) (by decide) (by decide)]
    rfl
  · rw [impl_numberOf.l0, if_neg (by decide)]
set_option maxHeartbeats 2000000 in
theorem readFields_go (N : Nat) (hN : N ≤ 40) : ∀ (d i : Nat) (out : List ByteArray) (s : ByteArray), i + d = N → out.length ≤ i → s.size ≤ 9223372036854000000 →
    ∃ x, Ev (fun k => impl_readFields.l0 k out s (N : Int) (i : Int)) (readR x out (readN d s)) := by
  intro d
  induction d with
  | zero =>
    intro i out s hi ho hs
    refine ⟨out, Ev.step (fun k => ?_) (Ev.now _)⟩
    rw [impl_readFields.l0, if_neg (by omega), readN]
    by_cases h : s.size = 0
    · have e : s.toList = [] := by rw [ByteArray.toList_eq]; exact List.length_eq_zero_iff.1 (by rw [size_data]; exact h)
      rw [if_pos h, e]
      simp [readR]
    · have e : (s.toList == []) = false := by
        rw [beq_eq_false_iff_ne]
        intro e
        rw [ByteArray.toList_eq] at e
        apply h
        rw [← size_data, e]; rfl
      rw [if_neg h, e]
      rfl
  | succ d ih =>
    intro i out s hi ho hs
    have hb := hd2_bd s
    rw [readN]
    by_cases h1 : s.size < 2
    · refine ⟨[], ?_⟩
      rw [if_pos h1]
      refine Ev.step (fun k => ?_) (Ev.now _)
      rw [impl_readFields.l0, if_pos (by omega), if_pos (by omega)]
      rfl
    rw [if_neg h1]
    have hz : (s.extract 0 2).size = 2 := by rw [size_ext]; omega
    have e2 : hd2 (s.extract 0 2) = hd2 s := by
      unfold hd2
      have a0 := bt_ext s 0 2 0 (by omega)
      have a1 := bt_ext s 0 2 1 (by omega)
      simp only [Nat.zero_add] at a0 a1
      rw [show ((0 : Nat) : Int) = 0 from rfl] at a0
      rw [show ((1 : Nat) : Int) = 1 from rfl] at a1
      rw [a0, a1]
    have hn := numberOf_ev (s.extract 0 2) hz
    rw [e2] at hn
    clear e2 hz
    generalize hd2 s = m at *
    have key : ∀ (x : List ByteArray) (r : List ByteArray × Bool), Ev (fun k => if (m : Int) > 1000 then (some (([] : List ByteArray), false)) else (if (s.size : Int) < 2 + (m : Int) then (some (([] : List ByteArray), false)) else impl_readFields.l0 k (out ++ [s.extract 2 (2 + m)]) (s.extract (2 + m) s.size) (N : Int) ((i + 1 : Nat) : Int))) r →
        Ev (fun k => impl_readFields.l0 k out s (N : Int) (i : Int)) r := by
      intro x r hr
      refine Ev.step (f := fun k => (impl_numberOf.f k (s.extract 0 2)).bind fun t => if t > 1000 then (some (([] : List ByteArray), false)) else (if (s.size : Int) < (wrap64 (2 + t)) then (some (([] : List ByteArray), false)) else (if 2 ≤ (wrap64 (2 + t)) then (if (wrap64 (2 + t)) ≤ (s.size : Int) then (if out.length < 8796093022208 then (if 0 ≤ (wrap64 (2 + t)) then (impl_readFields.l0 k (out ++ [s.extract 2 ((wrap64 (2 + t)) : Int).toNat]) (s.extract ((wrap64 (2 + t)) : Int).toNat s.size) (N : Int) (wrap64 ((i : Int) + 1))) else (none)) else (none)) else (none)) else (none)))) (fun k => ?_) (Ev.bind hn ?_)
      · rw [impl_readFields.l0, if_pos (by omega), if_neg (by omega), if_pos (by decide), if_pos (by omega)]
      · have ew : wrap64 (2 + (m : Int)) = 2 + (m : Int) := wid (by omega) (by omega)
        have ei : wrap64 ((i : Int) + 1) = ((i + 1 : Nat) : Int) := by rw [wid (by omega) (by omega)]; rfl
        rw [ew, ei]
        refine Ev.congr (fun k => ?_) hr
        by_cases c1 : (m : Int) > 1000
        · rw [if_pos c1, if_pos c1]
        rw [if_neg c1, if_neg c1]
        by_cases c2 : (s.size : Int) < 2 + (m : Int)
        · rw [if_pos c2, if_pos c2]
        rw [if_neg c2, if_neg c2, if_pos (by omega), if_pos (by omega), if_pos (by omega), if_pos (by omega)]
        rw [show (2 + (m : Int)).toNat = 2 + m by omega]
    by_cases h2 : 1000 < m
    · rw [if_pos h2]
      exact ⟨[], key [] _ (by simp only [if_pos (show (m : Int) > 1000 by omega)]; exact Ev.now _)⟩
    rw [if_neg h2]
    by_cases h3 : s.size < 2 + m
    · rw [if_pos h3]
      exact ⟨[], key [] _ (by simp only [if_neg (show ¬ (m : Int) > 1000 by omega), if_pos (show (s.size : Int) < 2 + (m : Int) by omega)]; exact Ev.now _)⟩
    rw [if_neg h3]
    obtain ⟨x, hx⟩ := ih (i + 1) (out ++ [s.extract 2 (2 + m)]) (s.extract (2 + m) s.size) (by omega) (by rw [List.length_append, List.length_singleton]; omega) (by rw [size_ext]; omega)
    refine ⟨x, key x _ ?_⟩
    simp only [if_neg (show ¬ (m : Int) > 1000 by omega), if_neg (show ¬ (s.size : Int) < 2 + (m : Int) by omega)]
    have e : readR x (out ++ [s.extract 2 (2 + m)]) (readN d (s.extract (2 + m) s.size)) = readR x out ((readN d (s.extract (2 + m) s.size)).map (s.extract 2 (2 + m) :: ·)) := by
      cases readN d (s.extract (2 + m) s.size) with
      | none => rfl
      | some l => simp [readR]
    rw [← e]
    exact hx
theorem toList_nil_iff (a : ByteArray) : a.toList = ([] : List UInt8) ↔ a.size = 0 := by
  rw [ByteArray.toList_eq]
  constructor
  · intro h; rw [← size_data, h]; rfl
  · intro h; exact List.length_eq_zero_iff.1 (by rw [size_data]; exact h)
theorem readFields_ev (a : ByteArray) (hs : a.size ≤ 9223372036854000000) : ∃ x, Ev (fun k => impl_readFields.f k a) (readR x [] (readV a)) := by
  have h0 := bt_range a 0
  unfold impl_readFields.f readV
  by_cases h1 : a.size = 0
  · refine ⟨[], ?_⟩
    simp only [if_pos ((toList_nil_iff a).2 h1), if_pos h1]
    exact Ev.step (fun k => by rw [impl_readFields.j0, if_pos rfl]; rfl) (Ev.now _)
  simp only [if_neg (mt (toList_nil_iff a).1 h1), if_neg h1, if_pos (show (0 : Int) < (a.size : Int) by omega)]
  by_cases h2 : 40 < bt a 0
  · refine ⟨[], ?_⟩
    simp only [if_pos h2, decide_eq_true (show bt a 0 > 40 from h2)]
    exact Ev.step (fun k => by rw [impl_readFields.j0, if_pos rfl]; rfl) (Ev.now _)
  simp only [if_neg h2, decide_eq_false (show ¬ bt a 0 > 40 from h2)]
  obtain ⟨x, hx⟩ := readFields_go (bt a 0).toNat (by omega) (bt a 0).toNat 0 [] (a.extract 1 a.size) (by omega) (by simp) (by rw [size_ext]; omega)
  refine ⟨x, Ev.step (fun k => ?_) hx⟩
  rw [impl_readFields.j0, if_neg (by decide), if_pos (by omega), if_pos (by omega), wid (n := bt a 0) (by omega) (by omega), show (((bt a 0).toNat : Nat) : Int) = bt a 0 by omega]
  rfl

set_option maxHeartbeats 2000000 in
theorem l02Read_go (a : ByteArray) (hs : a.size ≤ 9223372036854000000) : ∀ (d p : Nat) (out : List ByteArray), d ≤ 40 → out.length + d ≤ 40 → p ≤ a.size →
    ∃ x, Ev (fun k => spec_l02Read.l0 k a out (p : Int) (d : Int)) (readR x out (readN d (a.extract p a.size))) := by
  intro d
  induction d with
  | zero =>
    intro p out hd ho hp
    rw [readN, size_ext]
    by_cases h : p = a.size
    · rw [if_pos (by omega)]
      refine ⟨[], Ev.step (fun k => ?_) (Ev.now _)⟩
      rw [spec_l02Read.l0, if_neg (by decide), if_pos (by omega)]
      simp [readR]
    · rw [if_neg (by omega)]
      refine ⟨[], Ev.step (fun k => ?_) (Ev.now _)⟩
      rw [spec_l02Read.l0, if_neg (by decide), if_neg (by omega)]
      rfl
  | succ d ih =>
    intro p out hd ho hp
    have hsz : (a.extract p a.size).size = a.size - p := by rw [size_ext]; omega
    rw [readN, hsz]
    by_cases h1 : a.size - p < 2
    · rw [if_pos h1]
      refine ⟨[], Ev.step (fun k => ?_) (Ev.now _)⟩
      rw [spec_l02Read.l0, if_pos (by omega), wid (n := (p : Int) + 2) (by omega) (by omega), if_pos (by omega)]
      rfl
    rw [if_neg h1]
    have hb := hd2_bd (a.extract p a.size)
    have b0 := bt_ext a p a.size 0 (by omega)
    have b1 := bt_ext a p a.size 1 (by omega)
    have r0 := bt_range a (p : Int)
    have r1 := bt_range a ((p + 1 : Nat) : Int)
    have em : bt a (p : Int) * 256 + bt a ((p + 1 : Nat) : Int) = (hd2 (a.extract p a.size) : Int) := by
      rw [hb.2]
      have e0 : bt (a.extract p a.size) 0 = bt a (p : Int) := b0
      have e1 : bt (a.extract p a.size) 1 = bt a ((p + 1 : Nat) : Int) := b1
      rw [e0, e1]
    generalize hm : hd2 (a.extract p a.size) = m at *
    have ep1 : (p : Int) + 1 = ((p + 1 : Nat) : Int) := by omega
    have key : ∀ k, spec_l02Read.l0 (k + 1) a out (p : Int) ((d + 1 : Nat) : Int) = if 1000 < m then some (([] : List ByteArray), false) else if a.size < p + 2 + m then some (([] : List ByteArray), false) else spec_l02Read.l0 k a (out ++ [a.extract (p + 2) (p + 2 + m)]) ((p + 2 + m : Nat) : Int) (d : Int) := by
      intro k
      rw [spec_l02Read.l0, if_pos (by omega), wid (n := (p : Int) + 2) (by omega) (by omega), if_neg (by omega), if_pos (by omega), if_pos (by omega), wid (n := (p : Int) + 1) (by omega) (by omega), if_pos (by omega), if_pos (by omega),
        wid (n := bt a (p : Int)) (by omega) (by omega), ep1, wid (n := bt a ((p + 1 : Nat) : Int)) (by omega) (by omega), wid (n := bt a (p : Int) * 256) (by omega) (by omega), em, wid (n := (m : Int)) (by omega) (by omega)]
      by_cases c1 : 1000 < m
      · rw [if_pos (by omega), if_pos c1]
      rw [if_neg (by omega), if_neg c1, wid (n := (p : Int) + 2 + (m : Int)) (by omega) (by omega)]
      by_cases c2 : a.size < p + 2 + m
      · rw [if_pos (by omega), if_pos c2]
      rw [if_neg (by omega), if_neg c2, if_pos (by omega), if_pos (by omega), if_pos (by omega), if_pos (by omega), wid (n := 2 + (m : Int)) (by omega) (by omega), wid (n := (p : Int) + (2 + (m : Int))) (by omega) (by omega), wid (by omega) (by omega)]
      rw [show ((p : Int) + 2).toNat = p + 2 by omega, show ((p : Int) + 2 + (m : Int)).toNat = p + 2 + m by omega, show (p : Int) + (2 + (m : Int)) = ((p + 2 + m : Nat) : Int) by omega, show (((d + 1 : Nat) : Int) - 1) = (d : Int) by omega]
    by_cases h2 : 1000 < m
    · rw [if_pos h2]
      exact ⟨[], Ev.step (fun k => by rw [key k, if_pos h2]; rfl) (Ev.now _)⟩
    rw [if_neg h2]
    by_cases h3 : a.size - p < 2 + m
    · rw [if_pos h3]
      exact ⟨[], Ev.step (fun k => by rw [key k, if_neg h2, if_pos (by omega)]; rfl) (Ev.now _)⟩
    rw [if_neg h3]
    obtain ⟨x, hx⟩ := ih (p + 2 + m) (out ++ [a.extract (p + 2) (p + 2 + m)]) (by omega) (by rw [List.length_append, List.length_singleton]; omega) (by omega)
    refine ⟨x, Ev.step (f := fun k => spec_l02Read.l0 k a (out ++ [a.extract (p + 2) (p + 2 + m)]) ((p + 2 + m : Nat) : Int) (d : Int)) (fun k => by rw [key k, if_neg h2, if_neg (by omega)]) ?_⟩
    have ea : (a.extract p a.size).extract 2 (2 + m) = a.extract (p + 2) (p + 2 + m) := by rw [ext_ext, Nat.add_assoc]
    have eb : (a.extract p a.size).extract (2 + m) (a.size - p) = a.extract (p + 2 + m) a.size := by rw [ext_ext, show p + (a.size - p) = a.size by omega, Nat.add_assoc]
    rw [ea, eb]
    have e : readR x (out ++ [a.extract (p + 2) (p + 2 + m)]) (readN d (a.extract (p + 2 + m) a.size)) = readR x out ((readN d (a.extract (p + 2 + m) a.size)).map (a.extract (p + 2) (p + 2 + m) :: ·)) := by
      cases readN d (a.extract (p + 2 + m) a.size) with
      | none => rfl
      | some l => simp [readR]
    rw [← e]
    exact hx
theorem l02Read_ev (a : ByteArray) (hs : a.size ≤ 9223372036854000000) : ∃ x, Ev (fun k => spec_l02Read.f k a) (readR x [] (readV a)) := by
  have h0 := bt_range a 0
  unfold spec_l02Read.f readV
  simp only [Option.bind_some]
  by_cases h1 : a.size = 0
  · refine ⟨[], ?_⟩
    simp only [if_pos ((toList_nil_iff a).2 h1), if_pos h1]
    exact Ev.step (fun k => by rw [spec_l02Read.j0, if_pos rfl]; rfl) (Ev.now _)
  simp only [if_neg (mt (toList_nil_iff a).1 h1), if_neg h1, if_pos (show (0 : Int) < (a.size : Int) by omega)]
  by_cases h2 : 40 < bt a 0
  · refine ⟨[], ?_⟩
    simp only [if_pos h2, decide_eq_true (show bt a 0 > 40 from h2)]
    exact Ev.step (fun k => by rw [spec_l02Read.j0, if_pos rfl]; rfl) (Ev.now _)
  simp only [if_neg h2, decide_eq_false (show ¬ bt a 0 > 40 from h2)]
  obtain ⟨x, hx⟩ := l02Read_go a hs (bt a 0).toNat 1 [] (by omega) (by simp; omega) (by omega)
  refine ⟨x, Ev.step (fun k => ?_) hx⟩
  rw [spec_l02Read.j0, if_neg (by decide), if_pos (by omega), wid (n := bt a 0) (by omega) (by omega), show (((bt a 0).toNat : Nat) : Int) = bt a 0 by omega]
  rfl

/-! ### what is read is written so -/
theorem ofNat_nat (c : UInt8) (n : Int) (h : n = (c.toNat : Int)) : UInt8.ofNat n.toNat = c := by
  subst h
  simp
theorem restV_of (n : Nat) : ∀ (s : ByteArray) (l : List ByteArray), readN n s = some l → s = restV l ∧ l.length = n ∧ ∀ x ∈ l, x.size ≤ 1000 := by
  induction n with
  | zero =>
    intro s l h
    rw [readN] at h
    split at h
    · rename_i h0
      injection h with h
      subst h
      exact ⟨ext_list (List.length_eq_zero_iff.1 (by rw [size_data]; exact h0)), rfl, by simp⟩
    · cases h
  | succ n ih =>
    intro s l h
    rw [readN] at h
    split at h
    · cases h
    rename_i h1
    split at h
    · cases h
    rename_i h2
    split at h
    · cases h
    rename_i h3
    obtain ⟨l', h4, rfl⟩ := Option.map_eq_some_iff.1 h
    obtain ⟨e1, e2, e3⟩ := ih _ _ h4
    have hsz : (s.extract 2 (2 + hd2 s)).size = hd2 s := by rw [size_ext]; omega
    refine ⟨?_, by rw [List.length_cons, e2], ?_⟩
    · rw [restV, ← e1]
      have hb := hd2_bd s
      have r0 := bt_range s 0
      have r1 := bt_range s 1
      have b0 := bt_list s 0 (by omega)
      have b1 := bt_list s 1 (by omega)
      apply ext_list
      rw [ByteArray.data_append, Array.toList_append]
      unfold fieldV
      rw [ByteArray.data_append, Array.toList_append, extract_list, extract_list, hsz, List.take_of_length_le (i := s.size) (by rw [size_data]; exact Nat.le_refl _)]
      have hl := size_data s
      match hd : s.data.toList with
      | [] => rw [hd] at hl; simp at hl; omega
      | [_] => rw [hd] at hl; simp at hl; omega
      | c0 :: c1 :: r =>
        rw [hd] at b0 b1
        simp only [List.getD_cons_zero, List.getD_cons_succ] at b0 b1
        have c0b := UInt8.toNat_lt c0
        have c1b := UInt8.toNat_lt c1
        have f0 : bt s 0 = (c0.toNat : Int) := b0
        have f1 : bt s 1 = (c1.toNat : Int) := b1
        have g0 : (hd2 s : Int) / 256 % 256 = (c0.toNat : Int) := by rw [hb.2, f0, f1]; omega
        have g1 : (hd2 s : Int) % 256 = (c1.toNat : Int) := by rw [hb.2, f0, f1]; omega
        rw [g0, g1]
        have hr : (strOfNums [(c0.toNat : Int), (c1.toNat : Int)]).data.toList = [c0, c1] := by simp [strOfNums]
        rw [hr]
        rw [show 2 + hd2 s = hd2 s + 1 + 1 by omega]
        simp
    · intro x hx
      rcases List.mem_cons.1 hx with rfl | hx
      · rw [hsz]; omega
      · exact e3 x hx
theorem readV_of {a : ByteArray} {l : List ByteArray} (h : readV a = some l) : a = fieldsV l ∧ l.length ≤ 40 ∧ ∀ x ∈ l, x.size ≤ 1000 := by
  unfold readV at h
  split at h
  · cases h
  rename_i h1
  split at h
  · cases h
  rename_i h2
  obtain ⟨e1, e2, e3⟩ := restV_of _ _ _ h
  have r0 := bt_range a 0
  have b0 := bt_list a 0 (by omega)
  refine ⟨?_, by omega, e3⟩
  unfold fieldsV
  rw [← e1, e2]
  apply ext_list
  rw [ByteArray.data_append, Array.toList_append, extract_list, List.take_of_length_le (i := a.size) (by rw [size_data]; exact Nat.le_refl _)]
  have hl := size_data a
  match hd : a.data.toList with
  | [] => rw [hd] at hl; simp at hl; omega
  | c0 :: r =>
    rw [hd] at b0
    simp only [List.getD_cons_zero] at b0
    have c0b := UInt8.toNat_lt c0
    have f0 : bt a 0 = (c0.toNat : Int) := b0
    have g0 : (((bt a 0).toNat : Nat) : Int) % 256 = (c0.toNat : Int) := by rw [f0]; omega
    rw [g0]
    have hr : (strOfNums [(c0.toNat : Int)]).data.toList = [c0] := by simp [strOfNums]
    rw [hr]
    simp
end Go.Proofs.YteghpdmlpefnfaaDoor.U

/- Keys that rise: where a search ends, and which pairs begin so. -/

namespace Go.Proofs.YteghpdmlpefnfaaDoor.U
open Go Go.RowKit Go.Proofs.YteghpdmlpefnfaaDoor.Q Go.Proofs.YteghpdmlpefnfaaDoorW.PrintWords Go.Proofs.YteghpdmlpefnfaaDoorW.PrintLast Go.Proofs.YteghpdmlpefnfaaDoorW.PrintMore
set_option linter.unusedVariables false
set_option linter.unusedSimpArgs false

theorem less_cons (a b : UInt8) (x y : List UInt8) : Op.bytesLess (a :: x) (b :: y) = true ↔ a < b ∨ (a = b ∧ Op.bytesLess x y = true) := by
  rw [Op.bytesLess, Bool.or_eq_true, Bool.and_eq_true, decide_eq_true_iff, beq_iff_eq]
theorem less_trans : ∀ a b c : List UInt8, Op.bytesLess a b = true → Op.bytesLess b c = true → Op.bytesLess a c = true
  | _, [], _, h, _ => by rw [Op.bytesLess] at h; cases h
  | _, _ :: _, [], _, h => by rw [Op.bytesLess] at h; cases h
  | [], _ :: _, _ :: _, _, _ => by rw [Op.bytesLess]
  | a :: x, b :: y, c :: z, h1, h2 => by
    rw [less_cons] at *
    rcases h1 with h1 | ⟨rfl, h1⟩
    · rcases h2 with h2 | ⟨rfl, h2⟩
      · exact .inl (UInt8.lt_trans h1 h2)
      · exact .inl h1
    · rcases h2 with h2 | ⟨rfl, h2⟩
      · exact .inl h2
      · exact .inr ⟨rfl, less_trans x y z h1 h2⟩
/-- It begins so. -/
def preL (p x : List UInt8) : Bool := x.take p.length == p
theorem preL_cons (c d : UInt8) (p x : List UInt8) : preL (c :: p) (d :: x) = true ↔ d = c ∧ preL p x = true := by
  unfold preL
  simp
theorem preL_ge : ∀ p x : List UInt8, preL p x = true → Op.bytesLess x p = false
  | [], x, _ => by cases x <;> rw [Op.bytesLess]
  | c :: p, [], h => by simp [preL] at h
  | c :: p, d :: x, h => by
    rw [preL_cons] at h
    obtain ⟨rfl, h⟩ := h
    have := preL_ge p x h
    rw [Bool.eq_false_iff] at *
    intro h2
    rw [less_cons] at h2
    rcases h2 with h2 | ⟨_, h2⟩
    · exact UInt8.lt_irrefl _ h2
    · exact this h2
theorem preL_past : ∀ p x y : List UInt8, Op.bytesLess x p = false → preL p x = false → Op.bytesLess x y = true → preL p y = false
  | [], x, y, _, h, _ => by simp [preL] at h
  | c :: p, [], y, h, _, _ => by rw [Op.bytesLess] at h; cases h
  | c :: p, d :: x, [], _, _, _ => by simp [preL]
  | c :: p, d :: x, e :: y, h1, h2, h3 => by
    rw [Bool.eq_false_iff] at *
    intro h4
    rw [less_cons] at h3
    rw [ne_eq, less_cons] at h1
    rw [preL_cons] at h4
    obtain ⟨rfl, h4⟩ := h4
    rcases h3 with h3 | ⟨rfl, h3⟩
    · exact h1 (.inl h3)
    · have g1 : Op.bytesLess x p = false := by rw [Bool.eq_false_iff]; exact fun h => h1 (.inr ⟨rfl, h⟩)
      have g2 : preL p x = false := by rw [Bool.eq_false_iff]; exact fun h => h2 ((preL_cons _ _ _ _).2 ⟨rfl, h⟩)
      have := preL_past p x y g1 g2 h3
      rw [this] at h4; cases h4
/-- Keys rise. -/
def Rises (l : List IP) : Prop := ∀ i (h : i + 1 < l.length), Op.bytesLess (l[i]'(by omega)).f0.toList l[i + 1].f0.toList = true
theorem Rises.lt {l : List IP} (h : Rises l) : ∀ (d i : Nat) (hd : i + 1 + d < l.length), Op.bytesLess (l[i]'(by omega)).f0.toList (l[i + 1 + d]).f0.toList = true
  | 0, i, hd => h i hd
  | d + 1, i, hd => less_trans _ _ _ (Rises.lt h d i (by omega)) (h (i + 1 + d) (by omega))
theorem Rises.lt' {l : List IP} (h : Rises l) {i j : Nat} (hij : i < j) (hj : j < l.length) : Op.bytesLess (l[i]'(by omega)).f0.toList l[j].f0.toList = true := by
  have := h.lt (j - i - 1) i (by omega)
  have e : i + 1 + (j - i - 1) = j := by omega
  simp only [e] at this
  exact this
theorem fromB_pair (l : List IP) : ∀ (d i j : Nat), fromB l d i = true → i ≤ j → j < i + d → pairB l j = true
  | 0, i, j, _, h1, h2 => by omega
  | d + 1, i, j, h, h1, h2 => by
    rw [fromB, Bool.and_eq_true] at h
    by_cases e : i = j
    · subst e; exact h.1
    · exact fromB_pair l d (i + 1) j h.2 (by omega) (by omega)
theorem storeB_pair {l : List IP} (h : storeB l = true) (i : Nat) (hi : i < l.length) : pairB l i = true := by
  unfold storeB at h
  rw [Bool.and_eq_true] at h
  exact fromB_pair l l.length 0 i h.1 (by omega) (by omega)
theorem storeB_len {l : List IP} (h : storeB l = true) : l.length ≤ 400 := by
  unfold storeB at h
  rw [Bool.and_eq_true, decide_eq_true_iff] at h
  exact h.2
theorem storeB_rises {l : List IP} (h : storeB l = true) : Rises l := by
  intro i hi
  have hp := storeB_pair h (i + 1) hi
  unfold pairB lessB at hp
  rw [Bool.and_eq_true, Bool.and_eq_true, Bool.or_eq_true, decide_eq_true_iff] at hp
  rcases hp.2.2 with h0 | h0
  · omega
  · rw [rdI l (i + 1) hi, show (((i + 1 : Nat) : Int) - 1) = (i : Int) by omega, rdI l i (by omega)] at h0
    exact h0
theorem storeB_key {l : List IP} (h : storeB l = true) : ∀ x ∈ l, (1 ≤ x.f0.size ∧ x.f0.size ≤ 60) ∧ x.f1.size ≤ 1000 := by
  intro x hx
  obtain ⟨i, hi, rfl⟩ := List.getElem_of_mem hx
  have hp := storeB_pair h i hi
  unfold pairB keyB valueB at hp
  rw [Bool.and_eq_true, Bool.and_eq_true, decide_eq_true_iff, decide_eq_true_iff, rdI l i hi] at hp
  exact ⟨hp.1, hp.2.1⟩
theorem atV_spec {l : List IP} (h : Rises l) (key : ByteArray) : ∀ (f i j : Nat), j - i < f → i ≤ j → (hj : j ≤ l.length) →
    (∀ n (hn : n < l.length), n < i → Op.bytesLess l[n].f0.toList key.toList = true) → (∀ n (hn : n < l.length), j ≤ n → Op.bytesLess l[n].f0.toList key.toList = false) →
    (∀ n (hn : n < l.length), n < atV l key f i j → Op.bytesLess l[n].f0.toList key.toList = true) ∧ (∀ n (hn : n < l.length), atV l key f i j ≤ n → Op.bytesLess l[n].f0.toList key.toList = false)
  | 0, i, j, hf, _, _, _, _ => by omega
  | f + 1, i, j, hf, hij, hj, h1, h2 => by
    rw [atV]
    by_cases hlt : i < j
    · rw [if_pos hlt, rdI l ((i + j) / 2) (by omega)]
      split
      · rename_i hm
        refine atV_spec h key f _ _ (by omega) (by omega) hj (fun n hn hni => ?_) h2
        by_cases e : n = (i + j) / 2
        · subst e; exact hm
        · exact less_trans _ _ _ (h.lt' (show n < (i + j) / 2 by omega) (by omega)) hm
      · rename_i hm
        refine atV_spec h key f _ _ (by omega) (by omega) (by omega) h1 (fun n hn hni => ?_)
        by_cases e : n = (i + j) / 2
        · subst e; rw [Bool.eq_false_iff]; exact hm
        · rw [Bool.eq_false_iff]
          intro hc
          exact hm (less_trans _ _ _ (h.lt' (show (i + j) / 2 < n by omega) hn) hc)
    · rw [if_neg hlt]
      exact ⟨h1, fun n hn hni => h2 n hn (by omega)⟩
theorem atOf_spec {l : List IP} (h : Rises l) (key : ByteArray) :
    (∀ n (hn : n < l.length), n < atOf l key → Op.bytesLess l[n].f0.toList key.toList = true) ∧ (∀ n (hn : n < l.length), atOf l key ≤ n → Op.bytesLess l[n].f0.toList key.toList = false) :=
  atV_spec h key (l.length + 1) 0 l.length (by omega) (by omega) (Nat.le_refl _) (fun n _ h => by omega) (fun n hn h => by omega)
end Go.Proofs.YteghpdmlpefnfaaDoor.U

/- The pairs whose keys begin so: the program's scan is the reference's, where keys rise. -/
namespace Go.Proofs.YteghpdmlpefnfaaDoor.U
open Go Go.RowKit Go.Proofs.YteghpdmlpefnfaaDoor.Q Go.Proofs.YteghpdmlpefnfaaDoorW.PrintWords Go.Proofs.YteghpdmlpefnfaaDoorW.PrintLast Go.Proofs.YteghpdmlpefnfaaDoorW.PrintMore
set_option linter.unusedVariables false
set_option linter.unusedSimpArgs false

def preB (p : ByteArray) (x : IP) : Bool := preL p.data.toList x.f0.data.toList
theorem pre_iff (p x : ByteArray) : preL p.data.toList x.data.toList = true ↔ p.size ≤ x.size ∧ (x.extract 0 p.size).toList = p.toList := by
  unfold preL
  rw [beq_iff_eq, ByteArray.toList_eq, ByteArray.toList_eq, extract_list, size_data, List.drop_zero]
  constructor
  · intro h
    refine ⟨?_, h⟩
    have := congrArg List.length h
    rw [List.length_take, size_data, size_data] at this
    omega
  · exact fun h => h.2
theorem HasPrefix_eq (x p : ByteArray) : strings_HasPrefix.f x p = some (preL p.data.toList x.data.toList) := by
  unfold strings_HasPrefix.f internal_stringslite_HasPrefix.f
  by_cases h : (x.size : Int) ≥ (p.size : Int)
  · rw [if_pos h, if_pos (by omega), if_pos (by omega)]
    simp only [Option.bind_some]
    congr 1
    rw [Bool.eq_iff_iff, beq_iff_eq, pre_iff]
    exact ⟨fun e => ⟨by omega, e⟩, fun e => e.2⟩
  · rw [if_neg h]
    simp only [Option.bind_some]
    congr 1
    rw [eq_comm, Bool.eq_false_iff]
    intro e
    have := ((pre_iff p x).1 e).1
    omega
theorem implScan_go (l : List IP) (p : ByteArray) (hl : l.length ≤ 1048576) : ∀ (d i : Nat) (out : List IP), i + d = l.length → out.length ≤ i →
    Ev (fun k => impl_scan.l0 k p out l (l.length : Int) (i : Int)) (out ++ (l.drop i).filter (preB p)) := by
  intro d
  induction d with
  | zero =>
    intro i out hi ho
    refine Ev.step (fun k => ?_) (Ev.now _)
    rw [impl_scan.l0, if_neg (by omega), List.drop_of_length_le (by omega)]
    simp
  | succ d ih =>
    intro i out hi ho
    have hlt : i < l.length := by omega
    have hstep : ∀ k, impl_scan.l0 (k + 1) p out l (l.length : Int) (i : Int) = if preB p l[i] = true then impl_scan.l0 k p (out ++ [l[i]]) l (l.length : Int) ((i + 1 : Nat) : Int) else impl_scan.l0 k p out l (l.length : Int) ((i + 1 : Nat) : Int) := by
      intro k
      rw [impl_scan.l0, if_pos (by omega), if_pos (by omega), if_pos (by omega), rdI l i hlt, HasPrefix_eq, wid (n := (i : Int) + 1) (by omega) (by omega)]
      simp only [Option.bind_some]
      rw [if_pos (show out.length < 4398046511104 by omega)]
      rfl
    refine Ev.step hstep ?_
    rw [List.drop_eq_getElem_cons hlt, List.filter_cons]
    split
    · have := ih (i + 1) (out ++ [l[i]]) (by omega) (by rw [List.length_append, List.length_singleton]; omega)
      rw [List.append_assoc] at this
      exact this
    · exact ih (i + 1) out (by omega) (by omega)
theorem implScan_ev (l : List IP) (p : ByteArray) (hl : l.length ≤ 1048576) : Ev (fun k => impl_scan.f k l p) (l.filter (preB p)) := by
  unfold impl_scan.f
  have := implScan_go l p hl l.length 0 [] (by omega) (by simp)
  simpa using this
theorem specScan_go (l : List IP) (p : ByteArray) (hl : l.length ≤ 1048576) : ∀ (d i : Nat) (out : List IP), i + d = l.length → out.length ≤ i →
    Ev (fun k => spec_l03Scan.l0 k l p out (i : Int)) (out ++ (l.drop i).takeWhile (preB p)) := by
  intro d
  induction d with
  | zero =>
    intro i out hi ho
    refine Ev.step (fun k => ?_) (Ev.now _)
    rw [spec_l03Scan.l0, if_neg (by omega), List.drop_of_length_le (by omega)]
    simp
  | succ d ih =>
    intro i out hi ho
    have hlt : i < l.length := by omega
    have hstep : ∀ k, spec_l03Scan.l0 (k + 1) l p out (i : Int) = if preB p l[i] = true then spec_l03Scan.l0 k l p (out ++ [l[i]]) ((i + 1 : Nat) : Int) else some out := by
      intro k
      rw [spec_l03Scan.l0, if_pos (by omega), if_pos (by omega), rdI l i hlt, wid (n := (i : Int) + 1) (by omega) (by omega)]
      by_cases hp : preB p l[i] = true
      · obtain ⟨h1, h2⟩ := (pre_iff p l[i].f0).1 hp
        rw [if_pos hp, if_pos (by omega), if_pos (by omega), if_pos (by omega), if_pos h2, if_pos (show out.length < 4398046511104 by omega)]
        rfl
      · rw [if_neg hp]
        by_cases h1 : (l[i].f0.size : Int) ≥ (p.size : Int)
        · rw [if_pos h1, if_pos (by omega), if_pos (by omega), if_neg (fun h2 => hp ((pre_iff p l[i].f0).2 ⟨by omega, h2⟩))]
        · rw [if_neg h1]
    refine Ev.step hstep ?_
    rw [List.drop_eq_getElem_cons hlt, List.takeWhile_cons]
    split
    · have := ih (i + 1) (out ++ [l[i]]) (by omega) (by rw [List.length_append, List.length_singleton]; omega)
      rw [List.append_assoc] at this
      exact this
    · rw [List.append_nil]; exact Ev.now _
theorem Rises.pair {l : List IP} (h : Rises l) : l.Pairwise (fun a b => Op.bytesLess a.f0.toList b.f0.toList = true) := by
  rw [List.pairwise_iff_getElem]
  intro i j hi hj hij
  exact h.lt' hij hj
theorem take_filter (p : ByteArray) : ∀ m : List IP, m.Pairwise (fun a b => Op.bytesLess a.f0.toList b.f0.toList = true) → (∀ x ∈ m, Op.bytesLess x.f0.toList p.toList = false) → m.takeWhile (preB p) = m.filter (preB p)
  | [], _, _ => rfl
  | x :: m, hp, hx => by
    rw [List.takeWhile_cons, List.filter_cons]
    rw [List.pairwise_cons] at hp
    split
    · rw [take_filter p m hp.2 (fun y hy => hx y (by simp [hy]))]
    · rename_i hn
      symm
      rw [List.filter_eq_nil_iff]
      intro y hy
      have h1 := hx x (by simp)
      have h2 := hp.1 y hy
      rw [ByteArray.toList_eq, ByteArray.toList_eq] at h1 h2
      have := preL_past p.data.toList x.f0.data.toList y.f0.data.toList h1 (by rw [Bool.eq_false_iff]; exact hn) h2
      unfold preB
      rw [this]
      decide
theorem specScan_ev (l : List IP) (p : ByteArray) (hl : l.length ≤ 1048576) (hr : Rises l) : Ev (fun k => spec_l03Scan.f k l p) (l.filter (preB p)) := by
  unfold spec_l03Scan.f
  refine Ev.bind (specAt_ev l p hl) ?_
  have hle := atOf_le l p
  obtain ⟨h1, h2⟩ := atOf_spec hr p
  have e : l.filter (preB p) = [] ++ (l.drop (atOf l p)).takeWhile (preB p) := by
    rw [List.nil_append, take_filter p _ (hr.pair.sublist (List.drop_sublist _ _))]
    · conv => lhs; rw [← List.take_append_drop (atOf l p) l, List.filter_append]
      have : (l.take (atOf l p)).filter (preB p) = [] := by
        rw [List.filter_eq_nil_iff]
        intro x hx hc
        obtain ⟨i, hi, rfl⟩ := List.getElem_of_mem hx
        rw [List.length_take] at hi
        rw [List.getElem_take] at hc
        have := h1 i (by omega) (by omega)
        have g := preL_ge _ _ hc
        rw [ByteArray.toList_eq, ByteArray.toList_eq, g] at this
        cases this
      rw [this, List.nil_append]
    · intro x hx
      obtain ⟨i, hi, rfl⟩ := List.getElem_of_mem hx
      rw [List.length_drop] at hi
      rw [List.getElem_drop]
      exact h2 _ (by omega) (by omega)
  rw [e]
  exact specScan_go l p hl (l.length - atOf l p) (atOf l p) [] (by omega) (by simp)
end Go.Proofs.YteghpdmlpefnfaaDoor.U

/- Fields that are written are read back; amounts and bounds as both sides read them. -/
namespace Go.Proofs.YteghpdmlpefnfaaDoor.U
open Go Go.RowKit Go.Proofs.YteghpdmlpefnfaaDoor.Q Go.Proofs.YteghpdmlpefnfaaDoorW.PrintWords Go.Proofs.YteghpdmlpefnfaaDoorW.PrintLast Go.Proofs.YteghpdmlpefnfaaDoorW.PrintMore
set_option linter.unusedVariables false
set_option linter.unusedSimpArgs false

def someB (n : Int) : Bool := decide (1 ≤ n ∧ n ≤ 1000000000000000000)
def max0 (n : Int) : Int := if 0 ≤ n then n else 0
theorem within_eq (n a b : Int) : impl_within.f n a b = some (decide (a ≤ n ∧ n ≤ b)) := by
  unfold impl_within.f
  by_cases h : n ≥ a
  · rw [if_pos h]; congr 1; rw [decide_eq_decide]; omega
  · rw [if_neg h]; congr 1; rw [eq_comm, decide_eq_false_iff_not]; omega
theorem l01In_eq (n a b : Int) : spec_l01In.f n a b = some (decide (a ≤ n ∧ n ≤ b)) := by
  unfold spec_l01In.f
  by_cases h : n ≥ a
  · rw [if_pos h]; congr 1; rw [decide_eq_decide]; omega
  · rw [if_neg h]; congr 1; rw [eq_comm, decide_eq_false_iff_not]; omega
theorem isSome_eq (n : Int) : impl_isSome.f n = some (someB n) := by unfold impl_isSome.f; rw [within_eq]; rfl
theorem amountText_eq (n : Int) (h0 : 0 ≤ n) (h1 : n ≤ 9223372036854775807) : impl_amountText.f n = some (digV n.toNat) := by
  unfold impl_amountText.f strconv_Itoa.f
  rw [if_pos (by omega), if_pos h1, itoa_eq n h0]
  rfl
theorem readAmount_fst (a : ByteArray) (hs : a.size ≤ 281474976710656) : ∃ b, impl_readAmount.f a = some (max0 (amtV a), b) := by
  rw [readAmount_eq a hs]
  unfold max0
  by_cases h : 0 ≤ amtV a
  · rw [if_pos h, if_pos h]; exact ⟨_, rfl⟩
  · rw [if_neg h, if_neg h]; exact ⟨_, rfl⟩
theorem getV_size (l : List IP) (key : ByteArray) (B : Nat) (h : ∀ x ∈ l, x.f1.size ≤ B) : (getV l key).1.size ≤ B := by
  unfold getV
  split
  · rename_i hh
    unfold hitB at hh
    rw [Bool.and_eq_true, decide_eq_true_iff] at hh
    rw [rdI l _ hh.1]
    exact h _ (List.getElem_mem hh.1)
  · exact Nat.zero_le _
theorem getV_none (l : List IP) (key : ByteArray) (h : (getV l key).2 = false) : (getV l key).1 = ⟨#[]⟩ := by
  unfold getV at *
  split
  · rename_i hh; rw [if_pos hh] at h; cases h
  · rfl
theorem readV_empty : readV (⟨#[]⟩ : ByteArray) = none := by unfold readV; rw [if_pos (by rfl)]

/-! ### what is written is read back -/
theorem ofNums2 (n : Nat) (h : n ≤ 65535) : ∃ a b : UInt8, strOfNums [(n : Int) / 256 % 256, (n : Int) % 256] = ⟨#[a, b]⟩ ∧ (a.toNat : Int) * 256 + b.toNat = n := by
  refine ⟨UInt8.ofNat (n / 256), UInt8.ofNat (n % 256), ?_, ?_⟩
  · have e1 : ((n : Int) / 256 % 256).toNat = n / 256 := by omega
    have e2 : ((n : Int) % 256).toNat = n % 256 := by omega
    simp [strOfNums, e1, e2]
  · rw [UInt8.toNat_ofNat', UInt8.toNat_ofNat']; omega
theorem readN_restV : ∀ (l : List ByteArray), (∀ x ∈ l, x.size ≤ 1000) → readN l.length (restV l) = some l
  | [], _ => by rw [List.length_nil, readN]; rfl
  | x :: xs, h => by
    have hx := h x (by simp)
    obtain ⟨a, b, e, hab⟩ := ofNums2 x.size (by omega)
    have ih := readN_restV xs (fun y hy => h y (by simp [hy]))
    have hl : (restV (x :: xs)).data.toList = a :: b :: (x.data.toList ++ (restV xs).data.toList) := by
      rw [restV, fieldV, e]
      simp
    have hsz : (restV (x :: xs)).size = 2 + x.size + (restV xs).size := by
      rw [← size_data, hl, List.length_cons, List.length_cons, List.length_append, size_data, size_data]; omega
    generalize restV (x :: xs) = s at *
    have b0 := bt_list s 0 (by omega)
    have b1 := bt_list s 1 (by omega)
    rw [hl] at b0 b1
    simp only [List.getD_cons_zero, List.getD_cons_succ] at b0 b1
    have f0 : bt s 0 = (a.toNat : Int) := b0
    have f1 : bt s 1 = (b.toNat : Int) := b1
    have hh : hd2 s = x.size := by
      have := (hd2_bd s).2
      rw [f0, f1, hab] at this
      omega
    rw [List.length_cons, readN, hh, if_neg (by omega), if_neg (by omega), if_neg (by omega)]
    have e1 : s.extract 2 (2 + x.size) = x := by
      apply ext_list
      rw [extract_list, hl, show 2 + x.size = x.size + 1 + 1 by omega]
      simp only [List.take_succ_cons, List.drop_succ_cons, List.drop_zero]
      exact List.take_left' (size_data x)
    have e2 : s.extract (2 + x.size) s.size = restV xs := by
      apply ext_list
      rw [extract_list, List.take_of_length_le (by rw [size_data]; exact Nat.le_refl _), hl, show 2 + x.size = x.size + 1 + 1 by omega]
      simp only [List.drop_succ_cons]
      exact List.drop_left' (size_data x)
    rw [e1, e2, ih]
    rfl
theorem readV_fieldsV (l : List ByteArray) (hl : l.length ≤ 40) (hx : ∀ x ∈ l, x.size ≤ 1000) : readV (fieldsV l) = some l := by
  have hlist : (fieldsV l).data.toList = UInt8.ofNat l.length :: (restV l).data.toList := by
    unfold fieldsV
    have : ((l.length : Int) % 256).toNat = l.length := by omega
    simp [strOfNums, this]
  have hsz : (fieldsV l).size = 1 + (restV l).size := by rw [← size_data, hlist, List.length_cons, size_data]; omega
  have e2 : (fieldsV l).extract 1 (fieldsV l).size = restV l := by
    apply ext_list
    rw [extract_list, List.take_of_length_le (by rw [size_data]; exact Nat.le_refl _), hlist]
    rfl
  have b0 := bt_list (fieldsV l) 0 (by omega)
  rw [hlist] at b0
  simp only [List.getD_cons_zero] at b0
  have f0 : bt (fieldsV l) 0 = (l.length : Int) := by
    refine (show bt (fieldsV l) 0 = _ from b0).trans ?_
    rw [UInt8.toNat_ofNat']; omega
  unfold readV
  rw [if_neg (by omega), f0, if_neg (by omega), e2, Int.toNat_natCast]
  exact readN_restV l hx
theorem fieldsV_inj {l l' : List ByteArray} (hl : l.length ≤ 40) (hx : ∀ x ∈ l, x.size ≤ 1000) (hl' : l'.length ≤ 40) (hx' : ∀ x ∈ l', x.size ≤ 1000) (h : fieldsV l = fieldsV l') : l = l' := by
  have h1 := readV_fieldsV l hl hx
  have h2 := readV_fieldsV l' hl' hx'
  rw [h, h2] at h1
  exact (Option.some.inj h1).symm

end Go.Proofs.YteghpdmlpefnfaaDoor.U

/- Names of accounts and denominations: as the reference and as the program read them. -/
namespace Go.Proofs.YteghpdmlpefnfaaDoor.U
open Go Go.RowKit Go.Proofs.YteghpdmlpefnfaaDoor.Q Go.Proofs.YteghpdmlpefnfaaDoorW.PrintWords Go.Proofs.YteghpdmlpefnfaaDoorW.PrintLast Go.Proofs.YteghpdmlpefnfaaDoorW.PrintMore
set_option linter.unusedVariables false
set_option linter.unusedSimpArgs false

def Letter (c : Int) : Prop := (97 ≤ c ∧ c ≤ 122) ∨ (65 ≤ c ∧ c ≤ 90) ∨ c = 95
def Digit (c : Int) : Prop := 48 ≤ c ∧ c ≤ 57
def IsName (x : ByteArray) : Prop := 1 ≤ x.size ∧ x.size ≤ 40 ∧ ∀ j : Int, 0 ≤ j → j < (x.size : Int) → Letter (bt x j) ∨ (j ≠ 0 ∧ Digit (bt x j))
instance (c : Int) : Decidable (Letter c) := by unfold Letter; infer_instance
instance (c : Int) : Decidable (Digit c) := by unfold Digit; infer_instance

theorem nameok_l0 (x : ByteArray) (hn : (x.size : Int) ≤ 140737488351232) (d : Nat) : ∀ i : Int, 0 ≤ i → i ≤ (x.size : Int) → (x.size : Int) - i = d →
    ∃ b, Ev (fun k => impl_NameOK.l0 k x (x.size : Int) i) b ∧ (b = true ↔ (∀ j : Int, i ≤ j → j < (x.size : Int) → Letter (bt x j) ∨ (j ≠ 0 ∧ Digit (bt x j))) ∧ 1 ≤ x.size ∧ x.size ≤ 40) := by
  induction d with
  | zero =>
    intro i h0 h1 hd
    refine ⟨decide (1 ≤ (x.size : Int) ∧ (x.size : Int) ≤ 40), Ev.step (fun k => ?_) (Ev.now _), ?_⟩
    · rw [impl_NameOK.l0, if_neg (by omega)]
      unfold impl_within.f
      by_cases h : (x.size : Int) ≥ 1
      · rw [if_pos h]
        simp only [Option.bind_some]
        congr 1
        exact decide_eq_decide.2 ⟨fun y => ⟨h, y⟩, fun y => y.2⟩
      · rw [if_neg h, decide_eq_false (fun y => h y.1)]
        rfl
    · rw [decide_eq_true_iff]
      exact ⟨fun h => ⟨fun j hj hj' => by omega, by omega, by omega⟩, fun h => by omega⟩
  | succ d ih =>
    intro i h0 h1 hd
    have hlt : i < (x.size : Int) := by omega
    by_cases hg : Letter (bt x i) ∨ (i ≠ 0 ∧ Digit (bt x i))
    · obtain ⟨b, hb, hb'⟩ := ih (i + 1) (by omega) (by omega) (by omega)
      refine ⟨b, Ev.step (fun k => ?_) hb, hb'.trans ⟨fun h => ⟨fun j hj hj' => ?_, h.2⟩, fun h => ⟨fun j hj hj' => h.1 j (by omega) hj', h.2⟩⟩⟩
      · rw [impl_NameOK.l0, if_pos hlt, if_pos h0, if_pos hlt, wid (n := i + 1) (by omega) (by omega)]
        unfold Letter Digit at hg
        generalize bt x i = c at *
        repeat' split
        all_goals first | rfl | (exfalso; omega)
      · by_cases e : j = i
        · subst e; exact hg
        · exact h.1 j (by omega) hj'
    · refine ⟨false, Ev.step (fun k => ?_) (Ev.now _), ⟨(fun h => by cases h), fun h => absurd (h.1 i (Int.le_refl _) hlt) hg⟩⟩
      rw [impl_NameOK.l0, if_pos hlt, if_pos h0, if_pos hlt]
      unfold Letter Digit at hg
      generalize bt x i = c at *
      repeat' split
      all_goals first | rfl | (exfalso; omega)

theorem NameOK_ev (x : ByteArray) (hn : (x.size : Int) ≤ 140737488351232) : ∃ b, Ev (fun k => impl_NameOK.f k x) b ∧ (b = true ↔ IsName x) := by
  obtain ⟨b, hb, hb'⟩ := nameok_l0 x hn x.size 0 (by omega) (by omega) (by omega)
  exact ⟨b, hb, hb'.trans ⟨fun h => ⟨h.2.1, h.2.2, h.1⟩, fun h => ⟨h.2.2, h.1, h.2.1⟩⟩⟩

theorem bool_of_iff {b : Bool} {p : Prop} [Decidable p] (h : b = true ↔ p) : b = decide p := by rw [Bool.eq_iff_iff, h, decide_eq_true_iff]
theorem letter_eq (c : Int) : spec_l00Letter.f c = some (decide (Letter c)) := by
  unfold spec_l00Letter.f
  repeat' split
  all_goals
    refine congrArg some (bool_of_iff ?_)
    unfold Letter
    first
    | exact ⟨fun _ => by omega, fun _ => rfl⟩
    | (rw [beq_iff_eq]; omega)
theorem digit_eq (c : Int) : spec_l00Digit.f c = some (decide (Digit c)) := by
  unfold spec_l00Digit.f
  split
  · refine congrArg some (bool_of_iff ?_)
    unfold Digit
    rw [decide_eq_true_iff]
    omega
  · refine congrArg some (bool_of_iff ?_)
    unfold Digit
    exact ⟨(fun h => by cases h), fun h => by omega⟩

theorem word_l0 (x : ByteArray) (hn : (x.size : Int) ≤ 40) (d : Nat) : ∀ i : Int, 1 ≤ i → i ≤ (x.size : Int) → (x.size : Int) - i = d →
    ∃ b, Ev (fun k => spec_l00Word.l0 k x i) b ∧ (b = true ↔ ∀ j : Int, i ≤ j → j < (x.size : Int) → Letter (bt x j) ∨ (j ≠ 0 ∧ Digit (bt x j))) := by
  induction d with
  | zero =>
    intro i h0 h1 hd
    exact ⟨true, Ev.step (fun k => by rw [spec_l00Word.l0, if_neg (by omega)]) (Ev.now _), ⟨fun _ j hj hj' => by omega, fun _ => rfl⟩⟩
  | succ d ih =>
    intro i h0 h1 hd
    have hlt : i < (x.size : Int) := by omega
    have hstep : ∀ k, spec_l00Word.l0 (k + 1) x i = if decide (Letter (bt x i)) = true then spec_l00Word.l0 k x (i + 1) else if decide (Digit (bt x i)) = true then spec_l00Word.l0 k x (i + 1) else some false := by
      intro k
      rw [spec_l00Word.l0, if_pos hlt, if_pos (by omega), letter_eq, digit_eq, wid (n := i + 1) (by omega) (by omega)]
      rfl
    by_cases hg : Letter (bt x i) ∨ Digit (bt x i)
    · obtain ⟨b, hb, hb'⟩ := ih (i + 1) (by omega) (by omega) (by omega)
      refine ⟨b, Ev.step (fun k => ?_) hb, hb'.trans ⟨fun h j hj hj' => ?_, fun h j hj hj' => h j (by omega) hj'⟩⟩
      · rw [hstep]
        rcases hg with hg | hg
        · rw [if_pos (decide_eq_true hg)]
        · rw [if_pos (decide_eq_true hg)]
          split <;> rfl
      · by_cases e : j = i
        · subst e; exact hg.imp id (fun y => ⟨by omega, y⟩)
        · exact h j (by omega) hj'
    · refine ⟨false, Ev.step (fun k => ?_) (Ev.now _), ⟨(fun h => by cases h), fun h => absurd ((h i (Int.le_refl _) hlt).imp id (fun y => y.2)) hg⟩⟩
      rw [hstep, if_neg (by rw [decide_eq_true_iff]; exact fun y => hg (.inl y)), if_neg (by rw [decide_eq_true_iff]; exact fun y => hg (.inr y))]

theorem Word_ev (x : ByteArray) : ∃ b, Ev (fun k => spec_l00Word.f k x) b ∧ (b = true ↔ IsName x) := by
  unfold spec_l00Word.f
  have hf : Ev (fun k => spec_l00Word.j0 k x true) false := Ev.step (fun k => by rw [spec_l00Word.j0, if_pos rfl]) (Ev.now _)
  by_cases h1 : (x.size : Int) < 1
  · simp only [if_pos h1]
    exact ⟨false, hf, ⟨(fun h => by cases h), fun h => by have := h.1; omega⟩⟩
  simp only [if_neg h1]
  by_cases h2 : (x.size : Int) > 40
  · simp only [if_pos h2]
    exact ⟨false, hf, ⟨(fun h => by cases h), fun h => by have := h.2.1; omega⟩⟩
  simp only [if_neg h2, if_pos (show (0 : Int) < (x.size : Int) by omega), letter_eq, Option.bind_some]
  by_cases h3 : Letter (bt x 0)
  · obtain ⟨b, hb, hb'⟩ := word_l0 x (by omega) (x.size - 1) 1 (by omega) (by omega) (by omega)
    refine ⟨b, ?_, hb'.trans ⟨fun h => ⟨by omega, by omega, fun j hj hj' => ?_⟩, fun h j hj hj' => h.2.2 j (by omega) hj'⟩⟩
    · rw [decide_eq_true h3]
      exact Ev.step (fun k => by rw [Bool.not_true, spec_l00Word.j0, if_neg (by decide)]) hb
    · by_cases e : j = 0
      · subst e; exact .inl h3
      · exact h j (by omega) hj'
  · rw [decide_eq_false h3]
    refine ⟨false, hf, ⟨(fun h => by cases h), fun h => ?_⟩⟩
    rcases h.2.2 0 (by omega) (by omega) with h | h
    · exact absurd h h3
    · exact absurd rfl h.1

noncomputable instance (x : ByteArray) : Decidable (IsName x) := Classical.propDecidable _
/-- A name of at most twelve bytes. -/
noncomputable def nameB (x : ByteArray) : Bool := decide (IsName x ∧ x.size ≤ 12)
noncomputable def peopleB (x : ByteArray) : Bool := nameB x && !impl_isPeople.bad x

theorem DenomOK_ev (x : ByteArray) (hn : (x.size : Int) ≤ 140737488351232) : Ev (fun k => impl_DenomOK.f k x) (nameB x) := by
  obtain ⟨b, hb, hb'⟩ := NameOK_ev x hn
  unfold impl_DenomOK.f
  refine Ev.bind hb ?_
  unfold nameB
  by_cases h : IsName x
  · simp only [hb'.2 h, if_true]
    rw [show decide ((x.size : Int) ≤ 12) = decide (IsName x ∧ x.size ≤ 12) from by rw [Bool.eq_iff_iff, decide_eq_true_iff, decide_eq_true_iff]; exact ⟨fun y => ⟨h, by omega⟩, fun y => by have := y.2; omega⟩]
    exact Ev.now _
  · obtain rfl : b = false := by cases b; rfl; exact absurd (hb'.1 rfl) h
    rw [decide_eq_false (fun y : IsName x ∧ x.size ≤ 12 => h y.1)]
    exact Ev.now _

theorem l05Name_ev (x : ByteArray) : Ev (fun k => spec_l05Name.f k x) (nameB x) := by
  obtain ⟨b, hb, hb'⟩ := Word_ev x
  unfold spec_l05Name.f nameB
  by_cases h12 : (x.size : Int) ≤ 12
  · simp only [if_pos h12]
    have : Ev (fun k => spec_NameOK.f k x) b := by unfold spec_NameOK.f; exact Ev.bind hb (Ev.now _)
    refine Ev.bind this ?_
    rw [show b = decide (IsName x ∧ x.size ≤ 12) from by rw [Bool.eq_iff_iff, decide_eq_true_iff, hb']; exact ⟨fun y => ⟨y, by omega⟩, fun y => y.1⟩]
    exact Ev.now _
  · simp only [if_neg h12]
    rw [decide_eq_false (fun y : IsName x ∧ x.size ≤ 12 => h12 (by have := y.2; omega))]
    exact Ev.now _

theorem l08Name_ev (x : ByteArray) : Ev (fun k => spec_l08Name.f k x) (peopleB x) := by
  unfold spec_l08Name.f
  refine Ev.bind (l05Name_ev x) ?_
  unfold peopleB impl_isPeople.bad
  cases nameB x with
  | false => exact Ev.now _
  | true =>
    simp only [if_true, Bool.true_and]
    by_cases h1 : x.toList = ([101, 115, 99, 114, 111, 119] : List UInt8)
    · simp only [h1, if_true]; exact Ev.now _
    · simp only [if_neg h1]
      by_cases h2 : x.toList = ([111, 114, 100, 101, 114, 115] : List UInt8)
      · simp only [h2, if_true]; exact Ev.now _
      · simp only [if_neg h2]
        by_cases h3 : x.toList = ([116, 97, 107, 101, 115] : List UInt8)
        · simp only [h3, if_true]; exact Ev.now _
        · simp only [if_neg h3, beq_eq_false_iff_ne.2 h1, beq_eq_false_iff_ne.2 h2, beq_eq_false_iff_ne.2 h3, Bool.false_or]
          exact Ev.now _

theorem areNames_go (l : List ByteArray) (hl : l.length < 1000000) (hn : ∀ x ∈ l, (x.size : Int) ≤ 140737488351232) : ∀ (d : Nat) (i : Nat), i + d = l.length →
    Ev (fun k => impl_areNames.l0 k l (l.length : Int) (i : Int)) ((l.drop i).all nameB) := by
  intro d
  induction d with
  | zero =>
    intro i hi
    refine Ev.step (fun k => ?_) (Ev.now _)
    rw [impl_areNames.l0, if_neg (by omega), List.drop_of_length_le (by omega)]
    rfl
  | succ d ih =>
    intro i hi
    have hlt : i < l.length := by omega
    have hx : rdOf ByteArray.empty l (i : Int) = l[i] := by simp [rdOf, List.getD_eq_getElem?_getD, List.getElem?_eq_getElem hlt]
    have h1 := DenomOK_ev l[i] (hn _ (List.getElem_mem hlt))
    have h2 := ih (i + 1) (by omega)
    rw [List.drop_eq_getElem_cons hlt, List.all_cons]
    have hstep : ∀ k, impl_areNames.l0 (k + 1) l (l.length : Int) (i : Int) = (impl_DenomOK.f k l[i]).bind fun t => if t = true then impl_areNames.l0 k l (l.length : Int) ((i + 1 : Nat) : Int) else some false := by
      intro k
      rw [impl_areNames.l0, if_pos (by omega), if_pos (by omega), if_pos (by omega), hx, wid (n := (i : Int) + 1) (by omega) (by omega)]
      rfl
    refine Ev.step hstep (Ev.bind h1 ?_)
    cases nameB l[i] with
    | false => exact Ev.now _
    | true =>
      simp only [if_true, Bool.true_and]
      exact h2
theorem areNames_ev (l : List ByteArray) (hl : l.length < 1000000) (hn : ∀ x ∈ l, (x.size : Int) ≤ 140737488351232) : Ev (fun k => impl_areNames.f k l) (l.all nameB) := by
  have := areNames_go l hl hn l.length 0 (by omega)
  unfold impl_areNames.f
  simpa using this
theorem isPeople_ev (l : List ByteArray) (hl : l.length < 1000000) (hn : ∀ x ∈ l, (x.size : Int) ≤ 140737488351232) : Ev (fun k => impl_isPeople.f k l) (l.all peopleB) := by
  unfold impl_isPeople.f
  refine Ev.bind (areNames_ev l hl hn) ?_
  have e : l.all peopleB = (l.all nameB && !l.any impl_isPeople.bad) := by
    clear hl hn
    induction l with
    | nil => rfl
    | cons a l ih =>
      simp only [List.all_cons, List.any_cons, ih, peopleB]
      cases nameB a <;> cases impl_isPeople.bad a <;> cases l.all nameB <;> cases l.any impl_isPeople.bad <;> rfl
  rw [e]
  cases l.all nameB with
  | false => exact Ev.now _
  | true => simp only [if_true, Bool.true_and]; exact Ev.now _

end Go.Proofs.YteghpdmlpefnfaaDoor.U

/- An order as it stands in a store: the program's reading is the reference's. -/
namespace Go.Proofs.YteghpdmlpefnfaaDoor.U
open Go Go.RowKit Go.Proofs.YteghpdmlpefnfaaDoor.Q Go.Proofs.YteghpdmlpefnfaaDoorW.PrintWords Go.Proofs.YteghpdmlpefnfaaDoorW.PrintLast Go.Proofs.YteghpdmlpefnfaaDoorW.PrintMore
set_option linter.unusedVariables false
set_option linter.unusedSimpArgs false

abbrev Ord := ByteArray × ByteArray × Int × Int × Int × Bool
def openT : ByteArray := ⟨#[111, 112, 101, 110]⟩
def closedT : ByteArray := ⟨#[99, 108, 111, 115, 101, 100]⟩
def isOpen (st : ByteArray) : Bool := st.toList == ([111, 112, 101, 110] : List UInt8)
def isClosed (st : ByteArray) : Bool := st.toList == ([99, 108, 111, 115, 101, 100] : List UInt8)
/-- What makes an order a right one. -/
noncomputable def rightB (id m : ByteArray) (s w l : Int) (o : Bool) : Bool := nameB id && (peopleB m && (someB s && (someB w && (decide (0 ≤ l ∧ l ≤ s) && (decide (l > 0) == o)))))
noncomputable def orderO (id v : ByteArray) : Option Ord :=
  match readV v with
  | some [m, s, w, l, st] => if (rightB id m (amtV s) (amtV w) (amtV l) (isOpen st) && (isOpen st || isClosed st)) = true then some (id, m, amtV s, amtV w, amtV l, isOpen st) else none
  | _ => none
/-- An order and whether it is one. -/
def ordR (x : Ord) : Option Ord → ByteArray × ByteArray × Int × Int × Int × Bool × Bool
  | some (a, b, c, d, e, f) => (a, b, c, d, e, f, true)
  | none => (x.1, x.2.1, x.2.2.1, x.2.2.2.1, x.2.2.2.2.1, x.2.2.2.2.2, false)
theorem isOpen_eq (st : ByteArray) : isOpen st = true ↔ st = openT := by
  unfold isOpen
  rw [beq_iff_eq, show ([111, 112, 101, 110] : List UInt8) = openT.toList by decide +kernel]
  exact toList_eq_iff _ _
theorem isClosed_eq (st : ByteArray) : isClosed st = true ↔ st = closedT := by
  unfold isClosed
  rw [beq_iff_eq, show ([99, 108, 111, 115, 101, 100] : List UInt8) = closedT.toList by decide +kernel]
  exact toList_eq_iff _ _
theorem specOrderOK_ev (id m : ByteArray) (s w l : Int) (o : Bool) : Ev (fun k => spec_OrderOK.f k id m s w l o) (rightB id m s w l o) := by
  unfold spec_OrderOK.f rightB
  refine Ev.bind (l05Name_ev id) ?_
  cases nameB id with
  | false => exact Ev.now _
  | true =>
    simp only [if_true, Bool.true_and]
    refine Ev.bind (l08Name_ev m) ?_
    cases peopleB m with
    | false => exact Ev.now _
    | true =>
      simp only [if_true, Bool.true_and, l01In_eq, Option.bind_some]
      unfold someB
      cases decide (1 ≤ s ∧ s ≤ 1000000000000000000) with
      | false => exact Ev.now _
      | true =>
        cases decide (1 ≤ w ∧ w ≤ 1000000000000000000) with
        | false => exact Ev.now _
        | true =>
          simp only [if_true, Bool.true_and]
          by_cases hl : 0 ≤ l ∧ l ≤ s
          · simp only [decide_eq_true hl, if_true, Bool.true_and]
            cases o with
            | true =>
              simp only [if_true]
              cases decide (l > 0) <;> exact Ev.now _
            | false =>
              simp only [Bool.false_eq_true, if_false]
              by_cases h0 : l = 0
              · subst h0; exact Ev.now _
              · rw [if_neg h0, decide_eq_true (show l > 0 by omega)]; exact Ev.now _
          · simp only [decide_eq_false hl, Bool.false_eq_true, if_false, Bool.false_and]; exact Ev.now _
theorem one_small {x : ByteArray} (h : x.size ≤ 1048576) : ∀ y ∈ [x], (y.size : Int) ≤ 140737488351232 := by
  intro y hy
  rw [List.mem_singleton] at hy
  subst hy
  omega
theorem implOrderOK_ev (id m : ByteArray) (s w l : Int) (o : Bool) (hi : id.size ≤ 1048576) (hm : m.size ≤ 1048576) : Ev (fun k => impl_OrderOK.f k id m s w l o) (rightB id m s w l o) := by
  unfold impl_OrderOK.f rightB
  refine Ev.bind (areNames_ev [id] (by simp) (one_small hi)) ?_
  rw [List.all_cons, List.all_nil, Bool.and_true]
  cases nameB id with
  | false => exact Ev.now _
  | true =>
    simp only [if_true, Bool.true_and]
    refine Ev.bind (isPeople_ev [m] (by simp) (one_small hm)) ?_
    rw [List.all_cons, List.all_nil, Bool.and_true]
    cases peopleB m with
    | false => exact Ev.now _
    | true =>
      simp only [if_true, Bool.true_and, isSome_eq, within_eq, Option.bind_some]
      cases someB s with
      | false => exact Ev.now _
      | true =>
        cases someB w with
        | false => exact Ev.now _
        | true =>
          simp only [if_true, Bool.true_and]
          cases decide (0 ≤ l ∧ l ≤ s) <;> exact Ev.now _
theorem five {α : Type} (l : List α) (h : l.length = 5) : ∃ x y z u v, l = [x, y, z, u, v] := by
  match l, h with
  | [x, y, z, u, v], _ => exact ⟨x, y, z, u, v, rfl⟩
theorem orderO_ne (id v : ByteArray) (l : List ByteArray) (h : readV v = some l) (hl : l.length ≠ 5) : orderO id v = none := by
  unfold orderO
  rw [h]
  match l with
  | [] => rfl
  | [_] => rfl
  | [_, _] => rfl
  | [_, _, _] => rfl
  | [_, _, _, _] => rfl
  | [_, _, _, _, _] => exact absurd rfl hl
  | _ :: _ :: _ :: _ :: _ :: _ :: _ => rfl
theorem specRead_ev (id v : ByteArray) (hv : v.size ≤ 1048576) : ∃ x, Ev (fun k => spec_l09Read.f k id v) (ordR x (orderO id v)) := by
  unfold spec_l09Read.f
  obtain ⟨x, hx⟩ := l02Read_ev v (by omega)
  have hbad : ∀ x4, Ev (fun k => spec_l09Read.j0 k id x4 true) ((⟨#[]⟩ : ByteArray), (⟨#[]⟩ : ByteArray), 0, 0, 0, false, false) := fun x4 => Ev.step (fun k => by rw [spec_l09Read.j0, if_pos rfl]) (Ev.now _)
  have hbad2 : orderO id v = none → ∀ x4, ∃ x, Ev (fun k => spec_l09Read.j0 k id x4 true) (ordR x (orderO id v)) := fun e x4 => ⟨((⟨#[]⟩ : ByteArray), (⟨#[]⟩ : ByteArray), 0, 0, 0, false), by rw [e]; exact hbad x4⟩
  cases hr : readV v with
  | none =>
    have e : orderO id v = none := by unfold orderO; rw [hr]
    obtain ⟨y, hy⟩ := hbad2 e x
    refine ⟨y, Ev.bind hx ?_⟩
    rw [hr]
    simp only [readR, Bool.false_eq_true, if_false]
    exact hy
  | some fs =>
    obtain ⟨hv1, _, hfs⟩ := readV_of hr
    by_cases h5 : fs.length = 5
    · obtain ⟨m, s, w, l, st, rfl⟩ := five fs h5
      have hs := hfs s (by simp)
      have hw := hfs w (by simp)
      have hl := hfs l (by simp)
      have L5 : ((([m, s, w, l, st] : List ByteArray).length : Nat) : Int) = 5 := rfl
      have e : (((([m, s, w, l, st] : List ByteArray).length : Nat) : Int) != 5) = false := rfl
      have e2 : orderO id v = if (rightB id m (amtV s) (amtV w) (amtV l) (isOpen st) && (isOpen st || isClosed st)) = true then some (id, m, amtV s, amtV w, amtV l, isOpen st) else none := by unfold orderO; rw [hr]
      refine ⟨(id, m, amtV s, amtV w, amtV l, isOpen st), Ev.bind hx ?_⟩
      rw [hr]
      simp only [readR, List.nil_append, if_true, e]
      have d0 : rdOf ByteArray.empty [m, s, w, l, st] 0 = m := rfl
      have d1 : rdOf ByteArray.empty [m, s, w, l, st] 1 = s := rfl
      have d2 : rdOf ByteArray.empty [m, s, w, l, st] 2 = w := rfl
      have d3 : rdOf ByteArray.empty [m, s, w, l, st] 3 = l := rfl
      have d4 : rdOf ByteArray.empty [m, s, w, l, st] 4 = st := rfl
      refine Ev.step (f := fun k => (spec_l02Of.f k s).bind fun t1 => (spec_l02Of.f k w).bind fun t2 => (spec_l02Of.f k l).bind fun t3 => (spec_OrderOK.f k id m t1 t2 t3 (st.toList == ([111, 112, 101, 110] : List UInt8))).bind fun t => if t = true then (if st.toList = ([111, 112, 101, 110] : List UInt8) then some (id, m, t1, t2, t3, (st.toList == ([111, 112, 101, 110] : List UInt8)), true) else some (id, m, t1, t2, t3, (st.toList == ([111, 112, 101, 110] : List UInt8)), (st.toList == ([99, 108, 111, 115, 101, 100] : List UInt8)))) else some (id, m, t1, t2, t3, (st.toList == ([111, 112, 101, 110] : List UInt8)), false)) (fun k => by
        rw [spec_l09Read.j0, if_neg (by decide), L5, d0, d1, d2, d3, d4, if_pos (show (0 : Int) < 5 by decide), if_pos (show (1 : Int) < 5 by decide)]
        simp only [if_pos (show (2 : Int) < 5 by decide), if_pos (show (3 : Int) < 5 by decide), if_pos (show (4 : Int) < 5 by decide)]) ?_
      refine Ev.bind (l02Of_ev s (by omega)) ?_
      refine Ev.bind (l02Of_ev w (by omega)) (Ev.bind (l02Of_ev l (by omega)) (Ev.bind (specOrderOK_ev id m _ _ _ _) ?_))
      rw [e2]
      rw [show (st.toList == ([111, 112, 101, 110] : List UInt8)) = isOpen st from rfl]
      cases h1 : rightB id m (amtV s) (amtV w) (amtV l) (isOpen st) with
      | false => simp only [Bool.false_and, Bool.false_eq_true, if_false]; exact Ev.now _
      | true =>
        simp only [if_true, Bool.true_and]
        by_cases ho : st.toList = ([111, 112, 101, 110] : List UInt8)
        · have : isOpen st = true := by unfold isOpen; rw [beq_iff_eq]; exact ho
          simp only [if_pos ho, this, Bool.true_or, if_true]
          exact Ev.now _
        · have : isOpen st = false := by unfold isOpen; rw [beq_eq_false_iff_ne]; exact ho
          simp only [if_neg ho, this, Bool.false_or]
          rw [show (st.toList == ([99, 108, 111, 115, 101, 100] : List UInt8)) = isClosed st from rfl]
          cases isClosed st with
          | true => simp only [if_true]; exact Ev.now _
          | false => simp only [Bool.false_eq_true, if_false]; exact Ev.now _
    · have e : (((fs.length : Nat) : Int) != 5) = true := by rw [bne_iff_ne]; omega
      obtain ⟨y, hy⟩ := hbad2 (orderO_ne id v fs hr h5) fs
      refine ⟨y, Ev.bind hx ?_⟩
      rw [hr]
      simp only [readR, List.nil_append, if_true, e]
      exact hy
theorem stateT_size (o : Bool) : (if o = true then openT else closedT).size ≤ 1000 := by cases o <;> decide
theorem orderValue_ev (id m : ByteArray) (s w l : Int) (o : Bool) (hm : m.size ≤ 1000) (hs : 0 ≤ s ∧ s ≤ 1000000000000000000) (hw : 0 ≤ w ∧ w ≤ 1000000000000000000) (hl : 0 ≤ l ∧ l ≤ 1000000000000000000) :
    Ev (fun k => impl_Order_value.f k id m s w l o) (fieldsV [m, digV s.toNat, digV w.toNat, digV l.toNat, if o = true then openT else closedT]) := by
  have s1 := digV_size s.toNat (by omega)
  have s2 := digV_size w.toNat (by omega)
  have s3 := digV_size l.toNat (by omega)
  have key : ∀ t : ByteArray, t.size ≤ 1000 → Ev (fun k => impl_Order_value.j0 k t id m s w l o) (fieldsV [m, digV s.toNat, digV w.toNat, digV l.toNat, t]) := by
    intro t ht
    refine Ev.step (f := fun k => (impl_fields.f k [m, digV s.toNat, digV w.toNat, digV l.toNat, t]).bind fun t419 => some t419) (fun k => by rw [impl_Order_value.j0, amountText_eq s (by omega) (by omega), amountText_eq w (by omega) (by omega), amountText_eq l (by omega) (by omega)]; simp only [Option.bind_some]) ?_
    refine Ev.bind (fields_ev _ (by simp) ?_) (Ev.now _)
    intro x hx
    simp only [List.mem_cons, List.mem_nil_iff, or_false] at hx
    rcases hx with rfl | rfl | rfl | rfl | rfl <;> omega
  unfold impl_Order_value.f
  cases o with
  | true => simp only [if_true]; exact key openT (by decide)
  | false => simp only [Bool.false_eq_true, if_false]; exact key closedT (by decide)
theorem rightB_bd {id m : ByteArray} {s w l : Int} {o : Bool} (h : rightB id m s w l o = true) : (1 ≤ s ∧ s ≤ 1000000000000000000) ∧ (1 ≤ w ∧ w ≤ 1000000000000000000) ∧ (0 ≤ l ∧ l ≤ s) := by
  unfold rightB someB at h
  simp only [Bool.and_eq_true, decide_eq_true_iff] at h
  exact ⟨h.2.2.1, h.2.2.2.1, h.2.2.2.2.1⟩
theorem implOrderOf_ev (id v : ByteArray) (hi : id.size ≤ 1048576) (hv : v.size ≤ 1048576) : ∃ x, Ev (fun k => impl_orderOf.f k id v) (ordR x (orderO id v)) := by
  unfold impl_orderOf.f
  obtain ⟨x, hx⟩ := readFields_ev v (by omega)
  have hbad : ∀ x4, Ev (fun k => impl_orderOf.j0 k id v x4 true) ((⟨#[]⟩ : ByteArray), (⟨#[]⟩ : ByteArray), 0, 0, 0, false, false) := fun x4 => Ev.step (fun k => by rw [impl_orderOf.j0, if_pos rfl]) (Ev.now _)
  have hbad2 : orderO id v = none → ∀ x4, ∃ x, Ev (fun k => impl_orderOf.j0 k id v x4 true) (ordR x (orderO id v)) := fun e x4 => ⟨((⟨#[]⟩ : ByteArray), (⟨#[]⟩ : ByteArray), 0, 0, 0, false), by rw [e]; exact hbad x4⟩
  cases hr : readV v with
  | none =>
    have e : orderO id v = none := by unfold orderO; rw [hr]
    obtain ⟨y, hy⟩ := hbad2 e x
    refine ⟨y, Ev.bind hx ?_⟩
    rw [hr]
    simp only [readR, Bool.false_eq_true, if_false]
    exact hy
  | some fs =>
    obtain ⟨hv1, _, hfs⟩ := readV_of hr
    by_cases h5 : fs.length = 5
    · obtain ⟨m, s, w, l, st, rfl⟩ := five fs h5
      have hm := hfs m (by simp)
      have hs := hfs s (by simp)
      have hw := hfs w (by simp)
      have hl := hfs l (by simp)
      have hst := hfs st (by simp)
      have L5 : ((([m, s, w, l, st] : List ByteArray).length : Nat) : Int) = 5 := rfl
      have e : (((([m, s, w, l, st] : List ByteArray).length : Nat) : Int) != 5) = false := rfl
      have e2 : orderO id v = if (rightB id m (amtV s) (amtV w) (amtV l) (isOpen st) && (isOpen st || isClosed st)) = true then some (id, m, amtV s, amtV w, amtV l, isOpen st) else none := by unfold orderO; rw [hr]
      refine ⟨(id, m, max0 (amtV s), max0 (amtV w), max0 (amtV l), isOpen st), Ev.bind hx ?_⟩
      rw [hr]
      simp only [readR, List.nil_append, if_true, e]
      have d0 : rdOf ByteArray.empty [m, s, w, l, st] 0 = m := rfl
      have d1 : rdOf ByteArray.empty [m, s, w, l, st] 1 = s := rfl
      have d2 : rdOf ByteArray.empty [m, s, w, l, st] 2 = w := rfl
      have d3 : rdOf ByteArray.empty [m, s, w, l, st] 3 = l := rfl
      have d4 : rdOf ByteArray.empty [m, s, w, l, st] 4 = st := rfl
      obtain ⟨b1, e1⟩ := readAmount_fst s (by omega)
      obtain ⟨b2, e2'⟩ := readAmount_fst w (by omega)
      obtain ⟨b3, e3⟩ := readAmount_fst l (by omega)
      refine Ev.step (f := fun k => (impl_OrderOK.f k id m (max0 (amtV s)) (max0 (amtV w)) (max0 (amtV l)) (isOpen st)).bind fun t437 => if t437 = true then ((impl_Order_value.f k id m (max0 (amtV s)) (max0 (amtV w)) (max0 (amtV l)) (isOpen st)).bind fun t438 => (some (id, m, max0 (amtV s), max0 (amtV w), max0 (amtV l), isOpen st, (t438.toList == v.toList)))) else (some (id, m, max0 (amtV s), max0 (amtV w), max0 (amtV l), isOpen st, false))) (fun k => ?_) ?_
      · rw [impl_orderOf.j0, if_neg (by decide), L5, d0, d1, d2, d3, d4, e1, e2', e3, if_pos (show (0 : Int) < 5 by decide), if_pos (show (4 : Int) < 5 by decide), if_pos (show (1 : Int) < 5 by decide)]
        simp only [Option.bind_some, if_pos (show (2 : Int) < 5 by decide), if_pos (show (3 : Int) < 5 by decide)]
        rfl
      refine Ev.bind (implOrderOK_ev id m _ _ _ _ hi (by omega)) ?_
      rw [e2]
      by_cases h1 : rightB id m (max0 (amtV s)) (max0 (amtV w)) (max0 (amtV l)) (isOpen st) = true
      · simp only [if_pos h1]
        obtain ⟨q1, q2, q3⟩ := rightB_bd h1
        refine Ev.bind (orderValue_ev id m _ _ _ _ hm (by omega) (by omega) (by omega)) ?_
        have hsV : 0 ≤ amtV s := by unfold max0 at q1; split at q1 <;> omega
        have hwV : 0 ≤ amtV w := by unfold max0 at q2; split at q2 <;> omega
        have m1 : max0 (amtV s) = amtV s := if_pos hsV
        have m2 : max0 (amtV w) = amtV w := if_pos hwV
        by_cases hval : 0 ≤ amtV l ∧ (isOpen st || isClosed st) = true
        · have m3 : max0 (amtV l) = amtV l := if_pos hval.1
          have est : (if isOpen st = true then openT else closedT) = st := by
            cases ho : isOpen st with
            | true => simp only [if_true]; exact ((isOpen_eq st).1 ho).symm
            | false =>
              have hc := hval.2
              rw [ho, Bool.false_or] at hc
              simp only [Bool.false_eq_true, if_false]
              exact ((isClosed_eq st).1 hc).symm
          rw [m1, m2, m3] at h1 ⊢
          rw [est, ← (amtV_eq hsV).1, ← (amtV_eq hwV).1, ← (amtV_eq hval.1).1, ← hv1, h1, hval.2]
          simp only [Bool.and_self, if_true, beq_self_eq_true]
          exact Ev.now _
        · have hno : (rightB id m (amtV s) (amtV w) (amtV l) (isOpen st) && (isOpen st || isClosed st)) = false := by
            rw [Bool.eq_false_iff]
            intro h
            rw [Bool.and_eq_true] at h
            exact hval ⟨(rightB_bd h.1).2.2.1, h.2⟩
          have hne : ((fieldsV [m, digV (max0 (amtV s)).toNat, digV (max0 (amtV w)).toNat, digV (max0 (amtV l)).toNat, if isOpen st = true then openT else closedT]).toList == v.toList) = false := by
            rw [beq_eq_false_iff_ne]
            intro h
            have h2 := (toList_eq_iff _ _).1 h
            rw [hv1] at h2
            have s1 := digV_size (max0 (amtV s)).toNat (by omega)
            have s2 := digV_size (max0 (amtV w)).toNat (by omega)
            have s3 := digV_size (max0 (amtV l)).toNat (by omega)
            have s4 := stateT_size (isOpen st)
            have h3 := fieldsV_inj (by simp) (by
              intro y hy
              simp only [List.mem_cons, List.mem_nil_iff, or_false] at hy
              rcases hy with rfl | rfl | rfl | rfl | rfl <;> omega) (by simp) hfs h2
            simp only [List.cons.injEq, and_true] at h3
            obtain ⟨_, _, _, h4, h5⟩ := h3
            apply hval
            refine ⟨?_, ?_⟩
            · rw [← h4, amtV_digV _ (by omega)]; omega
            · cases ho : isOpen st with
              | true => rfl
              | false =>
                rw [ho] at h5
                simp only [Bool.false_eq_true, if_false] at h5
                rw [Bool.false_or]
                exact (isClosed_eq st).2 h5.symm
          simp only [hno, hne, Bool.false_eq_true, if_false]
          exact Ev.now _
      · simp only [if_neg h1]
        have hno : (rightB id m (amtV s) (amtV w) (amtV l) (isOpen st) && (isOpen st || isClosed st)) = false := by
          rw [Bool.eq_false_iff]
          intro h
          rw [Bool.and_eq_true] at h
          obtain ⟨q1, q2, q3⟩ := rightB_bd h.1
          apply h1
          have m1 : max0 (amtV s) = amtV s := if_pos (by omega)
          have m2 : max0 (amtV w) = amtV w := if_pos (by omega)
          have m3 : max0 (amtV l) = amtV l := if_pos q3.1
          rw [m1, m2, m3]
          exact h.1
        simp only [hno, Bool.false_eq_true, if_false]
        exact Ev.now _
    · have e : (((fs.length : Nat) : Int) != 5) = true := by rw [bne_iff_ne]; omega
      obtain ⟨y, hy⟩ := hbad2 (orderO_ne id v fs hr h5) fs
      refine ⟨y, Ev.bind hx ?_⟩
      rw [hr]
      simp only [readR, List.nil_append, if_true, e]
      exact hy
end Go.Proofs.YteghpdmlpefnfaaDoor.U

/- Orders: their rows compared, marked and read again; all right orders of a store. -/
namespace Go.Proofs.YteghpdmlpefnfaaDoor.U
open Go Go.RowKit Go.Proofs.YteghpdmlpefnfaaDoor.Q Go.Proofs.YteghpdmlpefnfaaDoorW.PrintWords Go.Proofs.YteghpdmlpefnfaaDoorW.PrintLast Go.Proofs.YteghpdmlpefnfaaDoorW.PrintMore
set_option linter.unusedVariables false
set_option linter.unusedSimpArgs false

abbrev OT := S42
theorem rdO (l : List OT) (i : Nat) (h : i < l.length) : rd_T42 l (i : Int) = l[i] := by simp [rd_T42, List.getD_eq_getElem?_getD, List.getElem?_eq_getElem h]
theorem eqOrder_self (a b : ByteArray) (c d e : Int) (f : Bool) : laws_eqOrder.f a b c d e f a b c d e f = some true := by
  unfold laws_eqOrder.f
  simp
theorem eqOrderS_go (l : List OT) (hl : l.length ≤ 1048576) : ∀ (d i : Nat), i + d = l.length → Ev (fun k => laws_eqOrderS.l0 k l l (i : Int)) true := by
  intro d
  induction d with
  | zero =>
    intro i hi
    exact Ev.step (fun k => by rw [laws_eqOrderS.l0, if_neg (by omega)]) (Ev.now _)
  | succ d ih =>
    intro i hi
    refine Ev.step (f := fun k => laws_eqOrderS.l0 k l l ((i + 1 : Nat) : Int)) (fun k => ?_) (ih (i + 1) (by omega))
    rw [laws_eqOrderS.l0, if_pos (by omega), if_pos (by omega), if_pos (by omega), eqOrder_self, wid (n := (i : Int) + 1) (by omega) (by omega)]
    rfl
theorem eqOrderS_ev (l : List OT) (hl : l.length ≤ 1048576) : Ev (fun k => laws_eqOrderS.f k l l) true := by
  unfold laws_eqOrderS.f
  simp only [if_true]
  exact eqOrderS_go l hl l.length 0 (by omega)
def markO (n i : Nat) : OT := ⟨markV (n + 6 * i), markV (n + 6 * i + 1), ((n + 6 * i + 2 : Nat) : Int), ((n + 6 * i + 3 : Nat) : Int), ((n + 6 * i + 4 : Nat) : Int), (Int.tmod ((n + 6 * i + 5 : Nat) : Int) 3) == 0⟩
def markOs (n : Nat) (l : List OT) : List OT := (List.range l.length).map fun i => markO n i
theorem ws (m m' : Nat) (h : m ≤ 9000000000000000000) (e : m' = m + 1) : wrap64 ((m : Int) + 1) = (m' : Int) := by subst e; rw [wid (by omega) (by omega)]; omega
set_option maxHeartbeats 1000000 in
theorem markOrderS_go (N : Nat) (l : List OT) (n : Nat) (hl : l.length = N) (hN : N ≤ 1048576) (hn : n ≤ 1000000) : ∀ (d i : Nat) (o : List OT), i + d = N → o.length = N → (∀ j, j < i → o[j]? = some (markO n j)) →
    Ev (fun k => laws_markOrderS.l0 k o ((n + 6 * i : Nat) : Int) (i : Int)) (((n + 6 * N : Nat) : Int), markOs n l) := by
  intro d
  induction d with
  | zero =>
    intro i o hi ho hj
    have e : o = markOs n l := by
      apply List.ext_getElem?
      intro j
      by_cases h : j < i
      · rw [hj j h]; unfold markOs; rw [List.getElem?_map, List.getElem?_range (by omega)]; rfl
      · rw [List.getElem?_eq_none (by omega), List.getElem?_eq_none (by unfold markOs; simp; omega)]
    refine Ev.step (fun k => ?_) (Ev.now _)
    rw [laws_markOrderS.l0, if_neg (by omega), e, show i = N by omega]
  | succ d ih =>
    intro i o hi ho hj
    have hlt : i < o.length := by omega
    refine Ev.step (f := fun k => (laws_markText.f k ((n + 6 * i : Nat) : Int)).bind fun t => (laws_markText.f k ((n + 6 * i + 1 : Nat) : Int)).bind fun u => laws_markOrderS.l0 k (o.set i (S42.mk t u ((n + 6 * i + 2 : Nat) : Int) ((n + 6 * i + 3 : Nat) : Int) ((n + 6 * i + 4 : Nat) : Int) ((Int.tmod ((n + 6 * i + 5 : Nat) : Int) 3) == 0))) ((n + 6 * (i + 1) : Nat) : Int) ((i + 1 : Nat) : Int)) (fun k => ?_) ?_
    · have hl0 : (i : Int) < (o.length : Int) := by omega
      have h00 : (0 : Int) ≤ (i : Int) := by omega
      have g0 : n + 6 * i ≤ 9000000000000000000 := by omega
      have g1 : n + 6 * i + 1 ≤ 9000000000000000000 := by omega
      have g2 : n + 6 * i + 2 ≤ 9000000000000000000 := by omega
      have g3 : n + 6 * i + 3 ≤ 9000000000000000000 := by omega
      have g4 : n + 6 * i + 4 ≤ 9000000000000000000 := by omega
      have g5 : n + 6 * i + 5 ≤ 9000000000000000000 := by omega
      have g6 : i ≤ 9000000000000000000 := by omega
      have key : ∀ x : OT, rd_T42 (o.set i x) (i : Int) = x := fun x => by rw [rdO _ i (by rw [List.length_set]; exact hlt), List.getElem_set_self]
      rw [laws_markOrderS.l0, if_pos hl0]
      refine congrArg (Option.bind _) (funext fun t => ?_)
      rw [if_pos h00, ws (n + 6 * i) (n + 6 * i + 1) g0 rfl, ws (n + 6 * i + 1) (n + 6 * i + 2) g1 rfl, ws (n + 6 * i + 2) (n + 6 * i + 3) g2 rfl, ws (n + 6 * i + 3) (n + 6 * i + 4) g3 rfl, ws (n + 6 * i + 4) (n + 6 * i + 5) g4 rfl, ws (n + 6 * i + 5) (n + 6 * (i + 1)) g5 (by omega), ws i (i + 1) g6 rfl]
      rw [Int.toNat_natCast, Option.bind_some]
      refine congrArg (Option.bind _) (funext fun u => ?_)
      simp only [key, List.set_set]
      rw [Option.bind_some]
      simp only [key, List.set_set]
      rw [Option.bind_some]
      simp only [key, List.set_set]
      rw [Option.bind_some]
      simp only [key, List.set_set]
      rw [Option.bind_some]
      simp only [key, List.set_set]
    · refine Ev.bind (markText_ev _ (by omega)) (Ev.bind (markText_ev _ (by omega)) ?_)
      refine ih (i + 1) _ (by omega) (by rw [List.length_set]; exact ho) (fun j hji => ?_)
      rw [List.getElem?_set]
      by_cases h : i = j
      · subst h
        rw [if_pos rfl, if_pos hlt]
        rfl
      · rw [if_neg h]
        exact hj j (by omega)
theorem markOrderS_ev (l : List OT) (n : Nat) (hN : l.length ≤ 1048576) (hn : n ≤ 1000000) : Ev (fun k => laws_markOrderS.f k l (n : Int)) (((n + 6 * l.length : Nat) : Int), markOs n l) := by
  unfold laws_markOrderS.f
  exact markOrderS_go l.length l n rfl hN hn l.length 0 l (by omega) rfl (fun j h => by omega)
set_option maxHeartbeats 1000000 in
theorem heldOrderS_go (l : List OT) (n : Nat) (hN : l.length ≤ 1048576) (hn : n ≤ 1000000) : ∀ (d i : Nat), i + d = l.length →
    Ev (fun k => laws_heldOrderS.l0 k (markOs n l) ((n + 6 * i : Nat) : Int) (i : Int)) ((n + 6 * l.length : Nat) : Int) := by
  intro d
  have hlen : (markOs n l).length = l.length := by unfold markOs; simp
  induction d with
  | zero =>
    intro i hi
    refine Ev.step (fun k => ?_) (Ev.now _)
    rw [laws_heldOrderS.l0, if_neg (by omega), show i = l.length by omega]
  | succ d ih =>
    intro i hi
    have hlt : i < (markOs n l).length := by omega
    have er : rd_T42 (markOs n l) (i : Int) = markO n i := by
      rw [rdO _ i hlt]
      simp [markOs]
    have hl0 : (i : Int) < ((markOs n l).length : Int) := by omega
    have h00 : (0 : Int) ≤ (i : Int) := by omega
    have g0 : n + 6 * i ≤ 9000000000000000000 := by omega
    have g1 : n + 6 * i + 1 ≤ 9000000000000000000 := by omega
    have g2 : n + 6 * i + 2 ≤ 9000000000000000000 := by omega
    have g3 : n + 6 * i + 3 ≤ 9000000000000000000 := by omega
    have g4 : n + 6 * i + 4 ≤ 9000000000000000000 := by omega
    have g5 : n + 6 * i + 5 ≤ 9000000000000000000 := by omega
    have g6 : i ≤ 9000000000000000000 := by omega
    refine Ev.step (fun k => by rw [laws_heldOrderS.l0, if_pos hl0, if_pos h00, er, ws (n + 6 * i) (n + 6 * i + 1) g0 rfl, ws (n + 6 * i + 1) (n + 6 * i + 2) g1 rfl, ws (n + 6 * i + 2) (n + 6 * i + 3) g2 rfl, ws (n + 6 * i + 3) (n + 6 * i + 4) g3 rfl, ws (n + 6 * i + 4) (n + 6 * i + 5) g4 rfl, ws (n + 6 * i + 5) (n + 6 * (i + 1)) g5 (by omega), ws i (i + 1) g6 rfl]) (Ev.bind (markText_ev _ (by omega)) ?_)
    simp only [markO, if_true]
    refine Ev.bind (markText_ev _ (by omega)) ?_
    simp only [if_true, bne_self_eq_false, Bool.false_eq_true, if_false]
    exact ih (i + 1) (by omega)
theorem heldOrderS_ev (l : List OT) (n : Nat) (hN : l.length ≤ 1048576) (hn : n ≤ 1000000) : Ev (fun k => laws_heldOrderS.f k (markOs n l) (n : Int)) ((n + 6 * l.length : Nat) : Int) := by
  unfold laws_heldOrderS.f
  have := heldOrderS_go l n hN hn l.length 0 (by omega)
  simpa using this

/-! ### all right orders -/
def toOT (x : Ord) : OT := ⟨x.1, x.2.1, x.2.2.1, x.2.2.2.1, x.2.2.2.2.1, x.2.2.2.2.2⟩
noncomputable def orderP (x : IP) : Option OT := (orderO (x.f0.extract 2 x.f0.size) x.f1).map toOT
noncomputable def ordersV (l : List IP) : List OT := (l.filter (preB (⟨#[111, 47]⟩ : ByteArray))).filterMap orderP
theorem ordR_some {x : Ord} {o : Option Ord} {r : ByteArray × ByteArray × Int × Int × Int × Bool × Bool} (h : ordR x o = r) :
    (r.2.2.2.2.2.2 = true → ∃ y, o = some y ∧ toOT y = ⟨r.1, r.2.1, r.2.2.1, r.2.2.2.1, r.2.2.2.2.1, r.2.2.2.2.2.1⟩) ∧ (r.2.2.2.2.2.2 = false → o = none) := by
  subst h
  cases o with
  | none => exact ⟨fun h => by simp [ordR] at h, fun _ => rfl⟩
  | some y => obtain ⟨a, b, c, d, e, f⟩ := y; exact ⟨fun _ => ⟨_, rfl, rfl⟩, fun h => by simp [ordR] at h⟩
def Fit (l : List IP) : Prop := ∀ x ∈ l, 2 ≤ x.f0.size ∧ x.f0.size ≤ 1000000 ∧ x.f1.size ≤ 1000000
theorem l09All_go (l : List IP) (hl : l.length ≤ 1048576) (hf : Fit l) : ∀ (d i : Nat) (out : List OT), i + d = l.length → out.length ≤ i →
    Ev (fun k => spec_l09All.l0 k out l (i : Int)) (out ++ (l.drop i).filterMap orderP) := by
  intro d
  induction d with
  | zero =>
    intro i out hi ho
    refine Ev.step (fun k => ?_) (Ev.now _)
    rw [spec_l09All.l0, if_neg (by omega), List.drop_of_length_le (by omega)]
    simp
  | succ d ih =>
    intro i out hi ho
    have hlt : i < l.length := by omega
    obtain ⟨g1, g2, g3⟩ := hf _ (List.getElem_mem hlt)
    obtain ⟨x, hx⟩ := specRead_ev (l[i].f0.extract 2 l[i].f0.size) l[i].f1 (by omega)
    obtain ⟨hy1, hy2⟩ := ordR_some (x := x) (o := orderO (l[i].f0.extract 2 l[i].f0.size) l[i].f1) rfl
    rw [List.drop_eq_getElem_cons hlt, List.filterMap_cons]
    refine Ev.step (fun k => by rw [spec_l09All.l0, if_pos (by omega), if_pos (by omega), rdI l i hlt, if_pos (by omega), wid (n := (i : Int) + 1) (by omega) (by omega)]) (Ev.bind hx ?_)
    generalize ordR x (orderO (l[i].f0.extract 2 l[i].f0.size) l[i].f1) = r at *
    have ei : (i : Int) + 1 = ((i + 1 : Nat) : Int) := by omega
    cases hb : r.2.2.2.2.2.2 with
    | false =>
      have : orderP l[i] = none := by unfold orderP; rw [hy2 hb]; rfl
      simp only [this, Bool.false_eq_true, if_false, ei]
      exact ih (i + 1) out (by omega) (by omega)
    | true =>
      obtain ⟨y, e1, e2⟩ := hy1 hb
      have : orderP l[i] = some ⟨r.1, r.2.1, r.2.2.1, r.2.2.2.1, r.2.2.2.2.1, r.2.2.2.2.2.1⟩ := by unfold orderP; rw [e1, ← e2]; rfl
      simp only [this, if_true, ei, if_pos (show out.length < 2199023255552 by omega)]
      have h2 := ih (i + 1) (out ++ [⟨r.1, r.2.1, r.2.2.1, r.2.2.2.1, r.2.2.2.2.1, r.2.2.2.2.2.1⟩]) (by omega) (by rw [List.length_append, List.length_singleton]; omega)
      rw [List.append_assoc] at h2
      exact h2
theorem ordersOf_go (l : List IP) (hl : l.length ≤ 1048576) (hf : Fit l) : ∀ (d i : Nat) (out : List OT), i + d = l.length → out.length ≤ i →
    Ev (fun k => impl_ordersOf.l0 k out l (l.length : Int) (i : Int)) (out ++ (l.drop i).filterMap orderP) := by
  intro d
  have ek : impl_orderKey.f (⟨#[]⟩ : ByteArray) = some (⟨#[111, 47]⟩ : ByteArray) := by
    unfold impl_orderKey.f
    rw [if_pos (by decide)]
    rfl
  have es : (⟨#[111, 47]⟩ : ByteArray).size = 2 := rfl
  induction d with
  | zero =>
    intro i out hi ho
    refine Ev.step (fun k => ?_) (Ev.now _)
    rw [impl_ordersOf.l0, if_neg (by omega), List.drop_of_length_le (by omega)]
    simp
  | succ d ih =>
    intro i out hi ho
    have hlt : i < l.length := by omega
    obtain ⟨g1, g2, g3⟩ := hf _ (List.getElem_mem hlt)
    obtain ⟨x, hx⟩ := implOrderOf_ev (l[i].f0.extract 2 l[i].f0.size) l[i].f1 (by rw [size_ext]; omega) (by omega)
    obtain ⟨hy1, hy2⟩ := ordR_some (x := x) (o := orderO (l[i].f0.extract 2 l[i].f0.size) l[i].f1) rfl
    rw [List.drop_eq_getElem_cons hlt, List.filterMap_cons]
    refine Ev.step (fun k => by
      rw [impl_ordersOf.l0, if_pos (by omega), if_pos (by omega), if_pos (by omega), rdI l i hlt, ek, wid (n := (i : Int) + 1) (by omega) (by omega)]
      simp only [Option.bind_some]
      rw [es, if_pos (by decide), if_pos (by omega)]) (Ev.bind hx ?_)
    generalize ordR x (orderO (l[i].f0.extract 2 l[i].f0.size) l[i].f1) = r at *
    have ei : (i : Int) + 1 = ((i + 1 : Nat) : Int) := by omega
    cases hb : r.2.2.2.2.2.2 with
    | false =>
      have : orderP l[i] = none := by unfold orderP; rw [hy2 hb]; rfl
      simp only [this, Bool.false_eq_true, if_false, ei]
      exact ih (i + 1) out (by omega) (by omega)
    | true =>
      obtain ⟨y, e1, e2⟩ := hy1 hb
      have : orderP l[i] = some ⟨r.1, r.2.1, r.2.2.1, r.2.2.2.1, r.2.2.2.2.1, r.2.2.2.2.2.1⟩ := by unfold orderP; rw [e1, ← e2]; rfl
      simp only [this, if_true, ei, if_pos (show out.length < 2199023255552 by omega)]
      have h2 := ih (i + 1) (out ++ [⟨r.1, r.2.1, r.2.2.1, r.2.2.2.1, r.2.2.2.2.1, r.2.2.2.2.2.1⟩]) (by omega) (by rw [List.length_append, List.length_singleton]; omega)
      rw [List.append_assoc] at h2
      exact h2
theorem fit_scan {l : List IP} (hk : ∀ x ∈ l, x.f0.size ≤ 1000000 ∧ x.f1.size ≤ 1000000) : Fit (l.filter (preB (⟨#[111, 47]⟩ : ByteArray))) := by
  intro x hx
  obtain ⟨h1, h2⟩ := List.mem_filter.1 hx
  obtain ⟨h3, _⟩ := (pre_iff _ _).1 h2
  exact ⟨h3, hk x h1⟩
theorem ordersV_len (l : List IP) : (ordersV l).length ≤ l.length := by
  unfold ordersV
  exact Nat.le_trans (List.length_filterMap_le _ _) (List.length_filter_le _ _)
theorem specAll_ev (l : List IP) (hl : l.length ≤ 1048576) (hr : Rises l) (hk : ∀ x ∈ l, x.f0.size ≤ 1000000 ∧ x.f1.size ≤ 1000000) : Ev (fun k => spec_l09All.f k l) (ordersV l) := by
  unfold spec_l09All.f
  refine Ev.bind (specScan_ev l _ hl hr) ?_
  have := l09All_go (l.filter (preB (⟨#[111, 47]⟩ : ByteArray))) (Nat.le_trans (List.length_filter_le _ _) hl) (fit_scan hk) _ 0 [] (Nat.zero_add _) (by simp)
  simpa [ordersV] using this
theorem implAll_ev (l : List IP) (hl : l.length ≤ 1048576) (hk : ∀ x ∈ l, x.f0.size ≤ 1000000 ∧ x.f1.size ≤ 1000000) : Ev (fun k => impl_ordersOf.f k l) (ordersV l) := by
  unfold impl_ordersOf.f
  have ek : impl_orderKey.f (⟨#[]⟩ : ByteArray) = some (⟨#[111, 47]⟩ : ByteArray) := by
    unfold impl_orderKey.f
    rw [if_pos (by decide)]
    rfl
  rw [ek]
  simp only [Option.bind_some]
  refine Ev.bind (implScan_ev l _ hl) ?_
  have := ordersOf_go (l.filter (preB (⟨#[111, 47]⟩ : ByteArray))) (Nat.le_trans (List.length_filter_le _ _) hl) (fit_scan hk) _ 0 [] (Nat.zero_add _) (by simp)
  simpa [ordersV] using this
end Go.Proofs.YteghpdmlpefnfaaDoor.U
