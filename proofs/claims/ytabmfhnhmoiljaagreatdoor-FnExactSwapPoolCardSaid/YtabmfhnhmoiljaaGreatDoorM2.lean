/- Parts of the proof: what single Go functions compute, each with its walk, and plain laws over these. -/
import Derived.Test.YtabmfhnhmoiljaaGreatDoorM0
import Derived.Test.YtabmfhnhmoiljaaGreatDoorM1
namespace Go.Proofs.YtabmfhnhmoiljaaGreatDoor.Q
open Go.RowKit Go.Proofs.YtabmfhnhmoiljaaGreatDoorW.PrintWords Go.Proofs.YtabmfhnhmoiljaaGreatDoorW.PrintLast Go.Proofs.YtabmfhnhmoiljaaGreatDoorW.PrintMore
open Go.RowKit renaming wrap64 → ζm
open Go.Proofs.YtabmfhnhmoiljaaGreatDoorW.PrintWords.Aside0 renaming mk → ζa
open Go.Proofs.YtabmfhnhmoiljaaGreatDoorW.PrintWords renaming gate_callee → δv
open List renaming map_toArray → δd, map_cons → δe, map_nil → δf
open Bool renaming true → τ, false → φ
attribute [local go_sem] max2_int min2_int max_two min_two max_three min_three max_four min_four   -- for this text's walks alone
set_option linter.unusedVariables false
set_option linter.unusedSimpArgs false

/-! ### spec_l02MulDiv: function 171 -/
mutual
def spec_l02MulDiv.l0:Nat→Int→Int→Int→Int→Int→Option (Int × Bool)
 | 0,_,_,_,_,_=>none
 | k+1,x2,x9,x10,x11,x12=>if x12 > 0 then (spec_l02MulDiv.l1 k x2 x9 x10 x11 x12 0 0 0) else (some (x10,τ))
def spec_l02MulDiv.l1:Nat→Int→Int→Int→Int→Int→Int→Int→Int→Option (Int × Bool)
 | 0,_,_,_,_,_,_,_,_=>none
 | k+1,x2,x9,x10,x11,x12,x13,x14,x15=>if x15<10 then (if (ζm (x14+x11)) ≥ x2 then (spec_l02MulDiv.l1 k x2 x9 x10 x11 x12 (ζm (x13+1)) (ζm ((ζm (x14+x11)) - x2)) (ζm (x15+1))) else (spec_l02MulDiv.l1 k x2 x9 x10 x11 x12 x13 (ζm (x14+x11)) (ζm (x15+1)))) else (if x12=0 then (none) else (if x2=0 then (none) else (spec_l02MulDiv.l0 k x2 x9 (ζm ((ζm (x10 * 10))+(ζm (x13+(ζm (Int.tdiv (ζm (x14+(Int.tmod (ζm (Int.tdiv x9 x12)) 10))) x2)))))) (Int.tmod (ζm (x14+(Int.tmod (ζm (Int.tdiv x9 x12)) 10))) x2) (ζm (Int.tdiv x12 10)))))
end
def spec_l02MulDiv.f (k:Nat) (a0:Int) (a1:Int) (a2:Int):Option (Int × Bool):=(spec_l02Wide.f a0 a1).bind fun bt808=>(if bt808.1 ≥ a2 then (if bt808.1=a2 then (some (1000000000000000000,decide (bt808.2<a2))) else (some (1000000000000000000,φ))) else (spec_l02MulDiv.l0 k a2 bt808.2 0 bt808.1 100000000000000000))
set_option maxHeartbeats 8000000 in
set_option maxRecDepth 100000 in
theorem spec_l02MulDiv.calls (k:Nat) (a0:Int) (a1:Int) (a2:Int) (r1:Int) (r2:Bool) (w:World) (h:spec_l02MulDiv.f k a0 a1 a2=some (r1,r2)) :
  Calls Tryz.prog 171 #[.int .i64 a0,.int .i64 a1,.int .i64 a2] w fun e w'=>e = .returned (.tuple #[.int .i64 r1,.bool r2])∧Drawn0 w w':=by
 have H:((spec_l02Wide.f a0 a1).bind fun bt808=>(if bt808.1 ≥ a2 then (if bt808.1=a2 then (some (1000000000000000000,decide (bt808.2<a2))) else (some (1000000000000000000,φ))) else (spec_l02MulDiv.l0 k a2 bt808.2 0 bt808.1 100000000000000000)))=some (r1,r2):=h
 clear h
 replace H:=Option.bind_eq_some_iff.mp H
 obtain ⟨⟨t808,t809⟩,A40,H⟩:=H
 replace H:(if t808 ≥ a2 then (if t808=a2 then (some (1000000000000000000,decide (t809<a2))) else (some (1000000000000000000,φ))) else (spec_l02MulDiv.l0 k a2 t809 0 t808 100000000000000000))=some (r1,r2):=H
 have A4:=ζa A40
 clear A40
 by_cases c5:t808 ≥ a2
 ·
  rw [if_pos c5] at H
  have c5b0:decide (a2≤t808)=τ:=decide_eq_true c5
  clear c5
  by_cases c6:t808=a2
  ·
   rw [if_pos c6] at H
   have c6b0:(t808 == a2)=τ:=beq_iff_eq.mpr c6
   have c6b1:(t808 != a2)=φ:=bne_eq_false_iff_eq.mpr c6
   clear c6
   simp only [Option.some.injEq,Prod.mk.injEq] at H
   obtain ⟨rfl,rfl⟩:=H
   go_enter Tryz.func171,Tryz.ntmps171
   go_wp2_with (((with_reducible refine δv (f:=198) rfl ?_);refine goesL_ (some 19) rfl rfl Tryz.func198 (by kernel_rfl) rfl #[.int .i64 a0,.int .i64 a1] rfl (by (try simp only [δd,δe,δf]);rfl) ?_;(with_reducible refine (spec_l02Wide.calls a0 a1 t808 t809 _ A4.out).mono ?_);rintro e w' ⟨rfl,⟨nd,rfl⟩⟩;refine ⟨_,rfl,?_⟩))
   go_ret2
   exact ⟨by rfl,by repeat (first|exact Drawn0.refl _|apply Drawn0.step)⟩
  ·
   rw [if_neg c6] at H
   have c6b0:(t808 == a2)=φ:=beq_eq_false_iff_ne.mpr c6
   have c6b1:(t808 != a2)=τ:=bne_iff_ne.mpr c6
   simp only [Option.some.injEq,Prod.mk.injEq] at H
   obtain ⟨rfl,rfl⟩:=H
   go_enter Tryz.func171,Tryz.ntmps171
   go_wp2_with (((with_reducible refine δv (f:=198) rfl ?_);refine goesL_ (some 19) rfl rfl Tryz.func198 (by kernel_rfl) rfl #[.int .i64 a0,.int .i64 a1] rfl (by (try simp only [δd,δe,δf]);rfl) ?_;(with_reducible refine (spec_l02Wide.calls a0 a1 t808 t809 _ A4.out).mono ?_);rintro e w' ⟨rfl,⟨nd,rfl⟩⟩;refine ⟨_,rfl,?_⟩))
   go_ret2
   exact ⟨by rfl,by repeat (first|exact Drawn0.refl _|apply Drawn0.step)⟩
 ·
  rw [if_neg c5] at H
  have c5b0:decide (a2≤t808)=φ:=decide_eq_false c5
  clear c5
  have H':=ζa H
  clear H
  go_enter Tryz.func171,Tryz.ntmps171
  go_wp2_with (((with_reducible refine δv (f:=198) rfl ?_);refine goesL_ (some 19) rfl rfl Tryz.func198 (by kernel_rfl) rfl #[.int .i64 a0,.int .i64 a1] rfl (by (try simp only [δd,δe,δf]);rfl) ?_;(with_reducible refine (spec_l02Wide.calls a0 a1 t808 t809 _ A4.out).mono ?_);rintro e w' ⟨rfl,⟨nd,rfl⟩⟩;refine ⟨_,rfl,?_⟩))
  go_loopg [10,11,12] k (fun kq v10 v11 v12 w' => ∃ (x10_1:Int) (x11_1:Int) (x12_1:Int),v10 = .int .i64 x10_1∧v11 = .int .i64 x11_1∧v12 = .int .i64 x12_1∧Aside0 (spec_l02MulDiv.l0 kq a2 t809 x10_1 x11_1 x12_1=some (r1,r2))∧Aside0 (kq≤k)∧Drawn0 w w')
  case atStart=>exact ⟨(0),(t808),(100000000000000000),(by rfl),(by rfl),(by rfl),H',⟨Nat.le_refl _⟩,by repeat (first|exact Drawn0.refl _|apply Drawn0.step)⟩
  case round =>
   clear H'
   try clear c1
   try clear p2
   try clear c5
   try clear c5b0
   try clear c6
   try clear c6b0
   try clear c6b1
   obtain ⟨x10_1,x11_1,x12_1,rfl,rfl,rfl,HA,HK1,⟨m1,rfl⟩⟩:=hrel
   cases gk with
   | zero=>exact absurd HA.out (by simp [spec_l02MulDiv.l0])
   | succ k1 =>
    have H:=HA.out
    clear HA
    simp only [spec_l02MulDiv.l0] at H
    by_cases c7:x12_1 > 0
    ·
     rw [if_pos c7] at H
     have c7b0:decide (0<x12_1)=τ:=decide_eq_true c7
     clear c7
     have H':=ζa H
     clear H
     go_wp2
     go_loopg [13,14,15] k1 (fun kq v13 v14 v15 w' => ∃ (x13_2:Int) (x14_2:Int) (x15_2:Int),v13 = .int .i64 x13_2∧v14 = .int .i64 x14_2∧v15 = .int .i64 x15_2∧Aside0 (spec_l02MulDiv.l1 kq a2 t809 x10_1 x11_1 x12_1 x13_2 x14_2 x15_2=some (r1,r2))∧Aside0 (kq≤k1)∧Drawn0 w w')
     case atStart=>exact ⟨(0),(0),(0),(by rfl),(by rfl),(by rfl),H',⟨Nat.le_refl _⟩,by repeat (first|exact Drawn0.refl _|apply Drawn0.step)⟩
     case round =>
      clear H'
      try clear c1
      try clear p2
      try clear c5
      try clear c5b0
      try clear c6
      try clear c6b0
      try clear c6b1
      try clear c7
      try clear c7b0
      try clear p2
      obtain ⟨x13_2,x14_2,x15_2,rfl,rfl,rfl,HA,HK2,⟨m2,rfl⟩⟩:=hrel
      cases gk with
      | zero=>exact absurd HA.out (by simp [spec_l02MulDiv.l1])
      | succ k2 =>
       have H:=HA.out
       clear HA
       simp only [spec_l02MulDiv.l1] at H
       by_cases c8:x15_2<10
       ·
        rw [if_pos c8] at H
        have c8b0:decide (x15_2<10)=τ:=decide_eq_true c8
        clear c8
        by_cases c9:(ζm (x14_2+x11_1)) ≥ a2
        ·
         rw [if_pos c9] at H
         have c9b0:decide (a2≤(ζm (x14_2+x11_1)))=τ:=decide_eq_true c9
         clear c9
         have H':=ζa H
         clear H
         go_wp2
         go_roundg k2
         case measure=>have:=HK1.out;have:=HK2.out;omega
         case rel=>exact ⟨(ζm (x13_2+1)),(ζm ((ζm (x14_2+x11_1)) - a2)),(ζm (x15_2+1)),(by rfl),(by rfl),(by rfl),H',⟨by have:=HK1.out;have:=HK2.out;omega⟩,by repeat (first|exact Drawn0.refl _|apply Drawn0.step)⟩
        ·
         rw [if_neg c9] at H
         have c9b0:decide (a2≤(ζm (x14_2+x11_1)))=φ:=decide_eq_false c9
         clear c9
         have H':=ζa H
         clear H
         go_wp2
         go_roundg k2
         case measure=>have:=HK1.out;have:=HK2.out;omega
         case rel=>exact ⟨(x13_2),(ζm (x14_2+x11_1)),(ζm (x15_2+1)),(by rfl),(by rfl),(by rfl),H',⟨by have:=HK1.out;have:=HK2.out;omega⟩,by repeat (first|exact Drawn0.refl _|apply Drawn0.step)⟩
       ·
        rw [if_neg c8] at H
        have c8b0:decide (x15_2<10)=φ:=decide_eq_false c8
        clear c8
        by_cases c10:x12_1=0
        ·
         rw [if_pos c10] at H
         exact absurd H (by simp)
        ·
         rw [if_neg c10] at H
         have c10b0:(x12_1 == 0)=φ:=beq_eq_false_iff_ne.mpr c10
         have c10b1:(x12_1 != 0)=τ:=bne_iff_ne.mpr c10
         by_cases c11:a2=0
         ·
          rw [if_pos c11] at H
          exact absurd H (by simp)
         ·
          rw [if_neg c11] at H
          have c11b0:(a2 == 0)=φ:=beq_eq_false_iff_ne.mpr c11
          have c11b1:(a2 != 0)=τ:=bne_iff_ne.mpr c11
          have H':=ζa H
          clear H
          go_wp2
          go_roundg k2
          case measure=>have:=HK1.out;have:=HK2.out;omega
          case rel=>exact ⟨(ζm ((ζm (x10_1 * 10))+(ζm (x13_2+(ζm (Int.tdiv (ζm (x14_2+(Int.tmod (ζm (Int.tdiv t809 x12_1)) 10))) a2)))))),(Int.tmod (ζm (x14_2+(Int.tmod (ζm (Int.tdiv t809 x12_1)) 10))) a2),(ζm (Int.tdiv x12_1 10)),(by rfl),(by rfl),(by rfl),H',⟨by have:=HK1.out;have:=HK2.out;omega⟩,by repeat (first|exact Drawn0.refl _|apply Drawn0.step)⟩
    ·
     rw [if_neg c7] at H
     have c7b0:decide (0<x12_1)=φ:=decide_eq_false c7
     clear c7
     simp only [Option.some.injEq,Prod.mk.injEq] at H
     obtain ⟨rfl,rfl⟩:=H
     go_wp2
     go_ret2
     exact ⟨by rfl,by repeat (first|exact Drawn0.refl _|apply Drawn0.step)⟩



/-! ### spec_l10Swap: function 127 -/
def spec_l10Swap.f (k:Nat) (a0:Int) (a1:Int) (a2:Int):Option (Int × Int):=(spec_l02MulDiv.f k a2 997 1000).bind fun bt977=>(if (ζm (a0+a2)) > 1000000000000000000 then (some (0,13)) else (if bt977.1=0 then (some (0,17)) else ((spec_l02MulDiv.f k a1 bt977.1 (ζm (a0+bt977.1))).bind fun bt979=>(if bt979.2=τ then (if bt979.1=0 then (some (0,17)) else (some (bt979.1,0))) else (some (0,17))))))
set_option maxHeartbeats 8000000 in
set_option maxRecDepth 100000 in
theorem spec_l10Swap.calls (k:Nat) (a0:Int) (a1:Int) (a2:Int) (r1:Int) (r2:Int) (w:World) (h:spec_l10Swap.f k a0 a1 a2=some (r1,r2)) :
  Calls Tryz.prog 127 #[.int .i64 a0,.int .i64 a1,.int .i64 a2] w fun e w'=>e = .returned (.tuple #[.int .i64 r1,.int .i64 r2])∧Drawn0 w w':=by
 have H:((spec_l02MulDiv.f k a2 997 1000).bind fun bt977=>(if (ζm (a0+a2)) > 1000000000000000000 then (some (0,13)) else (if bt977.1=0 then (some (0,17)) else ((spec_l02MulDiv.f k a1 bt977.1 (ζm (a0+bt977.1))).bind fun bt979=>(if bt979.2=τ then (if bt979.1=0 then (some (0,17)) else (some (bt979.1,0))) else (some (0,17)))))))=some (r1,r2):=h
 clear h
 replace H:=Option.bind_eq_some_iff.mp H
 obtain ⟨⟨t977,t978⟩,A40,H⟩:=H
 replace H:(if (ζm (a0+a2)) > 1000000000000000000 then (some (0,13)) else (if t977=0 then (some (0,17)) else ((spec_l02MulDiv.f k a1 t977 (ζm (a0+t977))).bind fun bt979=>(if bt979.2=τ then (if bt979.1=0 then (some (0,17)) else (some (bt979.1,0))) else (some (0,17))))))=some (r1,r2):=H
 have A4:=ζa A40
 clear A40
 by_cases c5:(ζm (a0+a2)) > 1000000000000000000
 ·
  rw [if_pos c5] at H
  have c5b0:decide (1000000000000000000<(ζm (a0+a2)))=τ:=decide_eq_true c5
  clear c5
  simp only [Option.some.injEq,Prod.mk.injEq] at H
  obtain ⟨rfl,rfl⟩:=H
  go_enter Tryz.func127,Tryz.ntmps127
  go_wp2_with (((with_reducible refine δv (f:=171) rfl ?_);refine goesL_ (some 14) rfl rfl Tryz.func171 (by kernel_rfl) rfl #[.int .i64 a2,.int .i64 997,.int .i64 1000] rfl (by (try simp only [δd,δe,δf]);rfl) ?_;(with_reducible refine (spec_l02MulDiv.calls k a2 997 1000 t977 t978 _ A4.out).mono ?_);rintro e w' ⟨rfl,⟨nd,rfl⟩⟩;refine ⟨_,rfl,?_⟩))
  go_ret2
  exact ⟨by rfl,by repeat (first|exact Drawn0.refl _|apply Drawn0.step)⟩
 ·
  rw [if_neg c5] at H
  have c5b0:decide (1000000000000000000<(ζm (a0+a2)))=φ:=decide_eq_false c5
  clear c5
  by_cases c6:t977=0
  ·
   rw [if_pos c6] at H
   have c6b0:(t977 == 0)=τ:=beq_iff_eq.mpr c6
   have c6b1:(t977 != 0)=φ:=bne_eq_false_iff_eq.mpr c6
   clear c6
   simp only [Option.some.injEq,Prod.mk.injEq] at H
   obtain ⟨rfl,rfl⟩:=H
   go_enter Tryz.func127,Tryz.ntmps127
   go_wp2_with (((with_reducible refine δv (f:=171) rfl ?_);refine goesL_ (some 14) rfl rfl Tryz.func171 (by kernel_rfl) rfl #[.int .i64 a2,.int .i64 997,.int .i64 1000] rfl (by (try simp only [δd,δe,δf]);rfl) ?_;(with_reducible refine (spec_l02MulDiv.calls k a2 997 1000 t977 t978 _ A4.out).mono ?_);rintro e w' ⟨rfl,⟨nd,rfl⟩⟩;refine ⟨_,rfl,?_⟩))
   go_ret2
   exact ⟨by rfl,by repeat (first|exact Drawn0.refl _|apply Drawn0.step)⟩
  ·
   rw [if_neg c6] at H
   have c6b0:(t977 == 0)=φ:=beq_eq_false_iff_ne.mpr c6
   have c6b1:(t977 != 0)=τ:=bne_iff_ne.mpr c6
   replace H:=Option.bind_eq_some_iff.mp H
   obtain ⟨⟨t979,t980⟩,A70,H⟩:=H
   replace H:(if t980=τ then (if t979=0 then (some (0,17)) else (some (t979,0))) else (some (0,17)))=some (r1,r2):=H
   have A7:=ζa A70
   clear A70
   by_cases c8:t980=τ
   ·
    subst c8
    have H1:(if t979=0 then (some (0,17)) else (some (t979,0)))=some (r1,r2):=by rw [if_pos rfl] at H;exact H
    clear H
    have H:=H1
    clear H1
    by_cases c9:t979=0
    ·
     rw [if_pos c9] at H
     have c9b0:(t979 == 0)=τ:=beq_iff_eq.mpr c9
     have c9b1:(t979 != 0)=φ:=bne_eq_false_iff_eq.mpr c9
     clear c9
     simp only [Option.some.injEq,Prod.mk.injEq] at H
     obtain ⟨rfl,rfl⟩:=H
     go_enter Tryz.func127,Tryz.ntmps127
     go_wp2_with (first|((with_reducible refine δv (f:=171) rfl ?_);refine goesL_ (some 14) rfl rfl Tryz.func171 (by kernel_rfl) rfl #[.int .i64 a2,.int .i64 997,.int .i64 1000] rfl (by (try simp only [δd,δe,δf]);rfl) ?_;(with_reducible refine (spec_l02MulDiv.calls k a2 997 1000 t977 t978 _ A4.out).mono ?_);rintro e w' ⟨rfl,⟨nd,rfl⟩⟩;refine ⟨_,rfl,?_⟩)|((with_reducible refine δv (f:=171) rfl ?_);refine goesL_ (some 29) rfl rfl Tryz.func171 (by kernel_rfl) rfl #[.int .i64 a1,.int .i64 t977,.int .i64 (ζm (a0+t977))] rfl (by (try simp only [δd,δe,δf]);rfl) ?_;(with_reducible refine (spec_l02MulDiv.calls k a1 t977 (ζm (a0+t977)) t979 τ _ A7.out).mono ?_);rintro e w' ⟨rfl,⟨nd,rfl⟩⟩;refine ⟨_,rfl,?_⟩))
     go_ret2
     exact ⟨by rfl,by repeat (first|exact Drawn0.refl _|apply Drawn0.step)⟩
    ·
     rw [if_neg c9] at H
     have c9b0:(t979 == 0)=φ:=beq_eq_false_iff_ne.mpr c9
     have c9b1:(t979 != 0)=τ:=bne_iff_ne.mpr c9
     simp only [Option.some.injEq,Prod.mk.injEq] at H
     obtain ⟨rfl,rfl⟩:=H
     go_enter Tryz.func127,Tryz.ntmps127
     go_wp2_with (first|((with_reducible refine δv (f:=171) rfl ?_);refine goesL_ (some 14) rfl rfl Tryz.func171 (by kernel_rfl) rfl #[.int .i64 a2,.int .i64 997,.int .i64 1000] rfl (by (try simp only [δd,δe,δf]);rfl) ?_;(with_reducible refine (spec_l02MulDiv.calls k a2 997 1000 t977 t978 _ A4.out).mono ?_);rintro e w' ⟨rfl,⟨nd,rfl⟩⟩;refine ⟨_,rfl,?_⟩)|((with_reducible refine δv (f:=171) rfl ?_);refine goesL_ (some 29) rfl rfl Tryz.func171 (by kernel_rfl) rfl #[.int .i64 a1,.int .i64 t977,.int .i64 (ζm (a0+t977))] rfl (by (try simp only [δd,δe,δf]);rfl) ?_;(with_reducible refine (spec_l02MulDiv.calls k a1 t977 (ζm (a0+t977)) t979 τ _ A7.out).mono ?_);rintro e w' ⟨rfl,⟨nd,rfl⟩⟩;refine ⟨_,rfl,?_⟩))
     go_ret2
     exact ⟨by rfl,by repeat (first|exact Drawn0.refl _|apply Drawn0.step)⟩
   ·
    replace c8:=Bool.eq_false_iff.mpr c8
    subst c8
    have H1:(some (0,17))=some (r1,r2):=by rw [if_neg (show ¬ (φ=τ) by decide)] at H;exact H
    clear H
    have H:=H1
    clear H1
    simp only [Option.some.injEq,Prod.mk.injEq] at H
    obtain ⟨rfl,rfl⟩:=H
    go_enter Tryz.func127,Tryz.ntmps127
    go_wp2_with (first|((with_reducible refine δv (f:=171) rfl ?_);refine goesL_ (some 14) rfl rfl Tryz.func171 (by kernel_rfl) rfl #[.int .i64 a2,.int .i64 997,.int .i64 1000] rfl (by (try simp only [δd,δe,δf]);rfl) ?_;(with_reducible refine (spec_l02MulDiv.calls k a2 997 1000 t977 t978 _ A4.out).mono ?_);rintro e w' ⟨rfl,⟨nd,rfl⟩⟩;refine ⟨_,rfl,?_⟩)|((with_reducible refine δv (f:=171) rfl ?_);refine goesL_ (some 29) rfl rfl Tryz.func171 (by kernel_rfl) rfl #[.int .i64 a1,.int .i64 t977,.int .i64 (ζm (a0+t977))] rfl (by (try simp only [δd,δe,δf]);rfl) ?_;(with_reducible refine (spec_l02MulDiv.calls k a1 t977 (ζm (a0+t977)) t979 φ _ A7.out).mono ?_);rintro e w' ⟨rfl,⟨nd,rfl⟩⟩;refine ⟨_,rfl,?_⟩))
    go_ret2
    exact ⟨by rfl,by repeat (first|exact Drawn0.refl _|apply Drawn0.step)⟩


open Go.Proofs.YtabmfhnhmoiljaaGreatDoorW.PrintWords renaming below_step → δr, gate_dst → δx, box_event → δz, blk_cell → δl, blk_frozen → δm, below_set → δq, blk_put → δw, below_alloc → δk, below_drew1 → δj, pw_below_drewN → δi

/-! ### spec_l10SwapPool: function 70 -/
def spec_l10SwapPool.f (k:Nat) (name:ByteArray) (list:List S51) (who:ByteArray) (denom:ByteArray) (n:Int) (least:Int):Option (List S51 × Int) :=
 (spec_l08Name.f k who).bind fun q1=>if q1=τ then ((spec_l01In.f n 1 1000000000000000000).bind fun q2=>if q2=τ then ((spec_l02Amount.f least).bind fun q3=>if q3=τ then ((spec_l10Find.f k list).bind fun q4=>if q4.2.2=0 then (some (list,5)) else (if denom.toList=name.toList then ((spec_l10Swap.f k q4.1 q4.2.1 n).bind fun q5=>if q5.2=0 then (if q5.1<least then (some (list,19)) else ((spec_l10Do.f k name list who n (ζm (-q5.1)) 0 (ζm (q4.1+n)) (ζm (q4.2.1 - q5.1)) q4.2.2).bind fun q6=>some (q6.1,q6.2))) else (some (list,q5.2))) else ((spec_l07Other.f name).bind fun q7=>if q7.size≤1000000 then (if denom.toList=((⟨#[118]⟩:ByteArray) ++ q7).toList then ((spec_l10Swap.f k q4.2.1 q4.1 n).bind fun q8=>if q8.2=0 then (if q8.1<least then (some (list,19)) else ((spec_l10Do.f k name list who (ζm (-q8.1)) n 0 (ζm (q4.1 - q8.1)) (ζm (q4.2.1+n)) q4.2.2).bind fun q9=>some (q9.1,q9.2))) else (some (list,q8.2))) else (some (list,3))) else (none)))) else (some (list,4))) else (some (list,4))) else (some (list,4))
set_option maxHeartbeats 4000000 in
set_option maxRecDepth 100000 in
theorem spec_l10SwapPool.calls (k:Nat) (name:ByteArray) (A_list:Option Addr) (c_list:Nat) (list:List S51) (who:ByteArray) (denom:ByteArray) (n:Int) (least:Int) (r1:List S51) (r2:Int) (w:World) (hr0_list:Kd.C k51 w A_list list.length list) (hc0_list:list.length≤c_list) (h:spec_l10SwapPool.f k name list who denom n least=some (r1,r2)) :
  Calls Tryz.prog 70 #[.string name,.slice A_list list.length c_list,.string who,.string denom,.int .i64 n,.int .i64 least] w fun e w' => ∃ v0_:Value,e = .returned (.tuple #[v0_,.int .i64 r2])∧Sf w w' (.slice A_list list.length c_list) list v0_ r1∧Below w.heap.size w w':=by
 have HR0_list:=ζa hr0_list
 have HC0_list:=ζa hc0_list
 clear hr0_list hc0_list
 have HB0:=ζa (Below.refl w.heap.size w)
 unfold spec_l10SwapPool.f at h
 have HH:=ζa h
 clear h
 go_enter Tryz.func70,Tryz.ntmps70
 have h:=HH.out
 clear HH
 obtain ⟨b1,h1_,h⟩:=Option.bind_eq_some_iff.mp h
 have HH:=ζa h
 have H1:=ζa h1_
 clear h h1_
 go_wp2_with fail
 refine (spec_l08Name.calls k who b1 _ H1.out).mono ?_
 rintro e w1 ⟨rfl,hd⟩
 have hb:=hd.below
 clear hd
 have m_:=ζa (δr (by repeat (exact HB0.out)) hb)
 clear hb
 have HB1:=m_
 clear m_
 have h:=HH.out
 clear HH
 cases b1 with
 | true =>
  rw [if_pos rfl] at h
  have HH:=ζa h
  clear h
  have h:=HH.out
  clear HH
  obtain ⟨b2,h3_,h⟩:=Option.bind_eq_some_iff.mp h
  have HH:=ζa h
  have H3:=ζa h3_
  clear h h3_
  go_wp2_with fail
  refine (spec_l01In.calls n 1 1000000000000000000 b2 _ H3.out).mono ?_
  rintro e w3 ⟨rfl,hd⟩
  have hb:=hd.below
  clear hd
  have m_:=ζa (δr (by repeat (exact HB1.out)) hb)
  clear hb
  have HB3:=m_
  clear m_
  have h:=HH.out
  clear HH
  cases b2 with
  | true =>
   rw [if_pos rfl] at h
   have HH:=ζa h
   clear h
   have h:=HH.out
   clear HH
   obtain ⟨b3,h5_,h⟩:=Option.bind_eq_some_iff.mp h
   have HH:=ζa h
   have H5:=ζa h5_
   clear h h5_
   go_wp2_with fail
   refine (spec_l02Amount.calls least b3 _ H5.out).mono ?_
   rintro e w5 ⟨rfl,hd⟩
   have hb:=hd.below
   clear hd
   have m_:=ζa (δr (by repeat (exact HB3.out)) hb)
   clear hb
   have HB5:=m_
   clear m_
   have h:=HH.out
   clear HH
   cases b3 with
   | true =>
    rw [if_pos rfl] at h
    have HH:=ζa h
    clear h
    have h:=HH.out
    clear HH
    obtain ⟨⟨u0,u1,u2⟩,h7_,h⟩:=Option.bind_eq_some_iff.mp h
    have HH:=ζa h
    have H7:=ζa h7_
    clear h h7_
    go_wp2_with fail
    refine (spec_l10Find.calls k A_list c_list list u0 u1 u2 _ (by repeat (exact Kd.C_below HR0_list.out HB5.out)) HC0_list.out H7.out).mono ?_
    rintro e w7 ⟨rfl,hb⟩
    have m_:=ζa (δr (by repeat (exact HB5.out)) hb)
    clear hb
    have HB7:=m_
    clear m_
    have h:=HH.out
    clear HH
    by_cases cc10:u2=0
    ·
     rw [if_pos cc10] at h
     have HH:=ζa h
     clear h
     have f10a:(u2 == 0)=τ:=beq_iff_eq.mpr cc10
     have f10b:(u2 != 0)=φ:=bne_eq_false_iff_eq.mpr cc10
     have C10:=ζa cc10
     clear cc10
     have h:=HH.out
     clear HH
     simp only [Option.some.injEq,Prod.mk.injEq] at h
     obtain ⟨rfl,rfl⟩:=h
     go_wp2_with (first|((with_reducible refine δx (N:=14) rfl ?_);refine δz ?hg (N:=14) ?hd (cs:=#[.int .i64 0,.int .i64 0,.int .i64 0]) (t:=109) ?hr ?_;(case hd=>rfl);(case hg=>rfl);(case hr=>(go_simp;done));intro gbp hg w8 hbox hb;have hbc:=δr (show Below w7.heap.size w7 _ from by repeat (exact Below.refl _ _)) hb;have GEp:Aside0 (w7.heap.size≤gbp):=⟨by rw [hg];exact Below.size (show Below w7.heap.size w7 _ from by repeat (exact Below.refl _ _))⟩;have GWp:Aside0 (w.heap.size≤gbp):=⟨Nat.le_trans HB7.out.size GEp.out⟩;have BKZ:=ζa hbox;have HBZ:=ζa hbc;have hzz:=hbox;clear hb hbc hbox hg;have hzp_0:=(δl BKZ.out 0).trans rfl;have hzp_1:=(δl BKZ.out 1).trans rfl;have hzp_2:=(δl BKZ.out 2).trans rfl;have hfp_0:=δm BKZ.out 0;have hfp_1:=δm BKZ.out 1;have hfp_2:=δm BKZ.out 2;clear hzz)|((with_reducible refine gate_store (t:=109) (p:=14) rfl ?_);refine store_event (t:=109) (p:=14) (v:=?vo8) (w1:=(((w8.setCell ⟨gbp,0,none⟩ (.int .i64 u0)).setCell ⟨gbp,1,none⟩ (.int .i64 u1)).setCell ⟨gbp,2,none⟩ (.int .i64 u2))) ?hg ?ho ?hn ?hr ?_;(case ho=>rfl);(case hg=>rfl);(case hn=>rfl);(case hr=>(go_simp;done));intro w9 hw;have hbc:Below w7.heap.size w7 w9:=(by rw [hw];exact (δq (δq (δq HBZ.out GEp.out) GEp.out) GEp.out));have BKp:Aside0 (w9.heap[gbp]? = some (.cells #[.int .i64 u0,.int .i64 u1,.int .i64 u2] 109 (0,0))):=⟨by rw [hw];exact (δw (δw (δw BKZ.out 0 _ rfl) 1 _ rfl) 2 _ rfl)⟩;have HB8:=ζa (δr HB7.out hbc);clear hbc hw BKZ HBZ;clear hzp_0 hfp_0 hzp_1 hfp_1 hzp_2 hfp_2;have hzp_0:=(δl BKp.out 0).trans rfl;have hzp_1:=(δl BKp.out 1).trans rfl;have hzp_2:=(δl BKp.out 2).trans rfl;have hfp_0:=δm BKp.out 0;have hfp_1:=δm BKp.out 1;have hfp_2:=δm BKp.out 2))
     go_ret2
     exact ⟨_,rfl,⟨Or.inl ⟨rfl,rfl⟩⟩,(by repeat (exact HB8.out))⟩
    ·
     rw [if_neg cc10] at h
     have HH:=ζa h
     clear h
     have f10a:(u2 == 0)=φ:=beq_eq_false_iff_ne.mpr cc10
     have f10b:(u2 != 0)=τ:=bne_iff_ne.mpr cc10
     have C10:=ζa cc10
     clear cc10
     have h:=HH.out
     clear HH
     by_cases cc11:denom.toList=name.toList
     ·
      rw [if_pos cc11] at h
      have HH:=ζa h
      clear h
      have f11a:(denom.toList == name.toList)=τ:=beq_iff_eq.mpr cc11
      have f11b:(denom.toList != name.toList)=φ:=bne_eq_false_iff_eq.mpr cc11
      have C11:=ζa cc11
      clear cc11
      have h:=HH.out
      clear HH
      obtain ⟨⟨g1,c0⟩,h12_,h⟩:=Option.bind_eq_some_iff.mp h
      have HH:=ζa h
      have H12:=ζa h12_
      clear h h12_
      go_wp2_with (first|((with_reducible refine δx (N:=14) rfl ?_);refine δz ?hg (N:=14) ?hd (cs:=#[.int .i64 0,.int .i64 0,.int .i64 0]) (t:=109) ?hr ?_;(case hd=>rfl);(case hg=>rfl);(case hr=>(go_simp;done));intro gbp hg w8 hbox hb;have hbc:=δr (show Below w7.heap.size w7 _ from by repeat (exact Below.refl _ _)) hb;have GEp:Aside0 (w7.heap.size≤gbp):=⟨by rw [hg];exact Below.size (show Below w7.heap.size w7 _ from by repeat (exact Below.refl _ _))⟩;have GWp:Aside0 (w.heap.size≤gbp):=⟨Nat.le_trans HB7.out.size GEp.out⟩;have BKZ:=ζa hbox;have HBZ:=ζa hbc;have hzz:=hbox;clear hb hbc hbox hg;have hzp_0:=(δl BKZ.out 0).trans rfl;have hzp_1:=(δl BKZ.out 1).trans rfl;have hzp_2:=(δl BKZ.out 2).trans rfl;have hfp_0:=δm BKZ.out 0;have hfp_1:=δm BKZ.out 1;have hfp_2:=δm BKZ.out 2;clear hzz)|((with_reducible refine gate_store (t:=109) (p:=14) rfl ?_);refine store_event (t:=109) (p:=14) (v:=?vo8) (w1:=(((w8.setCell ⟨gbp,0,none⟩ (.int .i64 u0)).setCell ⟨gbp,1,none⟩ (.int .i64 u1)).setCell ⟨gbp,2,none⟩ (.int .i64 u2))) ?hg ?ho ?hn ?hr ?_;(case ho=>rfl);(case hg=>rfl);(case hn=>rfl);(case hr=>(go_simp;done));intro w9 hw;have hbc:Below w7.heap.size w7 w9:=(by rw [hw];exact (δq (δq (δq HBZ.out GEp.out) GEp.out) GEp.out));have BKp:Aside0 (w9.heap[gbp]? = some (.cells #[.int .i64 u0,.int .i64 u1,.int .i64 u2] 109 (0,0))):=⟨by rw [hw];exact (δw (δw (δw BKZ.out 0 _ rfl) 1 _ rfl) 2 _ rfl)⟩;have HB8:=ζa (δr HB7.out hbc);clear hbc hw BKZ HBZ;clear hzp_0 hfp_0 hzp_1 hfp_1 hzp_2 hfp_2;have hzp_0:=(δl BKp.out 0).trans rfl;have hzp_1:=(δl BKp.out 1).trans rfl;have hzp_2:=(δl BKp.out 2).trans rfl;have hfp_0:=δm BKp.out 0;have hfp_1:=δm BKp.out 1;have hfp_2:=δm BKp.out 2))
      refine (spec_l10Swap.calls k u0 u1 n g1 c0 _ H12.out).mono ?_
      rintro e w12 ⟨rfl,hd⟩
      have hb:=hd.below
      clear hd
      replace BKp:=ζa (blk_below (by repeat (exact BKp.out)) hb)
      clear hzp_0 hfp_0 hzp_1 hfp_1 hzp_2 hfp_2
      have m_:=ζa (δr (by repeat (exact HB8.out)) hb)
      clear hb
      have HB12:=m_
      clear m_
      have hzp_0:=(δl BKp.out 0).trans rfl
      have hfp_0:=δm BKp.out 0
      have hzp_1:=(δl BKp.out 1).trans rfl
      have hfp_1:=δm BKp.out 1
      have hzp_2:=(δl BKp.out 2).trans rfl
      have hfp_2:=δm BKp.out 2
      have h:=HH.out
      clear HH
      by_cases cc13:c0=0
      ·
       rw [if_pos cc13] at h
       have HH:=ζa h
       clear h
       have f13a:(c0 == 0)=τ:=beq_iff_eq.mpr cc13
       have f13b:(c0 != 0)=φ:=bne_eq_false_iff_eq.mpr cc13
       have C13:=ζa cc13
       clear cc13
       have h:=HH.out
       clear HH
       by_cases cc14:g1<least
       ·
        rw [if_pos cc14] at h
        have HH:=ζa h
        clear h
        have f14a:decide (g1<least)=τ:=decide_eq_true cc14
        have C14:=ζa cc14
        clear cc14
        have h:=HH.out
        clear HH
        simp only [Option.some.injEq,Prod.mk.injEq] at h
        obtain ⟨rfl,rfl⟩:=h
        go_wp2
        go_ret2
        exact ⟨_,rfl,⟨Or.inl ⟨rfl,rfl⟩⟩,(by repeat (exact HB12.out))⟩
       ·
        rw [if_neg cc14] at h
        have HH:=ζa h
        clear h
        have f14a:decide (g1<least)=φ:=decide_eq_false cc14
        have C14:=ζa cc14
        clear cc14
        have h:=HH.out
        clear HH
        obtain ⟨⟨o1,c1⟩,h15_,h⟩:=Option.bind_eq_some_iff.mp h
        have HH:=ζa h
        have H15:=ζa h15_
        clear h h15_
        go_wp2_with fail
        refine (spec_l10Do.calls k name A_list c_list list who n (ζm (-g1)) 0 (ζm (u0+n)) (ζm (u1 - g1)) u2 o1 c1 _ (by repeat (exact Kd.C_below HR0_list.out HB12.out)) HC0_list.out H15.out).mono ?_
        rintro e w15 ⟨v15,rfl,ho,hb⟩
        have hsf:=Sf.trans (by exact ⟨Or.inl ⟨rfl,rfl⟩⟩) ho hb (Below.size (show Below w.heap.size w _ from by repeat (exact HB12.out)))
        replace BKp:=ζa (blk_below (by repeat (exact BKp.out)) hb)
        clear hzp_0 hfp_0 hzp_1 hfp_1 hzp_2 hfp_2
        obtain ⟨adr15,cap15,rfl,hl15,hq15⟩:=Sf.reads ho (Kd.C_below HR0_list.out (δr (by repeat (exact HB12.out)) hb)) HC0_list.out
        have HC15:=ζa hl15
        have HRn15:=ζa hq15
        have HS15:=ζa hsf
        clear hl15 hq15 ho hsf
        have m_:=ζa (δr (by repeat (exact HB12.out)) hb)
        clear hb
        have HB15:=m_
        clear m_
        have hzp_0:=(δl BKp.out 0).trans rfl
        have hfp_0:=δm BKp.out 0
        have hzp_1:=(δl BKp.out 1).trans rfl
        have hfp_1:=δm BKp.out 1
        have hzp_2:=(δl BKp.out 2).trans rfl
        have hfp_2:=δm BKp.out 2
        have h:=HH.out
        clear HH
        simp only [Option.some.injEq,Prod.mk.injEq] at h
        obtain ⟨rfl,rfl⟩:=h
        go_wp2
        go_ret2
        exact ⟨_,rfl,(by repeat (exact HS15.out)),(by repeat (exact HB15.out))⟩
      ·
       rw [if_neg cc13] at h
       have HH:=ζa h
       clear h
       have f13a:(c0 == 0)=φ:=beq_eq_false_iff_ne.mpr cc13
       have f13b:(c0 != 0)=τ:=bne_iff_ne.mpr cc13
       have C13:=ζa cc13
       clear cc13
       have h:=HH.out
       clear HH
       simp only [Option.some.injEq,Prod.mk.injEq] at h
       obtain ⟨rfl,rfl⟩:=h
       go_wp2
       go_ret2
       exact ⟨_,rfl,⟨Or.inl ⟨rfl,rfl⟩⟩,(by repeat (exact HB12.out))⟩
     ·
      rw [if_neg cc11] at h
      have HH:=ζa h
      clear h
      have f11a:(denom.toList == name.toList)=φ:=beq_eq_false_iff_ne.mpr cc11
      have f11b:(denom.toList != name.toList)=τ:=bne_iff_ne.mpr cc11
      have C11:=ζa cc11
      clear cc11
      have h:=HH.out
      clear HH
      obtain ⟨x1,h16_,h⟩:=Option.bind_eq_some_iff.mp h
      have HH:=ζa h
      have H16:=ζa h16_
      clear h h16_
      go_wp2_with (first|((with_reducible refine δx (N:=14) rfl ?_);refine δz ?hg (N:=14) ?hd (cs:=#[.int .i64 0,.int .i64 0,.int .i64 0]) (t:=109) ?hr ?_;(case hd=>rfl);(case hg=>rfl);(case hr=>(go_simp;done));intro gbp hg w8 hbox hb;have hbc:=δr (show Below w7.heap.size w7 _ from by repeat (exact Below.refl _ _)) hb;have GEp:Aside0 (w7.heap.size≤gbp):=⟨by rw [hg];exact Below.size (show Below w7.heap.size w7 _ from by repeat (exact Below.refl _ _))⟩;have GWp:Aside0 (w.heap.size≤gbp):=⟨Nat.le_trans HB7.out.size GEp.out⟩;have BKZ:=ζa hbox;have HBZ:=ζa hbc;have hzz:=hbox;clear hb hbc hbox hg;have hzp_0:=(δl BKZ.out 0).trans rfl;have hzp_1:=(δl BKZ.out 1).trans rfl;have hzp_2:=(δl BKZ.out 2).trans rfl;have hfp_0:=δm BKZ.out 0;have hfp_1:=δm BKZ.out 1;have hfp_2:=δm BKZ.out 2;clear hzz)|((with_reducible refine gate_store (t:=109) (p:=14) rfl ?_);refine store_event (t:=109) (p:=14) (v:=?vo8) (w1:=(((w8.setCell ⟨gbp,0,none⟩ (.int .i64 u0)).setCell ⟨gbp,1,none⟩ (.int .i64 u1)).setCell ⟨gbp,2,none⟩ (.int .i64 u2))) ?hg ?ho ?hn ?hr ?_;(case ho=>rfl);(case hg=>rfl);(case hn=>rfl);(case hr=>(go_simp;done));intro w9 hw;have hbc:Below w7.heap.size w7 w9:=(by rw [hw];exact (δq (δq (δq HBZ.out GEp.out) GEp.out) GEp.out));have BKp:Aside0 (w9.heap[gbp]? = some (.cells #[.int .i64 u0,.int .i64 u1,.int .i64 u2] 109 (0,0))):=⟨by rw [hw];exact (δw (δw (δw BKZ.out 0 _ rfl) 1 _ rfl) 2 _ rfl)⟩;have HB8:=ζa (δr HB7.out hbc);clear hbc hw BKZ HBZ;clear hzp_0 hfp_0 hzp_1 hfp_1 hzp_2 hfp_2;have hzp_0:=(δl BKp.out 0).trans rfl;have hzp_1:=(δl BKp.out 1).trans rfl;have hzp_2:=(δl BKp.out 2).trans rfl;have hfp_0:=δm BKp.out 0;have hfp_1:=δm BKp.out 1;have hfp_2:=δm BKp.out 2))
      refine (spec_l07Other.calls name x1 _ H16.out).mono ?_
      rintro e w16 ⟨rfl,hd⟩
      have hb:=hd.below
      clear hd
      replace BKp:=ζa (blk_below (by repeat (exact BKp.out)) hb)
      clear hzp_0 hfp_0 hzp_1 hfp_1 hzp_2 hfp_2
      have m_:=ζa (δr (by repeat (exact HB8.out)) hb)
      clear hb
      have HB16:=m_
      clear m_
      have hzp_0:=(δl BKp.out 0).trans rfl
      have hfp_0:=δm BKp.out 0
      have hzp_1:=(δl BKp.out 1).trans rfl
      have hfp_1:=δm BKp.out 1
      have hzp_2:=(δl BKp.out 2).trans rfl
      have hfp_2:=δm BKp.out 2
      have h:=HH.out
      clear HH
      by_cases cc17:x1.size≤1000000
      ·
       rw [if_pos cc17] at h
       have HH:=ζa h
       clear h
       have f17a:decide (x1.size≤1000000)=τ:=decide_eq_true cc17
       have C17:=ζa cc17
       clear cc17
       have z_x1:=C17.out
       have z1_x1:(1+x1.size≤9223372036854775807)=True:=eq_true (by omega)
       have z2_x1:(9223372036854775807<1+x1.size)=False:=eq_false (by omega)
       clear z_x1
       have h:=HH.out
       clear HH
       by_cases cc18:denom.toList=((⟨#[118]⟩:ByteArray) ++ x1).toList
       ·
        rw [if_pos cc18] at h
        have HH:=ζa h
        clear h
        have f18a:(denom.toList == ((⟨#[118]⟩:ByteArray) ++ x1).toList)=τ:=beq_iff_eq.mpr cc18
        have f18b:(denom.toList != ((⟨#[118]⟩:ByteArray) ++ x1).toList)=φ:=bne_eq_false_iff_eq.mpr cc18
        have C18:=ζa cc18
        clear cc18
        have h:=HH.out
        clear HH
        obtain ⟨⟨g1,c0⟩,h19_,h⟩:=Option.bind_eq_some_iff.mp h
        have HH:=ζa h
        have H19:=ζa h19_
        clear h h19_
        go_wp2_with fail
        refine (spec_l10Swap.calls k u1 u0 n g1 c0 _ H19.out).mono ?_
        rintro e w19 ⟨rfl,hd⟩
        have hb:=hd.below
        clear hd
        replace BKp:=ζa (blk_below (by repeat (exact BKp.out)) hb)
        clear hzp_0 hfp_0 hzp_1 hfp_1 hzp_2 hfp_2
        have m_:=ζa (δr (by repeat (exact HB16.out)) hb)
        clear hb
        have HB19:=m_
        clear m_
        have hzp_0:=(δl BKp.out 0).trans rfl
        have hfp_0:=δm BKp.out 0
        have hzp_1:=(δl BKp.out 1).trans rfl
        have hfp_1:=δm BKp.out 1
        have hzp_2:=(δl BKp.out 2).trans rfl
        have hfp_2:=δm BKp.out 2
        have h:=HH.out
        clear HH
        by_cases cc20:c0=0
        ·
         rw [if_pos cc20] at h
         have HH:=ζa h
         clear h
         have f20a:(c0 == 0)=τ:=beq_iff_eq.mpr cc20
         have f20b:(c0 != 0)=φ:=bne_eq_false_iff_eq.mpr cc20
         have C20:=ζa cc20
         clear cc20
         have h:=HH.out
         clear HH
         by_cases cc21:g1<least
         ·
          rw [if_pos cc21] at h
          have HH:=ζa h
          clear h
          have f21a:decide (g1<least)=τ:=decide_eq_true cc21
          have C21:=ζa cc21
          clear cc21
          have h:=HH.out
          clear HH
          simp only [Option.some.injEq,Prod.mk.injEq] at h
          obtain ⟨rfl,rfl⟩:=h
          go_wp2
          go_ret2
          exact ⟨_,rfl,⟨Or.inl ⟨rfl,rfl⟩⟩,(by repeat (exact HB19.out))⟩
         ·
          rw [if_neg cc21] at h
          have HH:=ζa h
          clear h
          have f21a:decide (g1<least)=φ:=decide_eq_false cc21
          have C21:=ζa cc21
          clear cc21
          have h:=HH.out
          clear HH
          obtain ⟨⟨o1,c1⟩,h22_,h⟩:=Option.bind_eq_some_iff.mp h
          have HH:=ζa h
          have H22:=ζa h22_
          clear h h22_
          go_wp2_with fail
          refine (spec_l10Do.calls k name A_list c_list list who (ζm (-g1)) n 0 (ζm (u0 - g1)) (ζm (u1+n)) u2 o1 c1 _ (by repeat (exact Kd.C_below HR0_list.out HB19.out)) HC0_list.out H22.out).mono ?_
          rintro e w22 ⟨v22,rfl,ho,hb⟩
          have hsf:=Sf.trans (by exact ⟨Or.inl ⟨rfl,rfl⟩⟩) ho hb (Below.size (show Below w.heap.size w _ from by repeat (exact HB19.out)))
          replace BKp:=ζa (blk_below (by repeat (exact BKp.out)) hb)
          clear hzp_0 hfp_0 hzp_1 hfp_1 hzp_2 hfp_2
          obtain ⟨adr22,cap22,rfl,hl22,hq22⟩:=Sf.reads ho (Kd.C_below HR0_list.out (δr (by repeat (exact HB19.out)) hb)) HC0_list.out
          have HC22:=ζa hl22
          have HRn22:=ζa hq22
          have HS22:=ζa hsf
          clear hl22 hq22 ho hsf
          have m_:=ζa (δr (by repeat (exact HB19.out)) hb)
          clear hb
          have HB22:=m_
          clear m_
          have hzp_0:=(δl BKp.out 0).trans rfl
          have hfp_0:=δm BKp.out 0
          have hzp_1:=(δl BKp.out 1).trans rfl
          have hfp_1:=δm BKp.out 1
          have hzp_2:=(δl BKp.out 2).trans rfl
          have hfp_2:=δm BKp.out 2
          have h:=HH.out
          clear HH
          simp only [Option.some.injEq,Prod.mk.injEq] at h
          obtain ⟨rfl,rfl⟩:=h
          go_wp2
          go_ret2
          exact ⟨_,rfl,(by repeat (exact HS22.out)),(by repeat (exact HB22.out))⟩
        ·
         rw [if_neg cc20] at h
         have HH:=ζa h
         clear h
         have f20a:(c0 == 0)=φ:=beq_eq_false_iff_ne.mpr cc20
         have f20b:(c0 != 0)=τ:=bne_iff_ne.mpr cc20
         have C20:=ζa cc20
         clear cc20
         have h:=HH.out
         clear HH
         simp only [Option.some.injEq,Prod.mk.injEq] at h
         obtain ⟨rfl,rfl⟩:=h
         go_wp2
         go_ret2
         exact ⟨_,rfl,⟨Or.inl ⟨rfl,rfl⟩⟩,(by repeat (exact HB19.out))⟩
       ·
        rw [if_neg cc18] at h
        have HH:=ζa h
        clear h
        have f18a:(denom.toList == ((⟨#[118]⟩:ByteArray) ++ x1).toList)=φ:=beq_eq_false_iff_ne.mpr cc18
        have f18b:(denom.toList != ((⟨#[118]⟩:ByteArray) ++ x1).toList)=τ:=bne_iff_ne.mpr cc18
        have C18:=ζa cc18
        clear cc18
        have h:=HH.out
        clear HH
        simp only [Option.some.injEq,Prod.mk.injEq] at h
        obtain ⟨rfl,rfl⟩:=h
        go_wp2
        go_ret2
        exact ⟨_,rfl,⟨Or.inl ⟨rfl,rfl⟩⟩,(by repeat (exact HB16.out))⟩
      ·
       rw [if_neg cc17] at h
       have HH:=ζa h
       clear h
       have f17a:decide (x1.size≤1000000)=φ:=decide_eq_false cc17
       have C17:=ζa cc17
       clear cc17
       exact absurd HH.out (by simp)
   | false =>
    rw [if_neg (by decide)] at h
    have HH:=ζa h
    clear h
    have h:=HH.out
    clear HH
    simp only [Option.some.injEq,Prod.mk.injEq] at h
    obtain ⟨rfl,rfl⟩:=h
    go_wp2
    go_ret2
    exact ⟨_,rfl,⟨Or.inl ⟨rfl,rfl⟩⟩,(by repeat (first|exact HB5.out|apply δk|apply δj|apply δi))⟩
  | false =>
   rw [if_neg (by decide)] at h
   have HH:=ζa h
   clear h
   have h:=HH.out
   clear HH
   simp only [Option.some.injEq,Prod.mk.injEq] at h
   obtain ⟨rfl,rfl⟩:=h
   go_wp2
   go_ret2
   exact ⟨_,rfl,⟨Or.inl ⟨rfl,rfl⟩⟩,(by repeat (first|exact HB3.out|apply δk|apply δj|apply δi))⟩
 | false =>
  rw [if_neg (by decide)] at h
  have HH:=ζa h
  clear h
  have h:=HH.out
  clear HH
  simp only [Option.some.injEq,Prod.mk.injEq] at h
  obtain ⟨rfl,rfl⟩:=h
  go_wp2
  go_ret2
  exact ⟨_,rfl,⟨Or.inl ⟨rfl,rfl⟩⟩,(by repeat (exact HB1.out))⟩


open Go.Proofs.YtabmfhnhmoiljaaGreatDoorW.PrintWords renaming gate_dst → δx, below_step → δr

/-! ### spec_SwapPool: function 37 -/
def spec_SwapPool.f (k:Nat) (name:ByteArray) (list:List S51) (who:ByteArray) (denom:ByteArray) (n:Int) (least:Int):Option (List S51 × Int) :=
 if (65536:Int)<(name.size:Int) then (some (([]:List S51),2)) else (if (4096:Int)<(list.length:Int) then (some (([]:List S51),2)) else (if (65536:Int)<(who.size:Int) then (some (([]:List S51),2)) else (if (65536:Int)<(denom.size:Int) then (some (([]:List S51),2)) else ((spec_l08Code.f k name list).bind fun q1=>if q1=0 then ((spec_l10SwapPool.f k name list who denom n least).bind fun q2=>if q2.1.length≤1000000 then (some (q2.1,q2.2)) else (none)) else (some (([]:List S51),q1))))))
set_option maxHeartbeats 4000000 in
set_option maxRecDepth 100000 in
theorem spec_SwapPool.calls (k:Nat) (name:ByteArray) (A_list:Option Addr) (c_list:Nat) (list:List S51) (who:ByteArray) (denom:ByteArray) (n:Int) (least:Int) (r1:List S51) (r2:Int) (w:World) (hr0_list:Kd.C k51 w A_list list.length list) (hc0_list:list.length≤c_list) (h:spec_SwapPool.f k name list who denom n least=some (r1,r2)) :
  Calls Tryz.prog 37 #[.string name,.slice A_list list.length c_list,.string who,.string denom,.int .i64 n,.int .i64 least] w fun e w' => ∃ v0_:Value,e = .returned (.tuple #[v0_,.int .i64 r2])∧Kd.R k51 51 w' w.heap.size (fun _=>True) v0_ r1∧Below w.heap.size w w':=by
 have HR0_list:=ζa hr0_list
 have HC0_list:=ζa hc0_list
 clear hr0_list hc0_list
 have HB0:=ζa (Below.refl w.heap.size w)
 unfold spec_SwapPool.f at h
 have HH:=ζa h
 clear h
 go_enter Tryz.func37,Tryz.ntmps37
 have h:=HH.out
 clear HH
 by_cases cc1:(65536:Int)<(name.size:Int)
 ·
  rw [if_pos cc1] at h
  have HH:=ζa h
  clear h
  have f1a:decide ((65536:Int)<(name.size:Int))=τ:=decide_eq_true cc1
  have f1b:decide (65536<name.size)=τ:=decide_eq_true (by omega)
  have C1:=ζa cc1
  clear cc1
  have h:=HH.out
  clear HH
  simp only [Option.some.injEq,Prod.mk.injEq] at h
  obtain ⟨rfl,rfl⟩:=h
  go_wp2_with (((with_reducible refine δx (N:=25) rfl ?_);refine Kd.R_lit k51 w.heap.size 51 ?hg (N:=25) ?hd (w0:=w) (xs:=([]:List S51)) (inner:=[]) (ok:=fun _=>True) (okp:=fun _=>True) ?hr ?hp (fun _ hk=>hk) trivial (by repeat (exact Below.refl _ _)) (Below.size (show Below w.heap.size w _ from by repeat (exact Below.refl _ _))) (by simp) ?_;(case hd=>rfl);(case hg=>rfl);(case hr=>(go_simp;done));(case hp=>exact (Reps.none _ _));intro vL wL hoL hbL hg_ hnew_;clear hg_ hnew_;have HOL:=ζa hoL;have HBL:=ζa hbL;clear hoL hbL))
  have HBF:=ζa (δr HB0.out HBL.out)
  go_ret2
  exact ⟨_,rfl,(by have:=Kd.R_lower HOL.out HB0.out.size;repeat (exact this)),(by repeat (exact HBF.out))⟩
 ·
  rw [if_neg cc1] at h
  have HH:=ζa h
  clear h
  have f1a:decide ((65536:Int)<(name.size:Int))=φ:=decide_eq_false cc1
  have f1b:decide (65536<name.size)=φ:=decide_eq_false (by omega)
  have C1:=ζa cc1
  clear cc1
  have h:=HH.out
  clear HH
  by_cases cc2:(4096:Int)<(list.length:Int)
  ·
   rw [if_pos cc2] at h
   have HH:=ζa h
   clear h
   have f2a:decide ((4096:Int)<(list.length:Int))=τ:=decide_eq_true cc2
   have f2b:decide (4096<list.length)=τ:=decide_eq_true (by omega)
   have C2:=ζa cc2
   clear cc2
   have h:=HH.out
   clear HH
   simp only [Option.some.injEq,Prod.mk.injEq] at h
   obtain ⟨rfl,rfl⟩:=h
   go_wp2_with (((with_reducible refine δx (N:=25) rfl ?_);refine Kd.R_lit k51 w.heap.size 51 ?hg (N:=25) ?hd (w0:=w) (xs:=([]:List S51)) (inner:=[]) (ok:=fun _=>True) (okp:=fun _=>True) ?hr ?hp (fun _ hk=>hk) trivial (by repeat (exact Below.refl _ _)) (Below.size (show Below w.heap.size w _ from by repeat (exact Below.refl _ _))) (by simp) ?_;(case hd=>rfl);(case hg=>rfl);(case hr=>(go_simp;done));(case hp=>exact (Reps.none _ _));intro vL wL hoL hbL hg_ hnew_;clear hg_ hnew_;have HOL:=ζa hoL;have HBL:=ζa hbL;clear hoL hbL))
   have HBF:=ζa (δr HB0.out HBL.out)
   go_ret2
   exact ⟨_,rfl,(by have:=Kd.R_lower HOL.out HB0.out.size;repeat (exact this)),(by repeat (exact HBF.out))⟩
  ·
   rw [if_neg cc2] at h
   have HH:=ζa h
   clear h
   have f2a:decide ((4096:Int)<(list.length:Int))=φ:=decide_eq_false cc2
   have f2b:decide (4096<list.length)=φ:=decide_eq_false (by omega)
   have C2:=ζa cc2
   clear cc2
   have h:=HH.out
   clear HH
   by_cases cc3:(65536:Int)<(who.size:Int)
   ·
    rw [if_pos cc3] at h
    have HH:=ζa h
    clear h
    have f3a:decide ((65536:Int)<(who.size:Int))=τ:=decide_eq_true cc3
    have f3b:decide (65536<who.size)=τ:=decide_eq_true (by omega)
    have C3:=ζa cc3
    clear cc3
    have h:=HH.out
    clear HH
    simp only [Option.some.injEq,Prod.mk.injEq] at h
    obtain ⟨rfl,rfl⟩:=h
    go_wp2_with (((with_reducible refine δx (N:=34) rfl ?_);refine Kd.R_lit k51 w.heap.size 51 ?hg (N:=34) ?hd (w0:=w) (xs:=([]:List S51)) (inner:=[]) (ok:=fun _=>True) (okp:=fun _=>True) ?hr ?hp (fun _ hk=>hk) trivial (by repeat (exact Below.refl _ _)) (Below.size (show Below w.heap.size w _ from by repeat (exact Below.refl _ _))) (by simp) ?_;(case hd=>rfl);(case hg=>rfl);(case hr=>(go_simp;done));(case hp=>exact (Reps.none _ _));intro vL wL hoL hbL hg_ hnew_;clear hg_ hnew_;have HOL:=ζa hoL;have HBL:=ζa hbL;clear hoL hbL))
    have HBF:=ζa (δr HB0.out HBL.out)
    go_ret2
    exact ⟨_,rfl,(by have:=Kd.R_lower HOL.out HB0.out.size;repeat (exact this)),(by repeat (exact HBF.out))⟩
   ·
    rw [if_neg cc3] at h
    have HH:=ζa h
    clear h
    have f3a:decide ((65536:Int)<(who.size:Int))=φ:=decide_eq_false cc3
    have f3b:decide (65536<who.size)=φ:=decide_eq_false (by omega)
    have C3:=ζa cc3
    clear cc3
    have h:=HH.out
    clear HH
    by_cases cc4:(65536:Int)<(denom.size:Int)
    ·
     rw [if_pos cc4] at h
     have HH:=ζa h
     clear h
     have f4a:decide ((65536:Int)<(denom.size:Int))=τ:=decide_eq_true cc4
     have f4b:decide (65536<denom.size)=τ:=decide_eq_true (by omega)
     have C4:=ζa cc4
     clear cc4
     have h:=HH.out
     clear HH
     simp only [Option.some.injEq,Prod.mk.injEq] at h
     obtain ⟨rfl,rfl⟩:=h
     go_wp2_with (((with_reducible refine δx (N:=34) rfl ?_);refine Kd.R_lit k51 w.heap.size 51 ?hg (N:=34) ?hd (w0:=w) (xs:=([]:List S51)) (inner:=[]) (ok:=fun _=>True) (okp:=fun _=>True) ?hr ?hp (fun _ hk=>hk) trivial (by repeat (exact Below.refl _ _)) (Below.size (show Below w.heap.size w _ from by repeat (exact Below.refl _ _))) (by simp) ?_;(case hd=>rfl);(case hg=>rfl);(case hr=>(go_simp;done));(case hp=>exact (Reps.none _ _));intro vL wL hoL hbL hg_ hnew_;clear hg_ hnew_;have HOL:=ζa hoL;have HBL:=ζa hbL;clear hoL hbL))
     have HBF:=ζa (δr HB0.out HBL.out)
     go_ret2
     exact ⟨_,rfl,(by have:=Kd.R_lower HOL.out HB0.out.size;repeat (exact this)),(by repeat (exact HBF.out))⟩
    ·
     rw [if_neg cc4] at h
     have HH:=ζa h
     clear h
     have f4a:decide ((65536:Int)<(denom.size:Int))=φ:=decide_eq_false cc4
     have f4b:decide (65536<denom.size)=φ:=decide_eq_false (by omega)
     have C4:=ζa cc4
     clear cc4
     have h:=HH.out
     clear HH
     obtain ⟨c8,h5_,h⟩:=Option.bind_eq_some_iff.mp h
     have HH:=ζa h
     have H5:=ζa h5_
     clear h h5_
     go_wp2_with fail
     refine (spec_l08Code.calls k name A_list c_list list c8 _ (by repeat (exact Kd.C_below HR0_list.out HB0.out)) HC0_list.out H5.out).mono ?_
     rintro e w5 ⟨rfl,hb⟩
     have m_:=ζa (δr (by repeat (exact HB0.out)) hb)
     clear hb
     have HB5:=m_
     clear m_
     have h:=HH.out
     clear HH
     by_cases cc6:c8=0
     ·
      rw [if_pos cc6] at h
      have HH:=ζa h
      clear h
      have f6a:(c8 == 0)=τ:=beq_iff_eq.mpr cc6
      have f6b:(c8 != 0)=φ:=bne_eq_false_iff_eq.mpr cc6
      have C6:=ζa cc6
      clear cc6
      have h:=HH.out
      clear HH
      obtain ⟨⟨o9,x1_⟩,h7_,h⟩:=Option.bind_eq_some_iff.mp h
      have HH:=ζa h
      have H7:=ζa h7_
      clear h h7_
      go_wp2_with fail
      refine (spec_l10SwapPool.calls k name A_list c_list list who denom n least o9 x1_ _ (by repeat (exact Kd.C_below HR0_list.out HB5.out)) HC0_list.out H7.out).mono ?_
      rintro e w7 ⟨v7,rfl,ho,hb⟩
      have hsf:=Sf.trans (by exact ⟨Or.inl ⟨rfl,rfl⟩⟩) ho hb (Below.size (show Below w.heap.size w _ from by repeat (exact HB5.out)))
      obtain ⟨adr7,cap7,rfl,hl7,hq7⟩:=Sf.reads ho (Kd.C_below HR0_list.out (δr (by repeat (exact HB5.out)) hb)) HC0_list.out
      have HC7:=ζa hl7
      have HRn7:=ζa hq7
      have HS7:=ζa hsf
      clear hl7 hq7 ho hsf
      have m_:=ζa (δr (by repeat (exact HB5.out)) hb)
      clear hb
      have HB7:=m_
      clear m_
      have h:=HH.out
      clear HH
      by_cases cc8:o9.length≤1000000
      ·
       rw [if_pos cc8] at h
       have HH:=ζa h
       clear h
       have f8a:decide (o9.length≤1000000)=τ:=decide_eq_true cc8
       have C8:=ζa cc8
       clear cc8
       have h:=HH.out
       clear HH
       simp only [Option.some.injEq,Prod.mk.injEq] at h
       obtain ⟨rfl,rfl⟩:=h
       go_wp2_with (first|((with_reducible refine δx (N:=52) rfl ?_);refine Kd.R_lit k51 w7.heap.size 51 ?hg (N:=52) ?hd (w0:=w7) (xs:=([]:List S51)) (inner:=[]) (ok:=fun _=>True) (okp:=fun _=>True) ?hr ?hp (fun _ hk=>hk) trivial (by repeat (exact Below.refl _ _)) (Below.size (show Below w7.heap.size w7 _ from by repeat (exact Below.refl _ _))) (by simp) ?_;(case hd=>rfl);(case hg=>rfl);(case hr=>(go_simp;done));(case hp=>exact (Reps.none _ _));intro vL wL hoL hbL hg_ hnew_;clear hg_ hnew_;have HOL:=ζa hoL;have HBL:=ζa hbL;clear hoL hbL)|((with_reducible refine δx (N:=54) rfl ?_);refine Kd.R_append_rows (w0:=w7) (Rr:=k51.K wL) k51 w7.heap.size ?hg (.tmp 52) (.tmp 53) 24 51 (.agg #[(.string ⟨#[]⟩),(.string ⟨#[]⟩)]) 32 rfl Tryz.underlying24 info51 rfl (by decide) (by decide) vL [] o9 adr7 _ cap7 (fun _=>True) (fun _=>False) rfl rfl HOL.out (Kd.C_below HRn7.out HBL.out) (fun x cs h=>by rw [k51_open h];exact k51_mkM _ _ _ x) (fun _ h=>h.elim) (fun _ _=>trivial) HBL.out HBL.out.size (by have:=C8.out;simp only [List.length_nil];omega) ?_;(case hg=>rfl);intro vM wM hoM hbM hg_ hnew_;clear hg_ hnew_;have HOM:=ζa hoM;have HBM:=ζa hbM;clear hoM hbM))
       have HBF:=ζa (δr HB7.out HBM.out)
       go_ret2
       exact ⟨_,rfl,(by have:=Kd.R_lower HOM.out HB7.out.size;repeat (exact this)),(by repeat (exact HBF.out))⟩
      ·
       rw [if_neg cc8] at h
       have HH:=ζa h
       clear h
       have f8a:decide (o9.length≤1000000)=φ:=decide_eq_false cc8
       have C8:=ζa cc8
       clear cc8
       exact absurd HH.out (by simp)
     ·
      rw [if_neg cc6] at h
      have HH:=ζa h
      clear h
      have f6a:(c8 == 0)=φ:=beq_eq_false_iff_ne.mpr cc6
      have f6b:(c8 != 0)=τ:=bne_iff_ne.mpr cc6
      have C6:=ζa cc6
      clear cc6
      have h:=HH.out
      clear HH
      simp only [Option.some.injEq,Prod.mk.injEq] at h
      obtain ⟨rfl,rfl⟩:=h
      go_wp2_with (((with_reducible refine δx (N:=40) rfl ?_);refine Kd.R_lit k51 w5.heap.size 51 ?hg (N:=40) ?hd (w0:=w5) (xs:=([]:List S51)) (inner:=[]) (ok:=fun _=>True) (okp:=fun _=>True) ?hr ?hp (fun _ hk=>hk) trivial (by repeat (exact Below.refl _ _)) (Below.size (show Below w5.heap.size w5 _ from by repeat (exact Below.refl _ _))) (by simp) ?_;(case hd=>rfl);(case hg=>rfl);(case hr=>(go_simp;done));(case hp=>exact (Reps.none _ _));intro vL wL hoL hbL hg_ hnew_;clear hg_ hnew_;have HOL:=ζa hoL;have HBL:=ζa hbL;clear hoL hbL))
      have HBF:=ζa (δr HB5.out HBL.out)
      go_ret2
      exact ⟨_,rfl,(by have:=Kd.R_lower HOL.out HB5.out.size;repeat (exact this)),(by repeat (exact HBF.out))⟩



/-! ### slices_IndexFunc_string_string: function 168 -/
/-- slices.IndexFunc over texts,at a plain predicate that captures nothing. -/
theorem slices_IndexFunc_string_string.at_ (g:Nat) (eg : ∀ args w,(callFunc g args).run Tryz.prog w = .ok (.enter g args) w) (p:ByteArray→Bool)
  (hp : ∀ x W,Calls Tryz.prog g #[.string x] W fun e W'=>e = .returned (.bool (p x))∧Drawn0 W W')
  (A0:Option Addr) (c0:Nat) (l0:List ByteArray) (w:World) (hr0:Kd.C Kd.string w A0 l0.length l0) :
  Calls Tryz.prog 168 #[.slice A0 l0.length c0,.func (.func g) #[] #[]] w fun e w'=>(∃ r:Int,e = .returned (.int .i64 r)∧Aside0 (decide (0≤r)=l0.any p))∧Drawn0 w w':=by
 have HR0:=ζa hr0
 have hmax:l0.length≤9223372036854775807:=hr0.2.1
 clear hr0
 go_enter Tryz.func168,Tryz.ntmps168
 go_wp2
 go_loopg [5,8] l0.length (fun gg _ s8 wr => ∃ kk:Nat,kk≤l0.length∧l0.length - kk≤gg∧s8 = .int .i64 kk∧Aside0 ((l0.take kk).any p=φ)∧Drawn0 w wr)
 case atStart=>exact ⟨0,Nat.zero_le _,by omega,rfl,⟨rfl⟩,by repeat (exact Drawn0.refl _)⟩
 case round =>
  obtain ⟨kk,hkk,hg,rfl,A,⟨m1,rfl⟩⟩:=hrel
  by_cases hlt:kk<l0.length
  ·
   have hltz:(kk:Int)<(l0.length:Int):=by omega
   have p145:0≤(kk:Int):=by omega
   obtain ⟨ad145,e145,hx145_0⟩:=Kd.at_string HR0.out kk p145 hltz
   cases e145
   rw [Int.toNat_natCast] at hx145_0
   have hT:Aside0 ((l0.take (kk+1)).any p=p (rdOf ByteArray.empty l0 kk)):=⟨by
    have hx:l0[kk]? = some (rdOf ByteArray.empty l0 kk):=by
     simp only [rdOf,Int.toNat_natCast,List.getD_eq_getElem?_getD]
     rw [List.getElem?_eq_getElem hlt];rfl
    rw [List.take_add_one,hx,List.any_append,A.out];simp⟩
   generalize rdOf ByteArray.empty l0 kk=x at *
   have hcall:=hp x
   clear hp
   cases hq:p x with
   | true =>
    rw [hq] at hcall hT
    clear hq
    go_wp2_with (go_at_fn g;refine (hcall _).mono ?_;rintro e w' ⟨rfl,⟨q',rfl⟩⟩)
    go_ret
    refine ⟨⟨_,rfl,⟨?_⟩⟩,by repeat (first|exact Drawn0.refl _|apply Drawn0.step)⟩
    have h2:l0.any p=τ:=by
     have:=hT.out
     rw [← List.take_append_drop (kk+1) l0,List.any_append,this];rfl
    rw [h2];simp
   | false =>
    rw [hq] at hcall hT
    clear hq
    go_wp2_with (go_at_fn g;refine (hcall _).mono ?_;rintro e w' ⟨rfl,⟨q',rfl⟩⟩)
    go_roundg (l0.length - (kk+1))
    case measure=>omega
    case rel=>exact ⟨kk+1,by omega,by omega,by go_num,hT,by repeat (first|exact Drawn0.refl _|apply Drawn0.step)⟩
  ·
   have hltz : ¬ (kk:Int)<(l0.length:Int):=by omega
   have hkl:Aside0 (kk=l0.length):=⟨by omega⟩
   go_wp2
   go_ret
   refine ⟨⟨_,rfl,⟨?_⟩⟩,by repeat (first|exact Drawn0.refl _|apply Drawn0.step)⟩
   have:=A.out
   rw [hkl.out,List.take_length] at this
   rw [this];rfl



/-! ### slices_ContainsFunc_string_string: function 112 -/
theorem slices_ContainsFunc_string_string.at_ (g:Nat) (eg : ∀ args w,(callFunc g args).run Tryz.prog w = .ok (.enter g args) w) (p:ByteArray→Bool)
  (hp : ∀ x W,Calls Tryz.prog g #[.string x] W fun e W'=>e = .returned (.bool (p x))∧Drawn0 W W')
  (A0:Option Addr) (c0:Nat) (l0:List ByteArray) (w:World) (hr0:Kd.C Kd.string w A0 l0.length l0) :
  Calls Tryz.prog 112 #[.slice A0 l0.length c0,.func (.func g) #[] #[]] w fun e w'=>e = .returned (.bool (l0.any p))∧Drawn0 w w':=by
 go_enter Tryz.func112,Tryz.ntmps112
 go_wp2_with (go_at_call 168;refine (slices_IndexFunc_string_string.at_ g eg p hp A0 c0 l0 _ hr0).mono ?_;rintro e w' ⟨⟨r,rfl,hr⟩,⟨q',rfl⟩⟩)
 go_ret
 exact ⟨by rw [← hr.out];rfl,by repeat (first|exact Drawn0.refl _|apply Drawn0.step)⟩



/-! ### impl_isText: function 61 -/
def impl_isText.f (l0:List ByteArray):Option Bool:=some (!(l0.any fun t=>decide ((t.size:Int) > 65536)))
theorem impl_isText.lit (a0:ByteArray) (w:World) :
  Calls Tryz.prog 113 #[.string a0] w fun e w'=>e = .returned (.bool (decide ((a0.size:Int) > 65536)))∧Drawn0 w w':=by
 go_enter Tryz.func113,Tryz.ntmps113
 go_wp2
 go_ret
 exact ⟨by rfl,by repeat (exact Drawn0.refl _)⟩
theorem impl_isText.calls (A0:Option Addr) (c0:Nat) (l0:List ByteArray) (r:Bool) (w:World) (hr0:Kd.C Kd.string w A0 l0.length l0) (hc0:l0.length≤c0) (h:impl_isText.f l0=some r) :
  Calls Tryz.prog 61 #[.slice A0 l0.length c0] w fun e w'=>e = .returned (.bool r)∧Drawn0 w w':=by
 obtain rfl:=Option.some.inj h
 go_enter Tryz.func61,Tryz.ntmps61
 go_wp2_with (go_at_call 112;refine (slices_ContainsFunc_string_string.at_ 113 (enters_of Tryz.func113 (by kernel_rfl) rfl) _ impl_isText.lit A0 c0 l0 _ hr0).mono ?_;rintro e w' ⟨rfl,⟨q',rfl⟩⟩)
 go_ret
 exact ⟨rfl,by repeat (first|exact Drawn0.refl _|apply Drawn0.step)⟩



/-! ### impl_isChain: function 64 -/
def impl_isChain.f (a0:ByteArray):Option (Bool):=if a0.toList=([120]:List UInt8) then (some τ) else (some (a0.toList == ([121]:List UInt8)))
set_option maxHeartbeats 8000000 in
set_option maxRecDepth 100000 in
theorem impl_isChain.calls (a0:ByteArray) (r:Bool) (w:World) (h:impl_isChain.f a0=some r) :
  Calls Tryz.prog 64 #[.string a0] w fun e w'=>e = .returned (.bool r)∧Drawn0 w w':=by
 have H:(if a0.toList=([120]:List UInt8) then (some τ) else (some (a0.toList == ([121]:List UInt8))))=some r:=h
 clear h
 by_cases c2:a0.toList=([120]:List UInt8)
 ·
  rw [if_pos c2] at H
  have c2b0:(a0.toList == ([120]:List UInt8))=τ:=beq_iff_eq.mpr c2
  have c2b1:(a0.toList != ([120]:List UInt8))=φ:=bne_eq_false_iff_eq.mpr c2
  clear c2
  obtain rfl:=Option.some.inj H
  go_enter Tryz.func64,Tryz.ntmps64
  go_wp2
  go_ret
  exact ⟨by rfl,by repeat (exact Drawn0.refl _)⟩
 ·
  rw [if_neg c2] at H
  have c2b0:(a0.toList == ([120]:List UInt8))=φ:=beq_eq_false_iff_ne.mpr c2
  have c2b1:(a0.toList != ([120]:List UInt8))=τ:=bne_iff_ne.mpr c2
  obtain rfl:=Option.some.inj H
  go_enter Tryz.func64,Tryz.ntmps64
  go_wp2
  go_ret
  exact ⟨by rfl,by repeat (exact Drawn0.refl _)⟩



/-! ### impl_isList_impl_Pair: function 80 -/
def impl_isList_impl_Pair.f (l0:List (S51)):Option (Bool):=some (decide ((l0.length:Int)≤4096))
set_option maxHeartbeats 8000000 in
set_option maxRecDepth 100000 in
theorem impl_isList_impl_Pair.calls (A0:Option Addr) (c0:Nat) (l0:List (S51)) (r:Bool) (w:World) (hr0:Kd.C k51 w A0 l0.length l0) (hc0:l0.length≤c0) (h:impl_isList_impl_Pair.f l0=some r) :
  Calls Tryz.prog 80 #[.slice A0 l0.length c0] w fun e w'=>e = .returned (.bool r)∧Drawn0 w w':=by
 have HR0:=ζa hr0
 have HC0:=ζa hc0
 clear hr0 hc0
 have H:(some (decide ((l0.length:Int)≤4096)))=some r:=h
 clear h
 obtain rfl:=Option.some.inj H
 go_enter Tryz.func80,Tryz.ntmps80
 go_wp2
 go_ret
 exact ⟨by rfl,by repeat (exact Drawn0.refl _)⟩



/-! ### impl_within: function 161 -/
def impl_within.f (a0:Int) (a1:Int) (a2:Int):Option (Bool):=if a0 ≥ a1 then (some (decide (a0≤a2))) else (some φ)
set_option maxHeartbeats 8000000 in
set_option maxRecDepth 100000 in
theorem impl_within.calls (a0:Int) (a1:Int) (a2:Int) (r:Bool) (w:World) (h:impl_within.f a0 a1 a2=some r) :
  Calls Tryz.prog 161 #[.int .i64 a0,.int .i64 a1,.int .i64 a2] w fun e w'=>e = .returned (.bool r)∧Drawn0 w w':=by
 have H:(if a0 ≥ a1 then (some (decide (a0≤a2))) else (some φ))=some r:=h
 clear h
 by_cases c4:a0 ≥ a1
 ·
  rw [if_pos c4] at H
  have c4b0:decide (a1≤a0)=τ:=decide_eq_true c4
  clear c4
  obtain rfl:=Option.some.inj H
  go_enter Tryz.func161,Tryz.ntmps161
  go_wp2
  go_ret
  exact ⟨by rfl,by repeat (exact Drawn0.refl _)⟩
 ·
  rw [if_neg c4] at H
  have c4b0:decide (a1≤a0)=φ:=decide_eq_false c4
  clear c4
  obtain rfl:=Option.some.inj H
  go_enter Tryz.func161,Tryz.ntmps161
  go_wp2
  go_ret
  exact ⟨by rfl,by repeat (exact Drawn0.refl _)⟩



/-! ### impl_isKey: function 138 -/
def impl_isKey.f (a0:ByteArray):Option (Bool):=(impl_within.f (a0.size:Int) 1 60).bind fun t152=>(some t152)
set_option maxHeartbeats 8000000 in
set_option maxRecDepth 100000 in
theorem impl_isKey.calls (a0:ByteArray) (r:Bool) (w:World) (h:impl_isKey.f a0=some r) :
  Calls Tryz.prog 138 #[.string a0] w fun e w'=>e = .returned (.bool r)∧Drawn0 w w':=by
 have H:((impl_within.f (a0.size:Int) 1 60).bind fun t152=>(some t152))=some r:=h
 clear h
 replace H:=Option.bind_eq_some_iff.mp H
 obtain ⟨t152,A20,H⟩:=H
 replace H:(some t152)=some r:=H
 have A2:=ζa A20
 clear A20
 obtain rfl:=Option.some.inj H
 go_enter Tryz.func138,Tryz.ntmps138
 go_wp2_with (((with_reducible refine δv (f:=161) rfl ?_);refine goesL_ (some 5) rfl rfl Tryz.func161 (by kernel_rfl) rfl #[.int .i64 (a0.size:Int),.int .i64 1,.int .i64 60] rfl (by (try simp only [δd,δe,δf]);rfl) ?_;(with_reducible refine (impl_within.calls (a0.size:Int) 1 60 t152 _ A2.out).mono ?_);rintro e w' ⟨rfl,⟨nd,rfl⟩⟩;refine ⟨_,rfl,?_⟩))
 go_ret
 exact ⟨by rfl,by repeat (first|exact Drawn0.refl _|apply Drawn0.step)⟩



/-! ### impl_isValue: function 139 -/
def impl_isValue.f (a0:ByteArray):Option (Bool):=some (decide ((a0.size:Int)≤1000))
set_option maxHeartbeats 8000000 in
set_option maxRecDepth 100000 in
theorem impl_isValue.calls (a0:ByteArray) (r:Bool) (w:World) (h:impl_isValue.f a0=some r) :
  Calls Tryz.prog 139 #[.string a0] w fun e w'=>e = .returned (.bool r)∧Drawn0 w w':=by
 have H:(some (decide ((a0.size:Int)≤1000)))=some r:=h
 clear h
 obtain rfl:=Option.some.inj H
 go_enter Tryz.func139,Tryz.ntmps139
 go_wp2
 go_ret
 exact ⟨by rfl,by repeat (exact Drawn0.refl _)⟩


open Go.Proofs.YtabmfhnhmoiljaaGreatDoorW.PrintWords renaming below_alloc → δk, pw_below_drewN → δi, below_drew1 → δj

/-! ### impl_StoreOK: function 81 -/
def impl_StoreOK.l0:Nat→List (S51)→List (S51)→Int→Int→Option (Bool)
 | 0,_,_,_,_=>none
 | k+1,x0,x5,x6,x7=>if x7<x6 then (if 0≤x7 then (if x7<(x5.length:Int) then ((impl_isKey.f ((rd_T51 x5 x7).f0)).bind fun t137=>(if t137=τ then ((impl_isValue.f ((rd_T51 x5 x7).f1)).bind fun t138=>(if t138=τ then (if x7 > 0 then (if 0≤(ζm (x7 - 1)) then (if (ζm (x7 - 1))<(x0.length:Int) then (if ((Op.bytesLess (((rd_T51 x0 (ζm (x7 - 1))).f0).toList) (((rd_T51 x5 x7).f0).toList))=τ) then (impl_StoreOK.l0 k x0 x5 x6 (ζm (x7+1))) else (some φ)) else (none)) else (none)) else (impl_StoreOK.l0 k x0 x5 x6 (ζm (x7+1)))) else (some φ))) else (some φ))) else (none)) else (none)) else (some (decide ((x0.length:Int)≤400)))
def impl_StoreOK.f (k:Nat) (l0:List (S51)):Option (Bool):=impl_StoreOK.l0 k l0 l0 (l0.length:Int) 0
theorem impl_StoreOK.geq (t:TypeId) (a b:ByteArray):binOp .geq t (.string a) (.string b)=pure (.bool !(Op.bytesLess a.toList b.toList)):=by simp [binOp,Op.stringOp]
attribute [local go_sem] impl_StoreOK.geq
set_option maxHeartbeats 8000000 in
set_option maxRecDepth 100000 in
theorem impl_StoreOK.calls (k:Nat) (A0:Option Addr) (c0:Nat) (l0:List (S51)) (r:Bool) (w:World) (hr0:Kd.C k51 w A0 l0.length l0) (hc0:l0.length≤c0) (h:impl_StoreOK.f k l0=some r) :
  Calls Tryz.prog 81 #[.slice A0 l0.length c0] w fun e w'=>e = .returned (.bool r)∧Below w.heap.size w w':=by
 have hu78:=Tryz.underlying51
 have HR0:=ζa hr0
 clear hr0 hc0
 have HB:=ζa (Below.refl w.heap.size w)
 have H':=ζa (show impl_StoreOK.l0 k l0 l0 (l0.length:Int) 0=some r from h)
 clear h
 go_enter Tryz.func81,Tryz.ntmps81
 go_wp2
 go_loopg [7] k (fun kq v7 w' => ∃ i:Int,v7 = .int .i64 i∧Aside0 (impl_StoreOK.l0 kq l0 l0 (l0.length:Int) i=some r)∧Aside0 (kq≤k)∧Aside0 (Below w.heap.size w w'))
 case atStart=>exact ⟨0,(by rfl),H',⟨Nat.le_refl _⟩,HB⟩
 case round =>
  clear H' HB
  obtain ⟨i,rfl,HA,HK1,HB⟩:=hrel
  cases gk with
  | zero=>exact absurd HA.out (by simp [impl_StoreOK.l0])
  | succ k1 =>
   have H:=HA.out
   clear HA
   simp only [impl_StoreOK.l0] at H
   by_cases c2:i<(l0.length:Int)
   ·
    rw [if_pos c2] at H
    have c2b0:decide (i<(l0.length:Int))=τ:=decide_eq_true c2
    by_cases c3:0≤i
    ·
     rw [if_pos c3,if_pos c2] at H
     obtain ⟨ad,e1,hx0,hx1⟩:=at_T51 HR0.out i c3 c2
     cases e1
     replace hx0:=(HB.out.cell (World.block_lt_of_cell? w _ hx0)).trans hx0
     replace hx1:=(HB.out.cell (World.block_lt_of_cell? w _ hx1)).trans hx1
     obtain ⟨b1,h1,H⟩:=Option.bind_eq_some_iff.mp H
     have A5:=ζa h1
     clear h1
     have prev:0<i → ∃ s t:ByteArray,s=(rd_T51 l0 (i - 1)).f0∧w.cell? (ad.add ((i - 1).toNat * 2))=some (.string s)∧t=s:=fun hp=>by
      obtain ⟨ad2,e2,hy0,_⟩:=at_T51 HR0.out (i - 1) (by omega) (by omega)
      obtain rfl:ad=ad2:=by injection e2
      exact ⟨_,_,rfl,hy0,rfl⟩
     have PV:=ζa prev
     clear prev
     have c3b:decide (0≤i)=τ:=decide_eq_true c3
     go_upto_region 4 with (fail)
     have hcz0:(wr.alloc (.cells #[.string (rd_T51 l0 i).f0,.string (rd_T51 l0 i).f1] 51 (0,0))).cell? ⟨wr.heap.size,0,none⟩=some (.string (rd_T51 l0 i).f0):=(World.cell?_alloc_mark wr _ 51 (0,0) 0).trans rfl
     have hcz1:(wr.alloc (.cells #[.string (rd_T51 l0 i).f0,.string (rd_T51 l0 i).f1] 51 (0,0))).cell? ⟨wr.heap.size,1,none⟩=some (.string (rd_T51 l0 i).f1):=(World.cell?_alloc_mark wr _ 51 (0,0) 1).trans rfl
     have PV2:Aside0 (0<i → ∃ s:ByteArray,s=(rd_T51 l0 (i - 1)).f0∧(wr.alloc (.cells #[.string (rd_T51 l0 i).f0,.string (rd_T51 l0 i).f1] 51 (0,0))).cell? (ad.add ((i - 1).toNat * 2))=some (.string s)):=⟨fun hp=>by
      obtain ⟨s,_,hs,hy,_⟩:=PV.out hp
      exact ⟨s,hs,((HB.out.alloc (HB.out.size) _).cell (World.block_lt_of_cell? w _ hy)).trans hy⟩⟩
     have HB2:=ζa (HB.out.alloc (HB.out.size) (.cells #[.string (rd_T51 l0 i).f0,.string (rd_T51 l0 i).f1] 51 (0,0)))
     clear HB PV hx0 hx1
     generalize wr.alloc (.cells #[.string (rd_T51 l0 i).f0,.string (rd_T51 l0 i).f1] 51 (0,0))=W4 at *
     generalize wr.heap.size=gb at *
     clear c3
     cases b1 with
     | false =>
      obtain rfl:=Option.some.inj H
      go_quiet ((go_at_call 138;(with_reducible refine (impl_isKey.calls _ _ _ A5.out).mono ?_);rintro e w' ⟨rfl,⟨nd,rfl⟩⟩;(try exact ⟨rfl,_,World.drewN_drewN _ _ _⟩)))
      go_wp2
      go_ret
      exact ⟨rfl,by repeat (first|(with_reducible first|exact HB2.out|apply δk|apply δi|apply δj)|exact HB2.out)⟩
     | true =>
      rw [if_pos rfl] at H
      obtain ⟨b2,h2,H⟩:=Option.bind_eq_some_iff.mp H
      have A6:=ζa h2
      clear h2
      cases b2 with
      | false =>
       obtain rfl:=Option.some.inj H
       go_quiet (first|(go_at_call 138;(with_reducible refine (impl_isKey.calls _ _ _ A5.out).mono ?_);rintro e w' ⟨rfl,⟨nd,rfl⟩⟩;(try exact ⟨rfl,_,World.drewN_drewN _ _ _⟩))|(go_at_call 139;(with_reducible refine (impl_isValue.calls _ _ _ A6.out).mono ?_);rintro e w' ⟨rfl,⟨nd,rfl⟩⟩;(try exact ⟨rfl,_,World.drewN_drewN _ _ _⟩)))
       go_wp2
       go_ret
       exact ⟨rfl,by repeat (first|(with_reducible first|exact HB2.out|apply δk|apply δi|apply δj)|exact HB2.out)⟩
      | true =>
       rw [if_pos rfl] at H
       have hmax:(l0.length:Int)≤9223372036854775807:=by have:=Kd.C_max HR0.out;omega
       have hmx:=ζa hmax
       clear hmax
       by_cases c4:i > 0
       ·
        have hw1:IntKind.i64.wrap (i - 1)=i - 1:=IntWalk.i64_in _ (by have:=hmx.out;omega)
        have hw2:ζm (i - 1)=i - 1:=IntWalk.wrap64_in _ (by have:=hmx.out;omega)
        rw [if_pos c4,hw2,if_pos (by omega),if_pos (by omega)] at H
        obtain ⟨s,hs,hy⟩:=PV2.out c4
        rw [← hs] at H
        have c4b0:decide (i > 0)=τ:=decide_eq_true c4
        have c4b1:decide (0<i)=τ:=decide_eq_true c4
        have c5:0≤i - 1:=by omega
        have c6:i - 1<(l0.length:Int):=by omega
        clear c4 PV2 hs c2 hw2
        obtain ⟨j,hj⟩ : ∃ j,j=i - 1:=⟨_,rfl⟩
        rw [← hj] at hy c5 c6
        replace hw1:=hw1.trans hj.symm
        clear hj
        have c5b:decide (0≤j)=τ:=decide_eq_true c5
        have c6b:decide (j<(l0.length:Int))=τ:=decide_eq_true c6
        cases hb:Op.bytesLess s.toList ((rd_T51 l0 i).f0).toList with
        | false =>
         rw [hb] at H
         obtain rfl:=Option.some.inj H
         go_quiet (first|(go_at_call 138;(with_reducible refine (impl_isKey.calls _ _ _ A5.out).mono ?_);rintro e w' ⟨rfl,⟨nd,rfl⟩⟩;(try exact ⟨rfl,_,World.drewN_drewN _ _ _⟩))|(go_at_call 139;(with_reducible refine (impl_isValue.calls _ _ _ A6.out).mono ?_);rintro e w' ⟨rfl,⟨nd,rfl⟩⟩;(try exact ⟨rfl,_,World.drewN_drewN _ _ _⟩)))
         go_wp2
         go_ret
         exact ⟨rfl,by repeat (first|(with_reducible first|exact HB2.out|apply δk|apply δi|apply δj)|exact HB2.out)⟩
        | true =>
         rw [hb,if_pos rfl] at H
         have HN:=ζa H
         clear H
         go_quiet (first|(go_at_call 138;(with_reducible refine (impl_isKey.calls _ _ _ A5.out).mono ?_);rintro e w' ⟨rfl,⟨nd,rfl⟩⟩;(try exact ⟨rfl,_,World.drewN_drewN _ _ _⟩))|(go_at_call 139;(with_reducible refine (impl_isValue.calls _ _ _ A6.out).mono ?_);rintro e w' ⟨rfl,⟨nd,rfl⟩⟩;(try exact ⟨rfl,_,World.drewN_drewN _ _ _⟩)))
         go_wp2
         go_roundg k1
         case measure=>omega
         case rel=>exact ⟨_,rfl,HN,⟨by have:=HK1.out;omega⟩,⟨by repeat ((with_reducible first|exact HB2.out|apply δi))⟩⟩
       ·
        rw [if_neg c4] at H
        have c4b0:decide (i > 0)=φ:=decide_eq_false c4
        have c4b1:decide (0<i)=φ:=decide_eq_false c4
        clear c4 c2 PV2
        have HN:=ζa H
        clear H
        go_quiet (first|(go_at_call 138;(with_reducible refine (impl_isKey.calls _ _ _ A5.out).mono ?_);rintro e w' ⟨rfl,⟨nd,rfl⟩⟩;(try exact ⟨rfl,_,World.drewN_drewN _ _ _⟩))|(go_at_call 139;(with_reducible refine (impl_isValue.calls _ _ _ A6.out).mono ?_);rintro e w' ⟨rfl,⟨nd,rfl⟩⟩;(try exact ⟨rfl,_,World.drewN_drewN _ _ _⟩)))
        go_wp2
        go_roundg k1
        case measure=>omega
        case rel=>exact ⟨_,rfl,HN,⟨by have:=HK1.out;omega⟩,⟨by repeat ((with_reducible first|exact HB2.out|apply δi))⟩⟩
    ·
     rw [if_neg c3] at H
     exact absurd H (by simp)
   ·
    rw [if_neg c2] at H
    have c2b0:decide (i<(l0.length:Int))=φ:=decide_eq_false c2
    clear c2
    obtain rfl:=Option.some.inj H
    go_wp2
    go_ret
    exact ⟨by rfl,HB.out⟩


open Go.Proofs.YtabmfhnhmoiljaaGreatDoorW.PrintWords renaming gate_dst → δx, below_size → δs, below_step → δr, gate_callee → δv, pw_below_drewN → δi
open Go.Proofs.YtabmfhnhmoiljaaGreatDoorW.PrintWords.Kd renaming R_reads' → ζg

/-! ### impl_nameCode: function 45 -/
def impl_nameCode.j0:Nat→ByteArray→List (S51)→Bool→Option (Int)
 | 0,_,_,_=>none
 | k+1,x0,x1,x7=>if x7=τ then (some 2) else ((impl_isChain.f x0).bind fun t159=>(if t159=τ then ((impl_StoreOK.f k x1).bind fun t160=>(if t160=τ then (some 0) else (some 1))) else (some 1)))
def impl_nameCode.f (k:Nat) (a0:ByteArray) (l1:List (S51)) (l2:List ByteArray):Option (Int):=(impl_isText.f (([a0]:List ByteArray))).bind fun t156=>(if t156=τ then ((impl_isList_impl_Pair.f l1).bind fun t157=>(if t157=τ then ((impl_isText.f l2).bind fun t158=>(impl_nameCode.j0 k a0 l1 (!t158))) else (impl_nameCode.j0 k a0 l1 τ))) else (impl_nameCode.j0 k a0 l1 τ))
set_option maxHeartbeats 8000000 in
set_option maxRecDepth 100000 in
theorem impl_nameCode.calls (k:Nat) (a0:ByteArray) (A1:Option Addr) (c1:Nat) (l1:List (S51)) (A2:Option Addr) (c2:Nat) (l2:List ByteArray) (r:Int) (w:World) (hr1:Kd.C k51 w A1 l1.length l1) (hc1:l1.length≤c1) (hr2:Kd.C Kd.string w A2 l2.length l2) (hc2:l2.length≤c2) (h:impl_nameCode.f k a0 l1 l2=some r) :
  Calls Tryz.prog 45 #[.string a0,.slice A1 l1.length c1,.slice A2 l2.length c2] w fun e w'=>e = .returned (.int .i64 r)∧Below w.heap.size w w':=by
 have HR1:=ζa hr1
 have HC1:=ζa hc1
 clear hr1 hc1
 have HR2:=ζa hr2
 have HC2:=ζa hc2
 clear hr2 hc2
 have HB:=ζa (Below.refl w.heap.size w)
 have H:((impl_isText.f (([a0]:List ByteArray))).bind fun t156=>(if t156=τ then ((impl_isList_impl_Pair.f l1).bind fun t157=>(if t157=τ then ((impl_isText.f l2).bind fun t158=>(impl_nameCode.j0 k a0 l1 (!t158))) else (impl_nameCode.j0 k a0 l1 τ))) else (impl_nameCode.j0 k a0 l1 τ)))=some r:=h
 clear h
 have HC4:=ζa H
 clear H
 go_enter Tryz.func45,Tryz.ntmps45
 go_upto_region 1 with (fail)
 go_cut [7] (fun v7 wc => ∃ (kq:Nat) (x7_3:Bool),v7 = .bool x7_3∧Aside0 (impl_nameCode.j0 kq a0 l1 x7_3=some r)∧Aside0 (kq≤k)∧Aside0 (Below w.heap.size w wc))
 case first =>
  have H:=HC4.out
  clear HC4
  obtain ⟨y153,hy153⟩ : ∃ y_:List ByteArray,y_=(([a0]:List ByteArray)):=⟨_,rfl⟩
  replace H:((impl_isText.f y153).bind fun t156=>(if t156=τ then ((impl_isList_impl_Pair.f l1).bind fun t157=>(if t157=τ then ((impl_isText.f l2).bind fun t158=>(impl_nameCode.j0 k a0 l1 (!t158))) else (impl_nameCode.j0 k a0 l1 τ))) else (impl_nameCode.j0 k a0 l1 τ)))=some r:=by (rw [hy153];with_reducible exact H)
  have Ny153:=ζa hy153
  clear hy153
  replace H:=Option.bind_eq_some_iff.mp H
  obtain ⟨t156,A50,H⟩:=H
  replace H:(if t156=τ then ((impl_isList_impl_Pair.f l1).bind fun t157=>(if t157=τ then ((impl_isText.f l2).bind fun t158=>(impl_nameCode.j0 k a0 l1 (!t158))) else (impl_nameCode.j0 k a0 l1 τ))) else (impl_nameCode.j0 k a0 l1 τ))=some r:=H
  have A5:=ζa A50
  clear A50
  by_cases c6:t156=τ
  ·
   subst c6
   have H1:((impl_isList_impl_Pair.f l1).bind fun t157=>(if t157=τ then ((impl_isText.f l2).bind fun t158=>(impl_nameCode.j0 k a0 l1 (!t158))) else (impl_nameCode.j0 k a0 l1 τ)))=some r:=by rw [if_pos rfl] at H;exact H
   clear H
   have H:=H1
   clear H1
   replace H:=Option.bind_eq_some_iff.mp H
   obtain ⟨t157,A70,H⟩:=H
   replace H:(if t157=τ then ((impl_isText.f l2).bind fun t158=>(impl_nameCode.j0 k a0 l1 (!t158))) else (impl_nameCode.j0 k a0 l1 τ))=some r:=H
   have A7:=ζa A70
   clear A70
   by_cases c8:t157=τ
   ·
    subst c8
    have H1:((impl_isText.f l2).bind fun t158=>(impl_nameCode.j0 k a0 l1 (!t158)))=some r:=by rw [if_pos rfl] at H;exact H
    clear H
    have H:=H1
    clear H1
    replace H:=Option.bind_eq_some_iff.mp H
    obtain ⟨t158,A90,H⟩:=H
    replace H:(impl_nameCode.j0 k a0 l1 (!t158))=some r:=H
    have A9:=ζa A90
    clear A90
    have H':=ζa H
    clear H
    go_wp2_with (first|((with_reducible refine δx (N:=9) rfl ?_);refine Kd.R_lit Kd.string _ 9 ?hg (N:=9) ?hd (xs:=([a0]:List ByteArray)) (inner:=[.string a0]) (ok:=fun _=>True) (okp:=fun _=>True) ?hr ?hp (fun _ hk=>hk) trivial (Below.refl _ _) (Nat.le_refl _) (by simp) ?_;(case hd=>rfl);(case hg=>rfl);(case hr=>(go_simp;done));(case hp=>exact (Reps.one (show Kd.M Kd.string _ _ _ a0 [.string a0] from rfl) (Reps.none _ _)));intro v154 w10 ho11 hb hg_ hnew_;clear hg_ hnew_;(rw [← Ny153.out] at ho11);have HO155:=ζa (Kd.R_lower ho11 (δs (by exact HB.out)));replace HB:=ζa (δr (by exact HB.out) hb);clear hb ho11;obtain ⟨Ao12,co12,eo12⟩:=Kd.R_slice HO155.out;subst eo12)|((with_reducible refine δv (f:=61) rfl ?_);refine goesL_ (some 10) rfl rfl Tryz.func61 (by kernel_rfl) rfl #[.slice Ao12 y153.length co12] rfl (by (try simp only [δd,δe,δf]);rfl) ?_;(with_reducible refine (impl_isText.calls _ _ y153 τ _ ?side1 ?side2 A5.out).mono ?_);(case side1=>repeat (exact (ζg HO155.out).2.2));(case side2=>exact (ζg HO155.out).2.1);rintro e w' ⟨rfl,⟨nd,rfl⟩⟩;refine ⟨_,rfl,?_⟩)|(go_at_call 80;(with_reducible refine (impl_isList_impl_Pair.calls _ _ l1 τ _ ?side1 ?side2 A7.out).mono ?_);(case side1=>repeat (exact (Kd.C_below HR1.out (by repeat ((with_reducible first|exact HB.out|apply δi))))));(case side2=>exact HC1.out);rintro e w' ⟨rfl,⟨nd,rfl⟩⟩)|(go_at_call 61;(with_reducible refine (impl_isText.calls _ _ l2 t158 _ ?side1 ?side2 A9.out).mono ?_);(case side1=>repeat (exact (Kd.C_below HR2.out (by repeat ((with_reducible first|exact HB.out|apply δi))))));(case side2=>exact HC2.out);rintro e w' ⟨rfl,⟨nd,rfl⟩⟩))
    go_meet
    case rel=>exact ⟨_,(!t158),(by rfl),H',⟨by omega⟩,⟨by repeat ((with_reducible first|exact HB.out|apply δi))⟩⟩
   ·
    replace c8:=Bool.eq_false_iff.mpr c8
    subst c8
    have H1:(impl_nameCode.j0 k a0 l1 τ)=some r:=by rw [if_neg (show ¬ (φ=τ) by decide)] at H;exact H
    clear H
    have H:=H1
    clear H1
    have H':=ζa H
    clear H
    go_wp2_with (first|((with_reducible refine δx (N:=9) rfl ?_);refine Kd.R_lit Kd.string _ 9 ?hg (N:=9) ?hd (xs:=([a0]:List ByteArray)) (inner:=[.string a0]) (ok:=fun _=>True) (okp:=fun _=>True) ?hr ?hp (fun _ hk=>hk) trivial (Below.refl _ _) (Nat.le_refl _) (by simp) ?_;(case hd=>rfl);(case hg=>rfl);(case hr=>(go_simp;done));(case hp=>exact (Reps.one (show Kd.M Kd.string _ _ _ a0 [.string a0] from rfl) (Reps.none _ _)));intro v154 w13 ho14 hb hg_ hnew_;clear hg_ hnew_;(rw [← Ny153.out] at ho14);have HO155:=ζa (Kd.R_lower ho14 (δs (by exact HB.out)));replace HB:=ζa (δr (by exact HB.out) hb);clear hb ho14;obtain ⟨Ao15,co15,eo15⟩:=Kd.R_slice HO155.out;subst eo15)|((with_reducible refine δv (f:=61) rfl ?_);refine goesL_ (some 10) rfl rfl Tryz.func61 (by kernel_rfl) rfl #[.slice Ao15 y153.length co15] rfl (by (try simp only [δd,δe,δf]);rfl) ?_;(with_reducible refine (impl_isText.calls _ _ y153 τ _ ?side1 ?side2 A5.out).mono ?_);(case side1=>repeat (exact (ζg HO155.out).2.2));(case side2=>exact (ζg HO155.out).2.1);rintro e w' ⟨rfl,⟨nd,rfl⟩⟩;refine ⟨_,rfl,?_⟩)|(go_at_call 80;(with_reducible refine (impl_isList_impl_Pair.calls _ _ l1 φ _ ?side1 ?side2 A7.out).mono ?_);(case side1=>repeat (exact (Kd.C_below HR1.out (by repeat ((with_reducible first|exact HB.out|apply δi))))));(case side2=>exact HC1.out);rintro e w' ⟨rfl,⟨nd,rfl⟩⟩))
    go_meet
    case rel=>exact ⟨_,(τ),(by rfl),H',⟨by omega⟩,⟨by repeat ((with_reducible first|exact HB.out|apply δi))⟩⟩
  ·
   replace c6:=Bool.eq_false_iff.mpr c6
   subst c6
   have H1:(impl_nameCode.j0 k a0 l1 τ)=some r:=by rw [if_neg (show ¬ (φ=τ) by decide)] at H;exact H
   clear H
   have H:=H1
   clear H1
   have H':=ζa H
   clear H
   go_wp2_with (first|((with_reducible refine δx (N:=9) rfl ?_);refine Kd.R_lit Kd.string _ 9 ?hg (N:=9) ?hd (xs:=([a0]:List ByteArray)) (inner:=[.string a0]) (ok:=fun _=>True) (okp:=fun _=>True) ?hr ?hp (fun _ hk=>hk) trivial (Below.refl _ _) (Nat.le_refl _) (by simp) ?_;(case hd=>rfl);(case hg=>rfl);(case hr=>(go_simp;done));(case hp=>exact (Reps.one (show Kd.M Kd.string _ _ _ a0 [.string a0] from rfl) (Reps.none _ _)));intro v154 w16 ho17 hb hg_ hnew_;clear hg_ hnew_;(rw [← Ny153.out] at ho17);have HO155:=ζa (Kd.R_lower ho17 (δs (by exact HB.out)));replace HB:=ζa (δr (by exact HB.out) hb);clear hb ho17;obtain ⟨Ao18,co18,eo18⟩:=Kd.R_slice HO155.out;subst eo18)|((with_reducible refine δv (f:=61) rfl ?_);refine goesL_ (some 10) rfl rfl Tryz.func61 (by kernel_rfl) rfl #[.slice Ao18 y153.length co18] rfl (by (try simp only [δd,δe,δf]);rfl) ?_;(with_reducible refine (impl_isText.calls _ _ y153 φ _ ?side1 ?side2 A5.out).mono ?_);(case side1=>repeat (exact (ζg HO155.out).2.2));(case side2=>exact (ζg HO155.out).2.1);rintro e w' ⟨rfl,⟨nd,rfl⟩⟩;refine ⟨_,rfl,?_⟩))
   go_meet
   case rel=>exact ⟨_,(τ),(by rfl),H',⟨by omega⟩,⟨by repeat ((with_reducible first|exact HB.out|apply δi))⟩⟩
 case rest =>
  clear HC4
  try clear c1
  try clear c2
  try clear p2
  try clear c4
  try clear c6
  try clear c8
  obtain ⟨kq,x7_3,rfl,HA,HJ3,HB⟩:=hcut
  cases kq with
  | zero=>exact absurd HA.out (by simp [impl_nameCode.j0])
  | succ kj3 =>
   have H:=HA.out
   clear HA
   simp only [impl_nameCode.j0] at H
   by_cases c19:x7_3=τ
   ·
    subst c19
    have H1:(some 2)=some r:=by rw [if_pos rfl] at H;exact H
    clear H
    have H:=H1
    clear H1
    obtain rfl:=Option.some.inj H
    go_wp2
    go_ret
    exact ⟨by rfl,by repeat ((with_reducible exact HB.out))⟩
   ·
    replace c19:=Bool.eq_false_iff.mpr c19
    subst c19
    have H1:((impl_isChain.f a0).bind fun t159=>(if t159=τ then ((impl_StoreOK.f kj3 l1).bind fun t160=>(if t160=τ then (some 0) else (some 1))) else (some 1)))=some r:=by rw [if_neg (show ¬ (φ=τ) by decide)] at H;exact H
    clear H
    have H:=H1
    clear H1
    replace H:=Option.bind_eq_some_iff.mp H
    obtain ⟨t159,A200,H⟩:=H
    replace H:(if t159=τ then ((impl_StoreOK.f kj3 l1).bind fun t160=>(if t160=τ then (some 0) else (some 1))) else (some 1))=some r:=H
    have A20:=ζa A200
    clear A200
    by_cases c21:t159=τ
    ·
     subst c21
     have H1:((impl_StoreOK.f kj3 l1).bind fun t160=>(if t160=τ then (some 0) else (some 1)))=some r:=by rw [if_pos rfl] at H;exact H
     clear H
     have H:=H1
     clear H1
     replace H:=Option.bind_eq_some_iff.mp H
     obtain ⟨t160,A220,H⟩:=H
     replace H:(if t160=τ then (some 0) else (some 1))=some r:=H
     have A22:=ζa A220
     clear A220
     by_cases c23:t160=τ
     ·
      subst c23
      have H1:(some 0)=some r:=by rw [if_pos rfl] at H;exact H
      clear H
      have H:=H1
      clear H1
      obtain rfl:=Option.some.inj H
      go_wp2_with (first|((with_reducible refine δv (f:=64) rfl ?_);refine goesL_ (some 24) rfl rfl Tryz.func64 (by kernel_rfl) rfl #[.string a0] rfl (by (try simp only [δd,δe,δf]);rfl) ?_;(with_reducible refine (impl_isChain.calls a0 τ _ A20.out).mono ?_);rintro e w' ⟨rfl,⟨nd,rfl⟩⟩;refine ⟨_,rfl,?_⟩)|(go_at_call 81;(with_reducible refine (impl_StoreOK.calls kj3 _ _ l1 τ _ ?side1 ?side2 A22.out).mono ?_);(case side1=>repeat (exact (Kd.C_below HR1.out (by repeat ((with_reducible first|exact HB.out|apply δi))))));(case side2=>exact HC1.out);rintro e w24 ⟨rfl,hb⟩;replace HB:=ζa (δr (by repeat ((with_reducible first|exact HB.out|apply δi))) hb);(try clear hb);(try clear hb2);(try clear hk);(try clear hi)))
      go_ret
      exact ⟨by rfl,by repeat ((with_reducible exact HB.out))⟩
     ·
      replace c23:=Bool.eq_false_iff.mpr c23
      subst c23
      have H1:(some 1)=some r:=by rw [if_neg (show ¬ (φ=τ) by decide)] at H;exact H
      clear H
      have H:=H1
      clear H1
      obtain rfl:=Option.some.inj H
      go_wp2_with (first|((with_reducible refine δv (f:=64) rfl ?_);refine goesL_ (some 24) rfl rfl Tryz.func64 (by kernel_rfl) rfl #[.string a0] rfl (by (try simp only [δd,δe,δf]);rfl) ?_;(with_reducible refine (impl_isChain.calls a0 τ _ A20.out).mono ?_);rintro e w' ⟨rfl,⟨nd,rfl⟩⟩;refine ⟨_,rfl,?_⟩)|(go_at_call 81;(with_reducible refine (impl_StoreOK.calls kj3 _ _ l1 φ _ ?side1 ?side2 A22.out).mono ?_);(case side1=>repeat (exact (Kd.C_below HR1.out (by repeat ((with_reducible first|exact HB.out|apply δi))))));(case side2=>exact HC1.out);rintro e w25 ⟨rfl,hb⟩;replace HB:=ζa (δr (by repeat ((with_reducible first|exact HB.out|apply δi))) hb);(try clear hb);(try clear hb2);(try clear hk);(try clear hi)))
      go_ret
      exact ⟨by rfl,by repeat ((with_reducible exact HB.out))⟩
    ·
     replace c21:=Bool.eq_false_iff.mpr c21
     subst c21
     have H1:(some 1)=some r:=by rw [if_neg (show ¬ (φ=τ) by decide)] at H;exact H
     clear H
     have H:=H1
     clear H1
     obtain rfl:=Option.some.inj H
     go_wp2_with (((with_reducible refine δv (f:=64) rfl ?_);refine goesL_ (some 24) rfl rfl Tryz.func64 (by kernel_rfl) rfl #[.string a0] rfl (by (try simp only [δd,δe,δf]);rfl) ?_;(with_reducible refine (impl_isChain.calls a0 φ _ A20.out).mono ?_);rintro e w' ⟨rfl,⟨nd,rfl⟩⟩;refine ⟨_,rfl,?_⟩))
     go_ret
     exact ⟨by rfl,by repeat ((with_reducible first|exact HB.out|apply δi))⟩



/-! ### impl_NameOK: function 169 -/
def impl_NameOK.l0:Nat→ByteArray→Int→Int→Option (Bool)
 | 0,_,_,_=>none
 | k+1,x0,x7,x8=>if x8<x7 then (if 0≤x8 then (if x8<(x0.size:Int) then (if (bt x0 x8) ≥ 97 then (if (bt x0 x8)≤122 then (impl_NameOK.l0 k x0 x7 (ζm (x8+1))) else (if (bt x0 x8) ≥ 65 then (if (bt x0 x8)≤90 then (impl_NameOK.l0 k x0 x7 (ζm (x8+1))) else (if ((bt x0 x8)=95) then (impl_NameOK.l0 k x0 x7 (ζm (x8+1))) else (if x8=0 then (some φ) else (if (bt x0 x8)<48 then (some φ) else (if (bt x0 x8) > 57 then (some φ) else (impl_NameOK.l0 k x0 x7 (ζm (x8+1)))))))) else (if ((bt x0 x8)=95) then (impl_NameOK.l0 k x0 x7 (ζm (x8+1))) else (if x8=0 then (some φ) else (if (bt x0 x8)<48 then (some φ) else (if (bt x0 x8) > 57 then (some φ) else (impl_NameOK.l0 k x0 x7 (ζm (x8+1))))))))) else (if (bt x0 x8) ≥ 65 then (if (bt x0 x8)≤90 then (impl_NameOK.l0 k x0 x7 (ζm (x8+1))) else (if ((bt x0 x8)=95) then (impl_NameOK.l0 k x0 x7 (ζm (x8+1))) else (if x8=0 then (some φ) else (if (bt x0 x8)<48 then (some φ) else (if (bt x0 x8) > 57 then (some φ) else (impl_NameOK.l0 k x0 x7 (ζm (x8+1)))))))) else (if ((bt x0 x8)=95) then (impl_NameOK.l0 k x0 x7 (ζm (x8+1))) else (if x8=0 then (some φ) else (if (bt x0 x8)<48 then (some φ) else (if (bt x0 x8) > 57 then (some φ) else (impl_NameOK.l0 k x0 x7 (ζm (x8+1))))))))) else (none)) else (none)) else ((impl_within.f (x0.size:Int) 1 40).bind fun t161=>(some t161))
def impl_NameOK.f (k:Nat) (a0:ByteArray):Option (Bool):=impl_NameOK.l0 k a0 (a0.size:Int) 0
set_option maxHeartbeats 8000000 in
set_option maxRecDepth 100000 in
theorem impl_NameOK.calls (k:Nat) (a0:ByteArray) (r:Bool) (w:World) (h:impl_NameOK.f k a0=some r) :
  Calls Tryz.prog 169 #[.string a0] w fun e w'=>e = .returned (.bool r)∧Drawn0 w w':=by
 have H:(impl_NameOK.l0 k a0 (a0.size:Int) 0)=some r:=h
 clear h
 have H':=ζa H
 clear H
 go_enter Tryz.func169,Tryz.ntmps169
 go_wp2
 go_loopg [8] k (fun kq v8 w' => ∃ (x8_1:Int),v8 = .int .i64 x8_1∧Aside0 (impl_NameOK.l0 kq a0 (a0.size:Int) x8_1=some r)∧Aside0 (kq≤k)∧Drawn0 w w')
 case atStart=>exact ⟨(0),(by rfl),H',⟨Nat.le_refl _⟩,by repeat (exact Drawn0.refl _)⟩
 case round =>
  clear H'
  try clear c1
  obtain ⟨x8_1,rfl,HA,HK1,⟨m1,rfl⟩⟩:=hrel
  cases gk with
  | zero=>exact absurd HA.out (by simp [impl_NameOK.l0])
  | succ k1 =>
   have H:=HA.out
   clear HA
   simp only [impl_NameOK.l0] at H
   by_cases c2:x8_1<(a0.size:Int)
   ·
    rw [if_pos c2] at H
    have c2b0:decide (x8_1<(a0.size:Int))=τ:=decide_eq_true c2
    clear c2
    by_cases c3:0≤x8_1
    ·
     rw [if_pos c3] at H
     have c3b0:decide (0≤x8_1)=τ:=decide_eq_true c3
     clear c3
     by_cases c4:x8_1<(a0.size:Int)
     ·
      rw [if_pos c4] at H
      have c4b0:decide (x8_1<(a0.size:Int))=τ:=decide_eq_true c4
      clear c4
      by_cases c6:(bt a0 x8_1) ≥ 97
      ·
       rw [if_pos c6] at H
       have c6b0:decide (97≤(bt a0 x8_1))=τ:=decide_eq_true c6
       clear c6
       by_cases c7:(bt a0 x8_1)≤122
       ·
        rw [if_pos c7] at H
        have c7b0:decide ((bt a0 x8_1)≤122)=τ:=decide_eq_true c7
        clear c7
        have H':=ζa H
        clear H
        have p5:0≤(x8_1:Int):=of_decide_eq_true (by (with_reducible assumption))
        have q5:x8_1<(a0.size:Int):=of_decide_eq_true (by (with_reducible assumption))
        have hx5:=bt_at a0 x8_1
        replace p5:=eq_true p5
        replace q5:=eq_true q5
        go_wp2
        go_roundg k1
        case measure=>have:=HK1.out;omega
        case rel=>exact ⟨(ζm (x8_1+1)),(by rfl),H',⟨by have:=HK1.out;omega⟩,by repeat (first|exact Drawn0.refl _|apply Drawn0.step)⟩
       ·
        rw [if_neg c7] at H
        have c7b0:decide ((bt a0 x8_1)≤122)=φ:=decide_eq_false c7
        clear c7
        by_cases c8:(bt a0 x8_1) ≥ 65
        ·
         rw [if_pos c8] at H
         have c8b0:decide (65≤(bt a0 x8_1))=τ:=decide_eq_true c8
         clear c8
         by_cases c9:(bt a0 x8_1)≤90
         ·
          rw [if_pos c9] at H
          have c9b0:decide ((bt a0 x8_1)≤90)=τ:=decide_eq_true c9
          clear c9
          have H':=ζa H
          clear H
          have p5:0≤(x8_1:Int):=of_decide_eq_true (by (with_reducible assumption))
          have q5:x8_1<(a0.size:Int):=of_decide_eq_true (by (with_reducible assumption))
          have hx5:=bt_at a0 x8_1
          replace p5:=eq_true p5
          replace q5:=eq_true q5
          go_wp2
          go_roundg k1
          case measure=>have:=HK1.out;omega
          case rel=>exact ⟨(ζm (x8_1+1)),(by rfl),H',⟨by have:=HK1.out;omega⟩,by repeat (first|exact Drawn0.refl _|apply Drawn0.step)⟩
         ·
          rw [if_neg c9] at H
          have c9b0:decide ((bt a0 x8_1)≤90)=φ:=decide_eq_false c9
          clear c9
          by_cases c10:((bt a0 x8_1)=95)
          ·
           rw [if_pos c10] at H
           have c10b0:((bt a0 x8_1) == 95)=τ:=beq_iff_eq.mpr c10
           have c10b1:((bt a0 x8_1) != 95)=φ:=bne_eq_false_iff_eq.mpr c10
           clear c10
           have H':=ζa H
           clear H
           have p5:0≤(x8_1:Int):=of_decide_eq_true (by (with_reducible assumption))
           have q5:x8_1<(a0.size:Int):=of_decide_eq_true (by (with_reducible assumption))
           have hx5:=bt_at a0 x8_1
           replace p5:=eq_true p5
           replace q5:=eq_true q5
           go_wp2
           go_roundg k1
           case measure=>have:=HK1.out;omega
           case rel=>exact ⟨(ζm (x8_1+1)),(by rfl),H',⟨by have:=HK1.out;omega⟩,by repeat (first|exact Drawn0.refl _|apply Drawn0.step)⟩
          ·
           rw [if_neg c10] at H
           have c10b0:((bt a0 x8_1) == 95)=φ:=beq_eq_false_iff_ne.mpr c10
           have c10b1:((bt a0 x8_1) != 95)=τ:=bne_iff_ne.mpr c10
           by_cases c11:x8_1=0
           ·
            rw [if_pos c11] at H
            have c11b0:(x8_1 == 0)=τ:=beq_iff_eq.mpr c11
            have c11b1:(x8_1 != 0)=φ:=bne_eq_false_iff_eq.mpr c11
            clear c11
            obtain rfl:=Option.some.inj H
            have p5:0≤(x8_1:Int):=of_decide_eq_true (by (with_reducible assumption))
            have q5:x8_1<(a0.size:Int):=of_decide_eq_true (by (with_reducible assumption))
            have hx5:=bt_at a0 x8_1
            replace p5:=eq_true p5
            replace q5:=eq_true q5
            go_wp2
            go_ret
            exact ⟨by rfl,by repeat (first|exact Drawn0.refl _|apply Drawn0.step)⟩
           ·
            rw [if_neg c11] at H
            have c11b0:(x8_1 == 0)=φ:=beq_eq_false_iff_ne.mpr c11
            have c11b1:(x8_1 != 0)=τ:=bne_iff_ne.mpr c11
            by_cases c12:(bt a0 x8_1)<48
            ·
             rw [if_pos c12] at H
             have c12b0:decide ((bt a0 x8_1)<48)=τ:=decide_eq_true c12
             clear c12
             obtain rfl:=Option.some.inj H
             have p5:0≤(x8_1:Int):=of_decide_eq_true (by (with_reducible assumption))
             have q5:x8_1<(a0.size:Int):=of_decide_eq_true (by (with_reducible assumption))
             have hx5:=bt_at a0 x8_1
             replace p5:=eq_true p5
             replace q5:=eq_true q5
             go_wp2
             go_ret
             exact ⟨by rfl,by repeat (first|exact Drawn0.refl _|apply Drawn0.step)⟩
            ·
             rw [if_neg c12] at H
             have c12b0:decide ((bt a0 x8_1)<48)=φ:=decide_eq_false c12
             clear c12
             by_cases c13:(bt a0 x8_1) > 57
             ·
              rw [if_pos c13] at H
              have c13b0:decide (57<(bt a0 x8_1))=τ:=decide_eq_true c13
              clear c13
              obtain rfl:=Option.some.inj H
              have p5:0≤(x8_1:Int):=of_decide_eq_true (by (with_reducible assumption))
              have q5:x8_1<(a0.size:Int):=of_decide_eq_true (by (with_reducible assumption))
              have hx5:=bt_at a0 x8_1
              replace p5:=eq_true p5
              replace q5:=eq_true q5
              go_wp2
              go_ret
              exact ⟨by rfl,by repeat (first|exact Drawn0.refl _|apply Drawn0.step)⟩
             ·
              rw [if_neg c13] at H
              have c13b0:decide (57<(bt a0 x8_1))=φ:=decide_eq_false c13
              clear c13
              have H':=ζa H
              clear H
              have p5:0≤(x8_1:Int):=of_decide_eq_true (by (with_reducible assumption))
              have q5:x8_1<(a0.size:Int):=of_decide_eq_true (by (with_reducible assumption))
              have hx5:=bt_at a0 x8_1
              replace p5:=eq_true p5
              replace q5:=eq_true q5
              go_wp2
              go_roundg k1
              case measure=>have:=HK1.out;omega
              case rel=>exact ⟨(ζm (x8_1+1)),(by rfl),H',⟨by have:=HK1.out;omega⟩,by repeat (first|exact Drawn0.refl _|apply Drawn0.step)⟩
        ·
         rw [if_neg c8] at H
         have c8b0:decide (65≤(bt a0 x8_1))=φ:=decide_eq_false c8
         clear c8
         by_cases c14:((bt a0 x8_1)=95)
         ·
          rw [if_pos c14] at H
          have c14b0:((bt a0 x8_1) == 95)=τ:=beq_iff_eq.mpr c14
          have c14b1:((bt a0 x8_1) != 95)=φ:=bne_eq_false_iff_eq.mpr c14
          clear c14
          have H':=ζa H
          clear H
          have p5:0≤(x8_1:Int):=of_decide_eq_true (by (with_reducible assumption))
          have q5:x8_1<(a0.size:Int):=of_decide_eq_true (by (with_reducible assumption))
          have hx5:=bt_at a0 x8_1
          replace p5:=eq_true p5
          replace q5:=eq_true q5
          go_wp2
          go_roundg k1
          case measure=>have:=HK1.out;omega
          case rel=>exact ⟨(ζm (x8_1+1)),(by rfl),H',⟨by have:=HK1.out;omega⟩,by repeat (first|exact Drawn0.refl _|apply Drawn0.step)⟩
         ·
          rw [if_neg c14] at H
          have c14b0:((bt a0 x8_1) == 95)=φ:=beq_eq_false_iff_ne.mpr c14
          have c14b1:((bt a0 x8_1) != 95)=τ:=bne_iff_ne.mpr c14
          by_cases c15:x8_1=0
          ·
           rw [if_pos c15] at H
           have c15b0:(x8_1 == 0)=τ:=beq_iff_eq.mpr c15
           have c15b1:(x8_1 != 0)=φ:=bne_eq_false_iff_eq.mpr c15
           clear c15
           obtain rfl:=Option.some.inj H
           have p5:0≤(x8_1:Int):=of_decide_eq_true (by (with_reducible assumption))
           have q5:x8_1<(a0.size:Int):=of_decide_eq_true (by (with_reducible assumption))
           have hx5:=bt_at a0 x8_1
           replace p5:=eq_true p5
           replace q5:=eq_true q5
           go_wp2
           go_ret
           exact ⟨by rfl,by repeat (first|exact Drawn0.refl _|apply Drawn0.step)⟩
          ·
           rw [if_neg c15] at H
           have c15b0:(x8_1 == 0)=φ:=beq_eq_false_iff_ne.mpr c15
           have c15b1:(x8_1 != 0)=τ:=bne_iff_ne.mpr c15
           by_cases c16:(bt a0 x8_1)<48
           ·
            rw [if_pos c16] at H
            have c16b0:decide ((bt a0 x8_1)<48)=τ:=decide_eq_true c16
            clear c16
            obtain rfl:=Option.some.inj H
            have p5:0≤(x8_1:Int):=of_decide_eq_true (by (with_reducible assumption))
            have q5:x8_1<(a0.size:Int):=of_decide_eq_true (by (with_reducible assumption))
            have hx5:=bt_at a0 x8_1
            replace p5:=eq_true p5
            replace q5:=eq_true q5
            go_wp2
            go_ret
            exact ⟨by rfl,by repeat (first|exact Drawn0.refl _|apply Drawn0.step)⟩
           ·
            rw [if_neg c16] at H
            have c16b0:decide ((bt a0 x8_1)<48)=φ:=decide_eq_false c16
            clear c16
            by_cases c17:(bt a0 x8_1) > 57
            ·
             rw [if_pos c17] at H
             have c17b0:decide (57<(bt a0 x8_1))=τ:=decide_eq_true c17
             clear c17
             obtain rfl:=Option.some.inj H
             have p5:0≤(x8_1:Int):=of_decide_eq_true (by (with_reducible assumption))
             have q5:x8_1<(a0.size:Int):=of_decide_eq_true (by (with_reducible assumption))
             have hx5:=bt_at a0 x8_1
             replace p5:=eq_true p5
             replace q5:=eq_true q5
             go_wp2
             go_ret
             exact ⟨by rfl,by repeat (first|exact Drawn0.refl _|apply Drawn0.step)⟩
            ·
             rw [if_neg c17] at H
             have c17b0:decide (57<(bt a0 x8_1))=φ:=decide_eq_false c17
             clear c17
             have H':=ζa H
             clear H
             have p5:0≤(x8_1:Int):=of_decide_eq_true (by (with_reducible assumption))
             have q5:x8_1<(a0.size:Int):=of_decide_eq_true (by (with_reducible assumption))
             have hx5:=bt_at a0 x8_1
             replace p5:=eq_true p5
             replace q5:=eq_true q5
             go_wp2
             go_roundg k1
             case measure=>have:=HK1.out;omega
             case rel=>exact ⟨(ζm (x8_1+1)),(by rfl),H',⟨by have:=HK1.out;omega⟩,by repeat (first|exact Drawn0.refl _|apply Drawn0.step)⟩
      ·
       rw [if_neg c6] at H
       have c6b0:decide (97≤(bt a0 x8_1))=φ:=decide_eq_false c6
       clear c6
       by_cases c18:(bt a0 x8_1) ≥ 65
       ·
        rw [if_pos c18] at H
        have c18b0:decide (65≤(bt a0 x8_1))=τ:=decide_eq_true c18
        clear c18
        by_cases c19:(bt a0 x8_1)≤90
        ·
         rw [if_pos c19] at H
         have c19b0:decide ((bt a0 x8_1)≤90)=τ:=decide_eq_true c19
         clear c19
         have H':=ζa H
         clear H
         have p5:0≤(x8_1:Int):=of_decide_eq_true (by (with_reducible assumption))
         have q5:x8_1<(a0.size:Int):=of_decide_eq_true (by (with_reducible assumption))
         have hx5:=bt_at a0 x8_1
         replace p5:=eq_true p5
         replace q5:=eq_true q5
         go_wp2
         go_roundg k1
         case measure=>have:=HK1.out;omega
         case rel=>exact ⟨(ζm (x8_1+1)),(by rfl),H',⟨by have:=HK1.out;omega⟩,by repeat (first|exact Drawn0.refl _|apply Drawn0.step)⟩
        ·
         rw [if_neg c19] at H
         have c19b0:decide ((bt a0 x8_1)≤90)=φ:=decide_eq_false c19
         clear c19
         by_cases c20:((bt a0 x8_1)=95)
         ·
          rw [if_pos c20] at H
          have c20b0:((bt a0 x8_1) == 95)=τ:=beq_iff_eq.mpr c20
          have c20b1:((bt a0 x8_1) != 95)=φ:=bne_eq_false_iff_eq.mpr c20
          clear c20
          have H':=ζa H
          clear H
          have p5:0≤(x8_1:Int):=of_decide_eq_true (by (with_reducible assumption))
          have q5:x8_1<(a0.size:Int):=of_decide_eq_true (by (with_reducible assumption))
          have hx5:=bt_at a0 x8_1
          replace p5:=eq_true p5
          replace q5:=eq_true q5
          go_wp2
          go_roundg k1
          case measure=>have:=HK1.out;omega
          case rel=>exact ⟨(ζm (x8_1+1)),(by rfl),H',⟨by have:=HK1.out;omega⟩,by repeat (first|exact Drawn0.refl _|apply Drawn0.step)⟩
         ·
          rw [if_neg c20] at H
          have c20b0:((bt a0 x8_1) == 95)=φ:=beq_eq_false_iff_ne.mpr c20
          have c20b1:((bt a0 x8_1) != 95)=τ:=bne_iff_ne.mpr c20
          by_cases c21:x8_1=0
          ·
           rw [if_pos c21] at H
           have c21b0:(x8_1 == 0)=τ:=beq_iff_eq.mpr c21
           have c21b1:(x8_1 != 0)=φ:=bne_eq_false_iff_eq.mpr c21
           clear c21
           obtain rfl:=Option.some.inj H
           have p5:0≤(x8_1:Int):=of_decide_eq_true (by (with_reducible assumption))
           have q5:x8_1<(a0.size:Int):=of_decide_eq_true (by (with_reducible assumption))
           have hx5:=bt_at a0 x8_1
           replace p5:=eq_true p5
           replace q5:=eq_true q5
           go_wp2
           go_ret
           exact ⟨by rfl,by repeat (first|exact Drawn0.refl _|apply Drawn0.step)⟩
          ·
           rw [if_neg c21] at H
           have c21b0:(x8_1 == 0)=φ:=beq_eq_false_iff_ne.mpr c21
           have c21b1:(x8_1 != 0)=τ:=bne_iff_ne.mpr c21
           by_cases c22:(bt a0 x8_1)<48
           ·
            rw [if_pos c22] at H
            have c22b0:decide ((bt a0 x8_1)<48)=τ:=decide_eq_true c22
            clear c22
            obtain rfl:=Option.some.inj H
            have p5:0≤(x8_1:Int):=of_decide_eq_true (by (with_reducible assumption))
            have q5:x8_1<(a0.size:Int):=of_decide_eq_true (by (with_reducible assumption))
            have hx5:=bt_at a0 x8_1
            replace p5:=eq_true p5
            replace q5:=eq_true q5
            go_wp2
            go_ret
            exact ⟨by rfl,by repeat (first|exact Drawn0.refl _|apply Drawn0.step)⟩
           ·
            rw [if_neg c22] at H
            have c22b0:decide ((bt a0 x8_1)<48)=φ:=decide_eq_false c22
            clear c22
            by_cases c23:(bt a0 x8_1) > 57
            ·
             rw [if_pos c23] at H
             have c23b0:decide (57<(bt a0 x8_1))=τ:=decide_eq_true c23
             clear c23
             obtain rfl:=Option.some.inj H
             have p5:0≤(x8_1:Int):=of_decide_eq_true (by (with_reducible assumption))
             have q5:x8_1<(a0.size:Int):=of_decide_eq_true (by (with_reducible assumption))
             have hx5:=bt_at a0 x8_1
             replace p5:=eq_true p5
             replace q5:=eq_true q5
             go_wp2
             go_ret
             exact ⟨by rfl,by repeat (first|exact Drawn0.refl _|apply Drawn0.step)⟩
            ·
             rw [if_neg c23] at H
             have c23b0:decide (57<(bt a0 x8_1))=φ:=decide_eq_false c23
             clear c23
             have H':=ζa H
             clear H
             have p5:0≤(x8_1:Int):=of_decide_eq_true (by (with_reducible assumption))
             have q5:x8_1<(a0.size:Int):=of_decide_eq_true (by (with_reducible assumption))
             have hx5:=bt_at a0 x8_1
             replace p5:=eq_true p5
             replace q5:=eq_true q5
             go_wp2
             go_roundg k1
             case measure=>have:=HK1.out;omega
             case rel=>exact ⟨(ζm (x8_1+1)),(by rfl),H',⟨by have:=HK1.out;omega⟩,by repeat (first|exact Drawn0.refl _|apply Drawn0.step)⟩
       ·
        rw [if_neg c18] at H
        have c18b0:decide (65≤(bt a0 x8_1))=φ:=decide_eq_false c18
        clear c18
        by_cases c24:((bt a0 x8_1)=95)
        ·
         rw [if_pos c24] at H
         have c24b0:((bt a0 x8_1) == 95)=τ:=beq_iff_eq.mpr c24
         have c24b1:((bt a0 x8_1) != 95)=φ:=bne_eq_false_iff_eq.mpr c24
         clear c24
         have H':=ζa H
         clear H
         have p5:0≤(x8_1:Int):=of_decide_eq_true (by (with_reducible assumption))
         have q5:x8_1<(a0.size:Int):=of_decide_eq_true (by (with_reducible assumption))
         have hx5:=bt_at a0 x8_1
         replace p5:=eq_true p5
         replace q5:=eq_true q5
         go_wp2
         go_roundg k1
         case measure=>have:=HK1.out;omega
         case rel=>exact ⟨(ζm (x8_1+1)),(by rfl),H',⟨by have:=HK1.out;omega⟩,by repeat (first|exact Drawn0.refl _|apply Drawn0.step)⟩
        ·
         rw [if_neg c24] at H
         have c24b0:((bt a0 x8_1) == 95)=φ:=beq_eq_false_iff_ne.mpr c24
         have c24b1:((bt a0 x8_1) != 95)=τ:=bne_iff_ne.mpr c24
         by_cases c25:x8_1=0
         ·
          rw [if_pos c25] at H
          have c25b0:(x8_1 == 0)=τ:=beq_iff_eq.mpr c25
          have c25b1:(x8_1 != 0)=φ:=bne_eq_false_iff_eq.mpr c25
          clear c25
          obtain rfl:=Option.some.inj H
          have p5:0≤(x8_1:Int):=of_decide_eq_true (by (with_reducible assumption))
          have q5:x8_1<(a0.size:Int):=of_decide_eq_true (by (with_reducible assumption))
          have hx5:=bt_at a0 x8_1
          replace p5:=eq_true p5
          replace q5:=eq_true q5
          go_wp2
          go_ret
          exact ⟨by rfl,by repeat (first|exact Drawn0.refl _|apply Drawn0.step)⟩
         ·
          rw [if_neg c25] at H
          have c25b0:(x8_1 == 0)=φ:=beq_eq_false_iff_ne.mpr c25
          have c25b1:(x8_1 != 0)=τ:=bne_iff_ne.mpr c25
          by_cases c26:(bt a0 x8_1)<48
          ·
           rw [if_pos c26] at H
           have c26b0:decide ((bt a0 x8_1)<48)=τ:=decide_eq_true c26
           clear c26
           obtain rfl:=Option.some.inj H
           have p5:0≤(x8_1:Int):=of_decide_eq_true (by (with_reducible assumption))
           have q5:x8_1<(a0.size:Int):=of_decide_eq_true (by (with_reducible assumption))
           have hx5:=bt_at a0 x8_1
           replace p5:=eq_true p5
           replace q5:=eq_true q5
           go_wp2
           go_ret
           exact ⟨by rfl,by repeat (first|exact Drawn0.refl _|apply Drawn0.step)⟩
          ·
           rw [if_neg c26] at H
           have c26b0:decide ((bt a0 x8_1)<48)=φ:=decide_eq_false c26
           clear c26
           by_cases c27:(bt a0 x8_1) > 57
           ·
            rw [if_pos c27] at H
            have c27b0:decide (57<(bt a0 x8_1))=τ:=decide_eq_true c27
            clear c27
            obtain rfl:=Option.some.inj H
            have p5:0≤(x8_1:Int):=of_decide_eq_true (by (with_reducible assumption))
            have q5:x8_1<(a0.size:Int):=of_decide_eq_true (by (with_reducible assumption))
            have hx5:=bt_at a0 x8_1
            replace p5:=eq_true p5
            replace q5:=eq_true q5
            go_wp2
            go_ret
            exact ⟨by rfl,by repeat (first|exact Drawn0.refl _|apply Drawn0.step)⟩
           ·
            rw [if_neg c27] at H
            have c27b0:decide (57<(bt a0 x8_1))=φ:=decide_eq_false c27
            clear c27
            have H':=ζa H
            clear H
            have p5:0≤(x8_1:Int):=of_decide_eq_true (by (with_reducible assumption))
            have q5:x8_1<(a0.size:Int):=of_decide_eq_true (by (with_reducible assumption))
            have hx5:=bt_at a0 x8_1
            replace p5:=eq_true p5
            replace q5:=eq_true q5
            go_wp2
            go_roundg k1
            case measure=>have:=HK1.out;omega
            case rel=>exact ⟨(ζm (x8_1+1)),(by rfl),H',⟨by have:=HK1.out;omega⟩,by repeat (first|exact Drawn0.refl _|apply Drawn0.step)⟩
     ·
      rw [if_neg c4] at H
      exact absurd H (by simp)
    ·
     rw [if_neg c3] at H
     exact absurd H (by simp)
   ·
    rw [if_neg c2] at H
    have c2b0:decide (x8_1<(a0.size:Int))=φ:=decide_eq_false c2
    clear c2
    replace H:=Option.bind_eq_some_iff.mp H
    obtain ⟨t161,A280,H⟩:=H
    replace H:(some t161)=some r:=H
    have A28:=ζa A280
    clear A280
    obtain rfl:=Option.some.inj H
    go_wp2_with (((with_reducible refine δv (f:=161) rfl ?_);refine goesL_ (some 49) rfl rfl Tryz.func161 (by kernel_rfl) rfl #[.int .i64 (a0.size:Int),.int .i64 1,.int .i64 40] rfl (by (try simp only [δd,δe,δf]);rfl) ?_;(with_reducible refine (impl_within.calls (a0.size:Int) 1 40 t161 _ A28.out).mono ?_);rintro e w' ⟨rfl,⟨nd,rfl⟩⟩;refine ⟨_,rfl,?_⟩))
    go_ret
    exact ⟨by rfl,by repeat (first|exact Drawn0.refl _|apply Drawn0.step)⟩



/-! ### impl_DenomOK: function 114 -/
def impl_DenomOK.f (k:Nat) (a0:ByteArray):Option (Bool):=(impl_NameOK.f k a0).bind fun t162=>(if t162=τ then (some (decide ((a0.size:Int)≤12))) else (some φ))
set_option maxHeartbeats 8000000 in
set_option maxRecDepth 100000 in
theorem impl_DenomOK.calls (k:Nat) (a0:ByteArray) (r:Bool) (w:World) (h:impl_DenomOK.f k a0=some r) :
  Calls Tryz.prog 114 #[.string a0] w fun e w'=>e = .returned (.bool r)∧Drawn0 w w':=by
 have H:((impl_NameOK.f k a0).bind fun t162=>(if t162=τ then (some (decide ((a0.size:Int)≤12))) else (some φ)))=some r:=h
 clear h
 replace H:=Option.bind_eq_some_iff.mp H
 obtain ⟨t162,A20,H⟩:=H
 replace H:(if t162=τ then (some (decide ((a0.size:Int)≤12))) else (some φ))=some r:=H
 have A2:=ζa A20
 clear A20
 by_cases c3:t162=τ
 ·
  subst c3
  have H1:(some (decide ((a0.size:Int)≤12)))=some r:=by rw [if_pos rfl] at H;exact H
  clear H
  have H:=H1
  clear H1
  obtain rfl:=Option.some.inj H
  go_enter Tryz.func114,Tryz.ntmps114
  go_wp2_with (((with_reducible refine δv (f:=169) rfl ?_);refine goesL_ (some 4) rfl rfl Tryz.func169 (by kernel_rfl) rfl #[.string a0] rfl (by (try simp only [δd,δe,δf]);rfl) ?_;(with_reducible refine (impl_NameOK.calls k a0 τ _ A2.out).mono ?_);rintro e w' ⟨rfl,⟨nd,rfl⟩⟩;refine ⟨_,rfl,?_⟩))
  go_ret
  exact ⟨by rfl,by repeat (first|exact Drawn0.refl _|apply Drawn0.step)⟩
 ·
  replace c3:=Bool.eq_false_iff.mpr c3
  subst c3
  have H1:(some φ)=some r:=by rw [if_neg (show ¬ (φ=τ) by decide)] at H;exact H
  clear H
  have H:=H1
  clear H1
  obtain rfl:=Option.some.inj H
  go_enter Tryz.func114,Tryz.ntmps114
  go_wp2_with (((with_reducible refine δv (f:=169) rfl ?_);refine goesL_ (some 4) rfl rfl Tryz.func169 (by kernel_rfl) rfl #[.string a0] rfl (by (try simp only [δd,δe,δf]);rfl) ?_;(with_reducible refine (impl_NameOK.calls k a0 φ _ A2.out).mono ?_);rintro e w' ⟨rfl,⟨nd,rfl⟩⟩;refine ⟨_,rfl,?_⟩))
  go_ret
  exact ⟨by rfl,by repeat (first|exact Drawn0.refl _|apply Drawn0.step)⟩



/-! ### impl_areNames: function 63 -/
def impl_areNames.l0:Nat→List ByteArray→Int→Int→Option (Bool)
 | 0,_,_,_=>none
 | k+1,x5,x6,x7=>if x7<x6 then (if 0≤x7 then (if x7<(x5.length:Int) then ((impl_DenomOK.f k (rdOf ByteArray.empty x5 x7)).bind fun t164=>(if t164=τ then (impl_areNames.l0 k x5 x6 (ζm (x7+1))) else (some φ))) else (none)) else (none)) else (some τ)
def impl_areNames.f (k:Nat) (l0:List ByteArray):Option (Bool):=impl_areNames.l0 k l0 (l0.length:Int) 0
set_option maxHeartbeats 8000000 in
set_option maxRecDepth 100000 in
theorem impl_areNames.calls (k:Nat) (A0:Option Addr) (c0:Nat) (l0:List ByteArray) (r:Bool) (w:World) (hr0:Kd.C Kd.string w A0 l0.length l0) (hc0:l0.length≤c0) (h:impl_areNames.f k l0=some r) :
  Calls Tryz.prog 63 #[.slice A0 l0.length c0] w fun e w'=>e = .returned (.bool r)∧Drawn0 w w':=by
 have HR0:=ζa hr0
 have HC0:=ζa hc0
 clear hr0 hc0
 have H:(impl_areNames.l0 k l0 (l0.length:Int) 0)=some r:=h
 clear h
 have H':=ζa H
 clear H
 go_enter Tryz.func63,Tryz.ntmps63
 go_wp2
 go_loopg [7] k (fun kq v7 w' => ∃ (x7_1:Int),v7 = .int .i64 x7_1∧Aside0 (impl_areNames.l0 kq l0 (l0.length:Int) x7_1=some r)∧Aside0 (kq≤k)∧Drawn0 w w')
 case atStart=>exact ⟨(0),(by rfl),H',⟨Nat.le_refl _⟩,by repeat (exact Drawn0.refl _)⟩
 case round =>
  clear H'
  obtain ⟨x7_1,rfl,HA,HK1,⟨m1,rfl⟩⟩:=hrel
  cases gk with
  | zero=>exact absurd HA.out (by simp [impl_areNames.l0])
  | succ k1 =>
   have H:=HA.out
   clear HA
   simp only [impl_areNames.l0] at H
   by_cases c2:x7_1<(l0.length:Int)
   ·
    rw [if_pos c2] at H
    have c2b0:decide (x7_1<(l0.length:Int))=τ:=decide_eq_true c2
    clear c2
    by_cases c3:0≤x7_1
    ·
     rw [if_pos c3] at H
     have c3b0:decide (0≤x7_1)=τ:=decide_eq_true c3
     clear c3
     by_cases c4:x7_1<(l0.length:Int)
     ·
      rw [if_pos c4] at H
      have c4b0:decide (x7_1<(l0.length:Int))=τ:=decide_eq_true c4
      clear c4
      replace H:=Option.bind_eq_some_iff.mp H
      obtain ⟨t164,A50,H⟩:=H
      replace H:(if t164=τ then (impl_areNames.l0 k1 l0 (l0.length:Int) (ζm (x7_1+1))) else (some φ))=some r:=H
      have A5:=ζa A50
      clear A50
      by_cases c6:t164=τ
      ·
       subst c6
       have H1:(impl_areNames.l0 k1 l0 (l0.length:Int) (ζm (x7_1+1)))=some r:=by rw [if_pos rfl] at H;exact H
       clear H
       have H:=H1
       clear H1
       have H':=ζa H
       clear H
       have p163:0≤(x7_1:Int):=of_decide_eq_true (by (with_reducible assumption))
       have q163:x7_1<(l0.length:Int):=of_decide_eq_true (by (with_reducible assumption))
       obtain ⟨ad163,e163,hx163_0⟩:=Kd.at_string HR0.out x7_1 p163 q163
       cases e163
       replace p163:=eq_true p163
       replace q163:=eq_true q163
       go_wp2_with (((with_reducible refine δv (f:=114) rfl ?_);refine goesL_ (some 12) rfl rfl Tryz.func114 (by kernel_rfl) rfl #[.string (rdOf ByteArray.empty l0 x7_1)] rfl (by (try simp only [δd,δe,δf]);rfl) ?_;(with_reducible refine (impl_DenomOK.calls k1 (rdOf ByteArray.empty l0 x7_1) τ _ A5.out).mono ?_);rintro e w' ⟨rfl,⟨nd,rfl⟩⟩;refine ⟨_,rfl,?_⟩))
       go_roundg k1
       case measure=>have:=HK1.out;omega
       case rel=>exact ⟨(ζm (x7_1+1)),(by rfl),H',⟨by have:=HK1.out;omega⟩,by repeat (first|exact Drawn0.refl _|apply Drawn0.step)⟩
      ·
       replace c6:=Bool.eq_false_iff.mpr c6
       subst c6
       have H1:(some φ)=some r:=by rw [if_neg (show ¬ (φ=τ) by decide)] at H;exact H
       clear H
       have H:=H1
       clear H1
       obtain rfl:=Option.some.inj H
       have p163:0≤(x7_1:Int):=of_decide_eq_true (by (with_reducible assumption))
       have q163:x7_1<(l0.length:Int):=of_decide_eq_true (by (with_reducible assumption))
       obtain ⟨ad163,e163,hx163_0⟩:=Kd.at_string HR0.out x7_1 p163 q163
       cases e163
       replace p163:=eq_true p163
       replace q163:=eq_true q163
       go_wp2_with (((with_reducible refine δv (f:=114) rfl ?_);refine goesL_ (some 12) rfl rfl Tryz.func114 (by kernel_rfl) rfl #[.string (rdOf ByteArray.empty l0 x7_1)] rfl (by (try simp only [δd,δe,δf]);rfl) ?_;(with_reducible refine (impl_DenomOK.calls k1 (rdOf ByteArray.empty l0 x7_1) φ _ A5.out).mono ?_);rintro e w' ⟨rfl,⟨nd,rfl⟩⟩;refine ⟨_,rfl,?_⟩))
       go_ret
       exact ⟨by rfl,by repeat (first|exact Drawn0.refl _|apply Drawn0.step)⟩
     ·
      rw [if_neg c4] at H
      exact absurd H (by simp)
    ·
     rw [if_neg c3] at H
     exact absurd H (by simp)
   ·
    rw [if_neg c2] at H
    have c2b0:decide (x7_1<(l0.length:Int))=φ:=decide_eq_false c2
    clear c2
    obtain rfl:=Option.some.inj H
    go_wp2
    go_ret
    exact ⟨by rfl,by repeat (first|exact Drawn0.refl _|apply Drawn0.step)⟩



/-! ### impl_isPeople: function 121 -/
def impl_isPeople.bad (t:ByteArray):Bool:=t.toList == ([101,115,99,114,111,119]:List UInt8) || (t.toList == ([111,114,100,101,114,115]:List UInt8) || (t.toList == ([116,97,107,101,115]:List UInt8) || t.toList == ([112,111,111,108]:List UInt8)))
def impl_isPeople.f (k:Nat) (l0:List ByteArray):Option Bool:=(impl_areNames.f k l0).bind fun t=>if t=τ then some (!(l0.any impl_isPeople.bad)) else some φ
theorem impl_isPeople.lit (a0:ByteArray) (w:World) :
  Calls Tryz.prog 175 #[.string a0] w fun e w'=>e = .returned (.bool (impl_isPeople.bad a0))∧Drawn0 w w':=by
 unfold impl_isPeople.bad
 cases h1:(a0.toList == ([101,115,99,114,111,119]:List UInt8)) <;> cases h2:(a0.toList == ([111,114,100,101,114,115]:List UInt8)) <;> cases h3:(a0.toList == ([116,97,107,101,115]:List UInt8)) <;>
 ·
  go_enter Tryz.func175,Tryz.ntmps175
  go_wp2
  go_ret
  exact ⟨by rfl,by repeat (exact Drawn0.refl _)⟩
theorem impl_isPeople.calls (k:Nat) (A0:Option Addr) (c0:Nat) (l0:List ByteArray) (r:Bool) (w:World) (hr0:Kd.C Kd.string w A0 l0.length l0) (hc0:l0.length≤c0) (h:impl_isPeople.f k l0=some r) :
  Calls Tryz.prog 121 #[.slice A0 l0.length c0] w fun e w'=>e = .returned (.bool r)∧Drawn0 w w':=by
 obtain ⟨t,ht,h⟩:=Option.bind_eq_some_iff.mp h
 have HA:=ζa ht
 clear ht
 cases t with
 | true =>
  rw [if_pos rfl] at h
  obtain rfl:=Option.some.inj h
  go_enter Tryz.func121,Tryz.ntmps121
  go_wp2_with (first
   | (go_at_call 63;refine (impl_areNames.calls k A0 c0 l0 _ _ hr0 hc0 HA.out).mono ?_;rintro e w' ⟨rfl,⟨q',rfl⟩⟩)
   | (go_at_call 112;refine (slices_ContainsFunc_string_string.at_ 175 (enters_of Tryz.func175 (by kernel_rfl) rfl) _ impl_isPeople.lit A0 c0 l0 _ (by exact Kd.C_drewN hr0 _)).mono ?_;rintro e w' ⟨rfl,⟨q',rfl⟩⟩))
  go_ret
  exact ⟨rfl,by repeat (first|exact Drawn0.refl _|apply Drawn0.step)⟩
 | false =>
  rw [if_neg (by decide)] at h
  obtain rfl:=Option.some.inj h
  go_enter Tryz.func121,Tryz.ntmps121
  go_wp2_with (first
   | (go_at_call 63;refine (impl_areNames.calls k A0 c0 l0 _ _ hr0 hc0 HA.out).mono ?_;rintro e w' ⟨rfl,⟨q',rfl⟩⟩))
  go_ret
  exact ⟨rfl,by repeat (first|exact Drawn0.refl _|apply Drawn0.step)⟩



/-! ### impl_isSome: function 122 -/
def impl_isSome.f (a0:Int):Option (Bool):=(impl_within.f a0 1 1000000000000000000).bind fun t165=>(some t165)
set_option maxHeartbeats 8000000 in
set_option maxRecDepth 100000 in
theorem impl_isSome.calls (a0:Int) (r:Bool) (w:World) (h:impl_isSome.f a0=some r) :
  Calls Tryz.prog 122 #[.int .i64 a0] w fun e w'=>e = .returned (.bool r)∧Drawn0 w w':=by
 have H:((impl_within.f a0 1 1000000000000000000).bind fun t165=>(some t165))=some r:=h
 clear h
 replace H:=Option.bind_eq_some_iff.mp H
 obtain ⟨t165,A20,H⟩:=H
 replace H:(some t165)=some r:=H
 have A2:=ζa A20
 clear A20
 obtain rfl:=Option.some.inj H
 go_enter Tryz.func122,Tryz.ntmps122
 go_wp2_with (((with_reducible refine δv (f:=161) rfl ?_);refine goesL_ (some 4) rfl rfl Tryz.func161 (by kernel_rfl) rfl #[.int .i64 a0,.int .i64 1,.int .i64 1000000000000000000] rfl (by (try simp only [δd,δe,δf]);rfl) ?_;(with_reducible refine (impl_within.calls a0 1 1000000000000000000 t165 _ A2.out).mono ?_);rintro e w' ⟨rfl,⟨nd,rfl⟩⟩;refine ⟨_,rfl,?_⟩))
 go_ret
 exact ⟨by rfl,by repeat (first|exact Drawn0.refl _|apply Drawn0.step)⟩


open Go.Proofs.YtabmfhnhmoiljaaGreatDoorW.PrintWords renaming gate_dst → δx

/-! ### slices_Clone_impl_Pair_impl_Pair: function 83 -/
def slices_Clone_impl_Pair_impl_Pair.f (l0:List (S51)):Option (List (S51)):=if l0.length≤4398046511104 then some l0 else none
set_option maxHeartbeats 1000000 in
set_option maxRecDepth 100000 in
theorem slices_Clone_impl_Pair_impl_Pair.some_ (ad:Addr) (c0:Nat) (l0:List (S51)) (w:World) (hr0:Kd.C k51 w (some ad) l0.length l0) (hl:l0.length * 32≤140737488355328) :
  Calls Tryz.prog 83 #[.slice (some ad) l0.length c0] w fun e w' => ∃ v0_:Value,e = .returned (v0_)∧Kd.R k51 51 w' w.heap.size (fun _=>True) v0_ l0∧Below w.heap.size w w':=by
 have HR:=ζa hr0
 have HL:=ζa hl
 clear hr0 hl
 have q : ∀ (w:World),(binOp .eql 24 (.slice (some ad) l0.length c0) (.slice none 0 0)).run Tryz.prog w = .ok (.bool φ) w:=fun w=>Lib.run_eql_slice_nil w 24 51 (some ad) l0.length c0 0 0 Tryz.underlying24
 go_enter Tryz.func83,Tryz.ntmps83
 go_wp2_with (first
  | ((with_reducible refine δx (N:=5) rfl ?_);refine Kd.R_lit k51 _ 51 ?hg (N:=5) ?hd (xs:=([]:List S51)) (inner:=[]) (ok:=fun _=>True) (okp:=fun _=>True) ?hr ?hp (fun _ hk=>hk) trivial (Below.refl _ _) (Nat.le_refl _) (by simp) ?_;(case hd=>rfl);(case hg=>rfl);(case hr=>first|(go_simp;done)|(go_simp;rfl));(case hp=>exact (Reps.none _ _));intro v5 w5 ho5 hb5 hg_ hnew_;clear hg_ hnew_;have HO:=ζa ho5;have HB:=ζa hb5;clear ho5 hb5)
  | ((with_reducible refine δx (N:=7) rfl ?_);refine Kd.R_append_rows (w0:=w) (Rr:=k51.K w5) k51 w.heap.size ?hg (.tmp 5) (.tmp 6) 24 51 (.agg #[(.string ⟨#[]⟩),(.string ⟨#[]⟩)]) 32 rfl Tryz.underlying24 info51 rfl (by decide) (by decide) v5 [] l0 (some ad) l0.length c0 (fun _=>True) (fun _=>False) rfl rfl HO.out (Kd.C_below HR.out HB.out) (fun x cs h=>by rw [k51_open h];exact k51_mkM _ _ _ x) (fun _ h=>h.elim) (fun _ _=>trivial) HB.out HB.out.size (by have:=HL.out;simpa using this) ?_;(case hg=>rfl);intro v7 w7 ho7 hb7 hg_ hnew_;clear hg_ hnew_;have HO7:=ζa ho7;have HB7:=ζa hb7;clear ho7 hb7))
 go_ret
 exact ⟨_,rfl,HO7.out,HB7.out⟩
set_option maxHeartbeats 1000000 in
theorem slices_Clone_impl_Pair_impl_Pair.none_ (n c0:Nat) (w:World) :
  Calls Tryz.prog 83 #[.slice none n c0] w fun e w'=>e = .returned (.slice none 0 0)∧w=w':=by
 have q : ∀ (w:World),(binOp .eql 24 (.slice none n c0) (.slice none 0 0)).run Tryz.prog w = .ok (.bool τ) w:=fun w=>Lib.run_eql_slice_nil w 24 51 none n c0 0 0 Tryz.underlying24
 go_enter Tryz.func83,Tryz.ntmps83
 go_wp2
 go_ret
 exact ⟨rfl,rfl⟩
theorem slices_Clone_impl_Pair_impl_Pair.calls (A0:Option Addr) (c0:Nat) (l0:List (S51)) (r:List (S51)) (w:World) (hr0:Kd.C k51 w A0 l0.length l0) (hc0:l0.length≤c0) (h:slices_Clone_impl_Pair_impl_Pair.f l0=some r) :
  Calls Tryz.prog 83 #[.slice A0 l0.length c0] w fun e w' => ∃ v0_:Value,e = .returned (v0_)∧Kd.R k51 51 w' w.heap.size (fun _=>True) v0_ r∧Below w.heap.size w w':=by
 unfold slices_Clone_impl_Pair_impl_Pair.f at h
 by_cases hl:l0.length≤4398046511104
 ·
  rw [if_pos hl] at h
  obtain rfl:=Option.some.inj h
  cases A0 with
  | some ad=>exact slices_Clone_impl_Pair_impl_Pair.some_ ad c0 l0 w hr0 (by omega)
  | none =>
   have h0:l0.length=0:=by
    rcases Nat.eq_zero_or_pos l0.length with h0|h0
    · exact h0
    ·
     obtain ⟨ad,h,_⟩:=hr0.2.2 h0
     cases h
   obtain rfl:l0 = []:=List.eq_nil_of_length_eq_zero h0
   refine (slices_Clone_impl_Pair_impl_Pair.none_ _ c0 w).mono ?_
   rintro e w' ⟨rfl,rfl⟩
   exact ⟨_,rfl,Kd.R_nil _ _ _ _ _,Below.refl _ _⟩
 · rw [if_neg hl] at h;cases h



/-! ### strings_Compare: function 195 -/
def strings_Compare.f (a0 : ByteArray) (a1 : ByteArray) : Option Int := some (Lib.compareBytes a0.data.toList a1.data.toList)
theorem strings_Compare.calls (a0 : ByteArray) (a1 : ByteArray) (r : Int) (w : World) (h : strings_Compare.f a0 a1 = some r) :
    Calls Tryz.prog 195 #[.string a0, .string a1] w fun e w' => e = .returned (.int .i64 r) ∧ Drawn0 w w' := by
  obtain rfl := Option.some.inj h
  refine (Tryz.strings_Compare a0 a1 w).mono ?_
  rintro e w' ⟨rfl, rfl⟩
  exact ⟨rfl, Drawn0.refl _⟩


open Go.Proofs.YtabmfhnhmoiljaaGreatDoorW.PrintWords renaming gate_dst → δx, box_event → δz, below_size → δs, below_step → δr, blk_cell → δl, blk_frozen → δm, gate_callee → δv, pw_below_drewN → δi

/-! ### impl_pairAt_1: function 194 -/
def impl_pairAt_1.f (a0_0:ByteArray) (a0_1:ByteArray) (a1:ByteArray):Option (Int):=(strings_Compare.f a0_0 a1).bind fun t177=>(some t177)
set_option maxHeartbeats 8000000 in
set_option maxRecDepth 100000 in
theorem impl_pairAt_1.calls (a0_0:ByteArray) (a0_1:ByteArray) (a1:ByteArray) (r:Int) (w:World) (h:impl_pairAt_1.f a0_0 a0_1 a1=some r) :
  Calls Tryz.prog 194 #[.agg #[.string a0_0,.string a0_1],.string a1] w fun e w'=>e = .returned (.int .i64 r)∧Below w.heap.size w w':=by
 have hu51:=Tryz.underlying51
 have HB:=ζa (Below.refl w.heap.size w)
 have H:((strings_Compare.f a0_0 a1).bind fun t177=>(some t177))=some r:=h
 clear h
 replace H:=Option.bind_eq_some_iff.mp H
 obtain ⟨t177,A30,H⟩:=H
 replace H:(some t177)=some r:=H
 have A3:=ζa A30
 clear A30
 obtain rfl:=Option.some.inj H
 go_enter Tryz.func194,Tryz.ntmps194
 go_wp2_with (first|((with_reducible refine δx (N:=2) rfl ?_);refine δz ?hg (N:=2) ?hd (cs:=#[.string a0_0,.string a0_1]) (t:=51) ?hr ?_;(case hd=>rfl);(case hg=>rfl);(case hr=>(go_simp;done));intro gb176 hg w4 hbox hb;have BK176:=ζa (hbox);have GW176:=ζa ((by rw [hg];exact (δs (by exact HB.out)):w.heap.size≤gb176));have GE176:=ζa ((by rw [hg];exact (δs (by exact HB.out)):w.heap.size≤gb176));replace HB:=ζa (δr (by exact HB.out) hb);clear hb hbox hg;have hcz5_0:w4.cell? ⟨gb176,0,none⟩=some (.string a0_0):=(δl BK176.out 0).trans rfl;have hcz5_1:w4.cell? ⟨gb176,1,none⟩=some (.string a0_1):=(δl BK176.out 1).trans rfl;have hfz5_0:=δm BK176.out 0;have hfz5_1:=δm BK176.out 1)|((with_reducible refine δv (f:=195) rfl ?_);refine goesL_ (some 8) rfl rfl Tryz.func195 (by kernel_rfl) rfl #[.string a0_0,.string a1] rfl (by (try simp only [δd,δe,δf]);rfl) ?_;(with_reducible refine (strings_Compare.calls a0_0 a1 t177 _ A3.out).mono ?_);rintro e w' ⟨rfl,⟨nd,rfl⟩⟩;refine ⟨_,rfl,?_⟩))
 go_ret
 exact ⟨by rfl,by repeat ((with_reducible first|exact HB.out|apply δi))⟩


open Go.Proofs.YtabmfhnhmoiljaaGreatDoorW.PrintWords renaming below_step → δr

/-! ### impl_pairAt: function 162 -/
def impl_pairAt.l0:Nat→List S51→ByteArray→Int→Int→Option Int
 | 0,_,_,_,_=>none
 | k+1,l,key,i,j=>if i<j then (if 0≤(i+j) / 2 then (if (i+j) / 2<(l.length:Int) then (if Lib.compareBytes ((rd_T51 l ((i+j) / 2)).f0).data.toList key.data.toList<0 then (impl_pairAt.l0 k l key ((i+j) / 2+1) j) else (impl_pairAt.l0 k l key i ((i+j) / 2))) else none) else none) else some i
def impl_pairAt.hit (l:List S51) (key:ByteArray) (r:Int):Bool:=decide (r<(l.length:Int)) && (Lib.compareBytes ((rd_T51 l r).f0).data.toList key.data.toList == 0)
def impl_pairAt.f (k:Nat) (l0:List S51) (a1:ByteArray):Option (Int × Bool):=(impl_pairAt.l0 k l0 a1 0 (l0.length:Int)).bind fun r=>if (l0.length:Int)<1000000000000 then (if 0≤r then (if r≤(l0.length:Int) then some (r,impl_pairAt.hit l0 a1 r) else none) else none) else none
theorem impl_pairAt.lit (x:S51) (key:ByteArray) (w:World) :
  Calls Tryz.prog 194 #[.agg #[.string x.f0,.string x.f1],.string key] w fun e w'=>e = .returned (.int .i64 (Lib.compareBytes x.f0.data.toList key.data.toList))∧Below w.heap.size w w' :=
 impl_pairAt_1.calls x.f0 x.f1 key _ w rfl
set_option maxHeartbeats 4000000 in
set_option maxRecDepth 100000 in
theorem impl_pairAt.search (k:Nat) (A0:Option Addr) (c0:Nat) (l0:List S51) (key:ByteArray) (r:Int) (w:World) (hr0:Kd.C k51 w A0 l0.length l0)
  (h:impl_pairAt.l0 k l0 key 0 (l0.length:Int)=some r) (hlen:(l0.length:Int)<1000000000000) (hr:0≤r) (hr':r≤(l0.length:Int)) :
  Calls Tryz.prog 193 #[.slice A0 l0.length c0,.string key,.func (.func 194) #[] #[]] w fun e w'=>e = .returned (.tuple #[.int .i64 r,.bool (impl_pairAt.hit l0 key r)])∧Below w.heap.size w w':=by
 have HR0:=ζa hr0
 have HB:=ζa (Below.refl w.heap.size w)
 clear hr0
 have H':=ζa h
 clear h
 go_enter Tryz.func193,Tryz.ntmps193
 go_wp2
 go_loopg [9,10] k (fun kq v9 v10 w' => ∃ i j:Int,v9 = .int .i64 i∧v10 = .int .i64 j∧0≤i∧i≤j∧j≤(l0.length:Int)∧Aside0 (impl_pairAt.l0 kq l0 key i j=some r)∧Aside0 (Below w.heap.size w w'))
 case atStart=>exact ⟨0,(l0.length:Int),rfl,rfl,by omega,by omega,by omega,H',HB⟩
 case round =>
  clear H' HB
  obtain ⟨i,j,rfl,rfl,g0,g1,g2,HA,HB⟩:=hrel
  cases gk with
  | zero=>exact absurd HA.out (by simp [impl_pairAt.l0])
  | succ k1 =>
   have H:=HA.out
   clear HA
   simp only [impl_pairAt.l0] at H
   by_cases c2:i<j
   ·
    rw [if_pos c2] at H
    have p0:0≤(i+j) / 2:=by omega
    have p1:(i+j) / 2<(l0.length:Int):=by omega
    rw [if_pos p0,if_pos p1] at H
    obtain ⟨ad,e1,hx0,hx1⟩:=at_T51 HR0.out _ p0 p1
    cases e1
    replace hx0:=(HB.out.cell (World.block_lt_of_cell? w _ hx0)).trans hx0
    replace hx1:=(HB.out.cell (World.block_lt_of_cell? w _ hx1)).trans hx1
    have hcall:=impl_pairAt.lit (rd_T51 l0 ((i+j) / 2)) key
    obtain ⟨X,hX⟩ : ∃ X,Lib.compareBytes ((rd_T51 l0 ((i+j) / 2)).f0).data.toList key.data.toList=X:=⟨_,rfl⟩
    rw [hX] at hcall H
    clear hX
    have hcall':=ζa hcall
    clear hcall
    go_wp2_with fail
    refine (hcall'.out _).mono ?_
    rintro e w' ⟨rfl,hb⟩
    have HB2:=ζa (δr HB.out hb)
    clear hb HB hcall'
    by_cases c3:X<0
    ·
     rw [if_pos c3] at H
     have H':=ζa H
     clear H hr hr'
     have hw1:IntKind.i64.wrap ((i+j) / 2+1)=(i+j) / 2+1:=IntWalk.i64_in _ (by omega)
     have q1:(i+j) / 2<j:=by omega
     have c3b:decide (X<0)=τ:=decide_eq_true c3
     clear c3
     generalize hm:(i+j) / 2=m at *
     clear hm p1
     go_wp2
     go_roundg k1
     case measure=>omega
     case rel=>exact ⟨m+1,j,by rfl,rfl,by omega,by omega,by omega,H',HB2⟩
    ·
     rw [if_neg c3] at H
     have H':=ζa H
     clear H hr hr'
     have q1:(i+j) / 2<j:=by omega
     have q2:i≤(i+j) / 2:=by omega
     have c3b:decide (X<0)=φ:=decide_eq_false c3
     clear c3
     generalize hm:(i+j) / 2=m at *
     clear hm p1
     go_wp2
     go_roundg k1
     case measure=>omega
     case rel=>exact ⟨i,m,rfl,by rfl,by omega,by omega,by omega,H',HB2⟩
   ·
    rw [if_neg c2] at H
    obtain rfl:=Option.some.inj H
    obtain rfl:i=j:=by omega
    by_cases c4:i<(l0.length:Int)
    ·
     obtain ⟨ad,e1,hx0,hx1⟩:=at_T51 HR0.out _ g0 c4
     cases e1
     replace hx0:=(HB.out.cell (World.block_lt_of_cell? w _ hx0)).trans hx0
     replace hx1:=(HB.out.cell (World.block_lt_of_cell? w _ hx1)).trans hx1
     have hfin:Aside0 (impl_pairAt.hit l0 key i=(Lib.compareBytes ((rd_T51 l0 i).f0).data.toList key.data.toList == 0)):=⟨by unfold impl_pairAt.hit;rw [decide_eq_true c4];rfl⟩
     have hcall:=impl_pairAt.lit (rd_T51 l0 i) key
     obtain ⟨X,hX⟩ : ∃ X,Lib.compareBytes ((rd_T51 l0 i).f0).data.toList key.data.toList=X:=⟨_,rfl⟩
     rw [hX] at hcall hfin
     clear hX
     have hcall':=ζa hcall
     clear hcall
     go_wp2_with fail
     refine (hcall'.out _).mono ?_
     rintro e w' ⟨rfl,hb⟩
     have HB2:=ζa (δr HB.out hb)
     clear hb HB hcall'
     go_wp2
     go_ret2
     exact ⟨by rw [hfin.out];rfl,HB2.out⟩
    ·
     have hfin:Aside0 (impl_pairAt.hit l0 key i=φ):=⟨by unfold impl_pairAt.hit;rw [decide_eq_false c4];rfl⟩
     go_wp2
     go_ret2
     exact ⟨by rw [hfin.out];rfl,HB.out⟩
set_option maxHeartbeats 4000000 in
set_option maxRecDepth 100000 in
theorem impl_pairAt.calls (k:Nat) (A0:Option Addr) (c0:Nat) (l0:List (S51)) (a1:ByteArray) (r1:Int) (r2:Bool) (w:World) (hr0:Kd.C k51 w A0 l0.length l0) (hc0:l0.length≤c0) (h:impl_pairAt.f k l0 a1=some (r1,r2)) :
  Calls Tryz.prog 162 #[.slice A0 l0.length c0,.string a1] w fun e w'=>e = .returned (.tuple #[.int .i64 r1,.bool r2])∧Below w.heap.size w w':=by
 obtain ⟨r,hl,h⟩:=Option.bind_eq_some_iff.mp h
 by_cases c1:(l0.length:Int)<1000000000000
 ·
  rw [if_pos c1] at h
  by_cases c2:0≤r
  ·
   rw [if_pos c2] at h
   by_cases c3:r≤(l0.length:Int)
   ·
    rw [if_pos c3] at h
    simp only [Option.some.injEq,Prod.mk.injEq] at h
    obtain ⟨rfl,rfl⟩:=h
    have HL:=ζa hl
    clear hl
    go_enter Tryz.func162,Tryz.ntmps162
    go_wp2_with fail
    refine (impl_pairAt.search k A0 c0 l0 a1 r _ hr0 HL.out c1 c2 c3).mono ?_
    rintro e w' ⟨rfl,hb⟩
    have HB2:=ζa hb
    clear hb
    go_wp2
    go_ret2
    exact ⟨rfl,HB2.out⟩
   · rw [if_neg c3] at h;cases h
  ·
   rw [if_neg c2] at h;cases h
 · rw [if_neg c1] at h;cases h


open Go.Proofs.YtabmfhnhmoiljaaGreatDoorW.PrintWords.Kd renaming R_reads' → ζg, R_drew → ζe
open Go.Proofs.YtabmfhnhmoiljaaGreatDoorW.PrintWords renaming below_drew1 → δj
open Go.Proofs.YtabmfhnhmoiljaaGreatDoorW.PrintLast renaming pure_ → ζk
open Go.Act renaming put → ζl
open List renaming setIfInBounds_toArray → δa, set_cons_zero → δb, set_cons_succ → δc

/-! ### slices_Delete_impl_Pair_impl_Pair: function 196 -/
theorem slices_Delete_impl_Pair_impl_Pair.clear_one {W:World} {g n c:Nat} {cur:Array Value} (hg:W.heap[g]? = some (.cells cur 51 (0,0))) (hcs:(n - 1) * 2+1<cur.size) (hn:1≤n) :
  (Builtin.clear_ #[24] 0 #[.slice (some ⟨g,(n - 1) * 2,none⟩) (n - (n - 1)) (c - (n - 1))]).run Tryz.prog W = .ok (.tuple #[]) ((W.setCell ⟨g,(n - 1) * 2,none⟩ (.string ⟨#[]⟩)).setCell ⟨g,(n - 1) * 2+1,none⟩ (.string ⟨#[]⟩)):=by
 have e:n - (n - 1)=1:=by omega
 rw [e]
 generalize (n - 1) * 2=o at *
 have hz : ∀ w,(zeroValue 51).run Tryz.prog w = .ok (.agg #[.string ⟨#[]⟩,.string ⟨#[]⟩]) w:=fun w=>by kernel_rfl
 have hst:=run_storeCells_cells (P:=Tryz.prog) g o [.string ⟨#[]⟩,.string ⟨#[]⟩] 0 W
  (fun j hj=>by
   simp only [World.cell?,hg]
   simp at hj
   rcases (show j=0 ∨ j=1 by omega) with rfl|rfl
   · simp;omega
   ·
    simp;omega)
  (fun j hj=>by simp [World.frozen?,hg]) (by intro v hv;simp at hv;subst hv;rfl)
 simp only [Nat.add_zero] at hst
 have hzc:(Builtin.zeroCells (Value.agg #[.string ⟨#[]⟩,.string ⟨#[]⟩]).cells 1).toList = [.string ⟨#[]⟩,.string ⟨#[]⟩]:=by kernel_rfl
 simp [Builtin.clear_,run_underlying Tryz.underlying24,hz,hzc,hst,World.setCells]
theorem slices_Delete_impl_Pair_impl_Pair.R_spare {w:World} {base g n cap:Nat} {xs:List S51} (h:Kd.R k51 51 w base (fun _=>True) (.slice (some ⟨g,0,none⟩) n cap) xs) (j:Nat) (hj:n * 2≤j) (u:Value) :
  Kd.R k51 51 (w.setCell ⟨g,j,none⟩ u) base (fun _=>True) (.slice (some ⟨g,0,none⟩) n cap) xs:=by
 have hn:=(ζg h).1
 obtain ⟨hok,inner,hown,hr⟩:=h
 refine ⟨hok,inner,?_,hr.imp_ (fun p c hp=>by rw [k51_openM hp];exact k51_mkM _ _ _ p)⟩
 rw [← hn] at hown ⊢
 have h1:=(hown.stored j u).1
 have hl:inner.length=n * 2:=hown.1
 rw [List.set_eq_of_length_le (by omega)] at h1
 exact h1
set_option maxHeartbeats 1000000 in
set_option maxRecDepth 100000 in
theorem slices_Delete_impl_Pair_impl_Pair.calls (base g n c i:Nat) (xs:List S51) (w0 w:World) (ho:Kd.R k51 51 w base (fun _=>True) (.slice (some ⟨g,0,none⟩) n c) xs) (hi:i<n) (hn:n≤1000000) (hnc:n≤c) (hc:c≤9223372036854775807) (hb:Below base w0 w) (hbs:base≤w.heap.size) :
  Calls Tryz.prog 196 #[.slice (some ⟨g,0,none⟩) n c,.int .i64 i,.int .i64 ((i+1:Nat):Int)] w fun e w'=>e = .returned (.slice (some ⟨g,0,none⟩) (n - 1) c)∧Kd.R k51 51 w' base (fun _=>True) (.slice (some ⟨g,0,none⟩) (n - 1) c) (xs.eraseIdx i)∧Below base w0 w':=by
 have HO:=ζa ho
 have HB:=ζa hb
 clear ho hb
 go_enter Tryz.func196,Tryz.ntmps196
 go_wp2_with fail
 have hil:(i+1)≤n:=by omega
 have hlen:=ζa (ζg HO.out).1
 have HB1:=ζa (δj HB.out)
 have HO1:=ζa (ζe HO.out)
 clear HB HO
 refine start_ (n:=8) (S:=fun _=>True) (ds:=[]) #[φ,φ,φ,φ,φ,φ,φ,φ] (by kernel_rfl) rfl rfl trivial (fun hHeld => ?_)
 have hbs1:base≤w.drew.heap.size:=hbs
 clear hbs
 generalize w.drew=w1 at HB1 HO1 hbs1 ⊢
 refine ζk (i:=0) (N:=some 20) (v:=?_) (a':=?_) #[τ,φ,φ,φ,φ,φ,φ,φ] rfl rfl (by kernel_rfl) (fun _ _ _ h=>h) (Or.inl ⟨by rfl,?_⟩) ?_ ?_
 rotate_left
 · intro w';go_simp;with_reducible rfl
 rotate_left
 · simp only [ζl,δa,δb,δc,i64_w,i32_w];rfl
 refine ζk (i:=1) (N:=some 21) (v:=?_) (a':=?_) #[τ,τ,φ,φ,φ,φ,φ,φ] rfl rfl (by kernel_rfl) (fun _ _ _ h=>h) (Or.inl ⟨by rfl,?_⟩) ?_ ?_
 rotate_left
 · intro w';go_simp;with_reducible rfl
 rotate_left
 · simp only [ζl,δa,δb,δc,i64_w,i32_w];rfl
 refine ζk (i:=2) (N:=some 22) (v:=?_) (a':=?_) #[τ,τ,τ,φ,φ,φ,φ,φ] rfl rfl (by kernel_rfl) (fun _ _ _ h=>h) (Or.inl ⟨by rfl,?_⟩) ?_ ?_
 rotate_left
 ·
  intro w'
  go_simp
  rw [if_pos (by omega)]
 rotate_left
 · simp only [ζl,δa,δb,δc,i64_w,i32_w];rfl
 refine ζk (i:=3) (N:=some 23) (v:=?_) (a':=?_) #[τ,τ,τ,τ,φ,φ,φ,φ] rfl rfl (by kernel_rfl) (fun _ _ _ h=>h) (Or.inl ⟨by rfl,?_⟩) ?_ ?_
 rotate_left
 · intro w';go_simp;with_reducible rfl
 rotate_left
 · simp only [ζl,δa,δb,δc,i64_w,i32_w];rfl
 refine ζk (i:=4) (N:=some 24) (v:=?_) (a':=?_) #[τ,τ,τ,τ,τ,φ,φ,φ] rfl rfl (by kernel_rfl) (fun _ _ _ h=>h) (Or.inl ⟨by rfl,?_⟩) ?_ ?_
 rotate_left
 · intro w';go_simp;with_reducible rfl
 rotate_left
 · simp only [ζl,δa,δb,δc,i64_w,i32_w];rfl
 refine ζk (i:=5) (N:=some 25) (v:=?_) (a':=?_) #[τ,τ,τ,τ,τ,τ,φ,φ] rfl rfl (by kernel_rfl) (fun _ _ _ h=>h) (Or.inl ⟨by rfl,?_⟩) ?_ ?_
 rotate_left
 ·
  intro w'
  go_simp
  rw [if_pos (by omega)]
 rotate_left
 · simp only [ζl,δa,δb,δc,i64_w,i32_w];rfl
 refine one_ (i:=6) (N:=some 26) #[τ,τ,τ,τ,τ,τ,τ,φ] rfl rfl (by kernel_rfl) (by decide) (fun K hK => ?_)
 refine Kd.R_delete_step (w0:=w0) k51 base (by rfl) (.tmp 22) (.tmp 25) 24 51 rfl Tryz.underlying24 (by kernel_rfl) (g:=g) (n:=n) (c:=c) (k:=i) (m:=n - (i+1)) (c2:=c - (i+1)) (ok:=fun _=>True) rfl rfl ?hA rfl HO1.out hi HB1.out hbs1 ?_
 case hA =>
  by_cases hc1:c=i+1
  · rw [if_pos hc1,if_pos hc1]
  ·
   rw [if_neg hc1,if_neg hc1,Option.map_some,add_plain]
   rfl
 intro w2 ho2 hb2 hg2
 refine hK.out _ _ trivial (fun hHeld => ?_)
 clear hK K
 refine norm_ (a':=?_) ?_ ?_
 rotate_left
 ·
  show ζl _ (some 26) _=_
  simp only [ζl,δa,δb,δc,i64_w,i32_w];rfl
 refine ζk (i:=7) (N:=some 0) (v:=?_) (a':=?_) #[τ,τ,τ,τ,τ,τ,τ,τ] rfl rfl (by kernel_rfl) (fun _ _ _ h=>h) (Or.inl ⟨by rfl,?_⟩) ?_ ?_
 rotate_left
 · intro w';go_simp;with_reducible rfl
 rotate_left
 · simp only [ζl,δa,δb,δc,i64_w,i32_w];rfl
 refine done_ (by kernel_rfl) ?_
 generalize (if c=i+1 then some (⟨g,0,none⟩:Addr) else some ⟨g,(i+1) * 2,none⟩)=vv
 have hrow : ∃ cur:Array Value,w2.heap[g]? = some (.cells cur 51 (0,0))∧cur.size=c * 2:=by
  obtain ⟨_,inner,hown,_⟩:=ho2
  rcases hown.2 with ⟨h',_⟩|⟨g',cap',cur,h',_,hg,_,_,hcs,_⟩
  · simp at h'
  ·
   simp only [Value.slice.injEq,Option.some.injEq,Addr.mk.injEq,and_true,true_and] at h'
   obtain ⟨rfl,_,rfl⟩:=h'
   exact ⟨cur,hg,hcs⟩
 obtain ⟨cur,hcur,hcsz⟩:=hrow
 have hcl:=slices_Delete_impl_Pair_impl_Pair.clear_one (n:=n) (c:=c) hcur (by rw [hcsz];omega) (by omega)
 have HO3:=ζa (slices_Delete_impl_Pair_impl_Pair.R_spare (slices_Delete_impl_Pair_impl_Pair.R_spare ho2 ((n - 1) * 2) (Nat.le_refl _) (.string ⟨#[]⟩)) ((n - 1) * 2+1) (Nat.le_succ _) (.string ⟨#[]⟩))
 have hge:base≤g:=Kd.R_base ho2 g rfl
 have HB3:=ζa ((hb2.setCell (p:=⟨g,(n - 1) * 2,none⟩) hge (.string ⟨#[]⟩)).setCell (p:=⟨g,(n - 1) * 2+1,none⟩) hge (.string ⟨#[]⟩))
 clear hcur hcsz ho2 hb2 hg2 HB1 HO1
 go_wp2
 go_ret
 exact ⟨rfl,HO3.out,HB3.out⟩


open Go.Proofs.YtabmfhnhmoiljaaGreatDoorW.PrintWords.Kd renaming R_below → ζh, R_reads' → ζg

/-! ### impl_drop: function 163 -/
def impl_drop.f (k:Nat) (l0:List (S51)) (a1:ByteArray):Option (List (S51) × Int) :=
 if l0.length≤1000000 then ((impl_pairAt.f k l0 a1).bind fun b=>if b.2=τ then (if 0≤b.1 then (if b.1<(l0.length:Int) then some (l0.eraseIdx b.1.toNat,0) else none) else none) else some (l0,5)) else none
set_option maxHeartbeats 2000000 in
set_option maxRecDepth 100000 in
theorem impl_drop.calls (k:Nat) (A0:Option Addr) (c0:Nat) (l0:List (S51)) (a1:ByteArray) (r1:List (S51)) (r2:Int) (w:World) (hr0:Kd.C k51 w A0 l0.length l0) (hc0:l0.length≤c0) (h:impl_drop.f k l0 a1=some (r1,r2)) :
  Calls Tryz.prog 163 #[.slice A0 l0.length c0,.string a1] w fun e w' => ∃ v0_:Value,e = .returned (.tuple #[v0_,.int .i64 r2])∧Kd.R k51 51 w' w.heap.size (fun _=>True) v0_ r1∧Below w.heap.size w w':=by
 unfold impl_drop.f at h
 by_cases hl:l0.length≤1000000
 ·
  rw [if_pos hl] at h
  obtain ⟨⟨b1,b2⟩,h1,h⟩:=Option.bind_eq_some_iff.mp h
  have H1:=ζa h1
  have HL:=ζa hl
  have HR0:=ζa hr0
  have HC0:=ζa hc0
  have HCL:Aside0 (slices_Clone_impl_Pair_impl_Pair.f l0=some l0):=⟨by unfold slices_Clone_impl_Pair_impl_Pair.f;rw [if_pos (by omega)]⟩
  clear h1 hr0 hc0 hl
  cases b2 with
  | false =>
   simp only [Bool.false_eq_true,if_false,Option.some.injEq,Prod.mk.injEq] at h
   obtain ⟨rfl,rfl⟩:=h
   go_enter Tryz.func163,Tryz.ntmps163
   go_wp2_with fail
   refine (slices_Clone_impl_Pair_impl_Pair.calls A0 c0 l0 l0 _ HR0.out HC0.out HCL.out).mono ?_
   rintro e w' ⟨v,rfl,ho,hb⟩
   obtain ⟨A,c,rfl,hnc,hrc⟩:=Kd.R_reads ho
   have HO:=ζa ho
   have HB:=ζa hb
   have HC:=ζa hrc
   have HN:=ζa hnc
   clear ho hb hrc hnc
   go_wp2_with fail
   refine (impl_pairAt.calls k A c l0 a1 b1 φ _ HC.out HN.out H1.out).mono ?_
   rintro e w2 ⟨rfl,hb2⟩
   have HO2:=ζa (ζh HO.out hb2)
   have HB2:=ζa (δr HB.out hb2)
   clear hb2
   go_wp2
   go_ret2
   exact ⟨_,rfl,HO2.out,HB2.out⟩
  | true =>
   simp only [if_true] at h
   by_cases g1:0≤b1
   ·
    rw [if_pos g1] at h
    by_cases g2:b1<(l0.length:Int)
    ·
     rw [if_pos g2] at h
     simp only [Option.some.injEq,Prod.mk.injEq] at h
     obtain ⟨rfl,rfl⟩:=h
     obtain ⟨i,rfl⟩ : ∃ i:Nat,b1=(i:Int):=⟨b1.toNat,by omega⟩
     have hi:i<l0.length:=by omega
     have HI:=ζa hi
     have hib:i≤1000000:=by have:=HL.out;omega
     clear g1 g2 hi
     go_enter Tryz.func163,Tryz.ntmps163
     go_wp2_with fail
     refine (slices_Clone_impl_Pair_impl_Pair.calls A0 c0 l0 l0 _ HR0.out HC0.out HCL.out).mono ?_
     rintro e w' ⟨v,rfl,ho,hb⟩
     have hshape : ∃ g c,v = .slice (some ⟨g,0,none⟩) l0.length c∧l0.length≤c∧c≤maxLen:=by
      obtain ⟨_,inner,hown,_⟩:=ho
      rcases hown.2 with ⟨_,h0⟩|⟨g,cap,cur,hv,_,_,hn,hm,_⟩
      · have:=HI.out;omega
      ·
       exact ⟨g,cap,hv,hn,hm⟩
     obtain ⟨g,c,rfl,hnc,hcm⟩:=hshape
     have HC:=ζa (ζg ho).2.2
     have HO:=ζa ho
     have HB:=ζa hb
     have HN:=ζa hnc
     have HM:=ζa hcm
     clear ho hb hnc hcm
     go_wp2_with fail
     refine (impl_pairAt.calls k (some ⟨g,0,none⟩) c l0 a1 i τ _ HC.out HN.out H1.out).mono ?_
     rintro e w2 ⟨rfl,hb2⟩
     have HO2:=ζa (ζh HO.out hb2)
     have HB2:=ζa (δr HB.out hb2)
     clear hb2
     go_wp2_with fail
     refine (slices_Delete_impl_Pair_impl_Pair.calls w.heap.size g l0.length c i l0 w _ HO2.out HI.out HL.out HN.out (by have:=HM.out;unfold maxLen at this;omega) HB2.out HB2.out.size).mono ?_
     rintro e w3 ⟨rfl,ho3,hb3⟩
     have HO3:=ζa ho3
     have HB3:=ζa hb3
     clear ho3 hb3
     go_wp2
     go_ret2
     exact ⟨_,rfl,HO3.out,HB3.out⟩
    · rw [if_neg g2] at h;cases h
   ·
    rw [if_neg g1] at h;cases h
 · rw [if_neg hl] at h;cases h


open Bool renaming true → τ

/-! ### impl_all: function 109 -/
/-- A function value and what it captures. -/
abbrev FV:=Nat × Array Value
def encF (x:FV):Value:=.func (.func x.1) #[] x.2
/-- A function value that does F to a store: in this world and in all later ones. -/
structure Chg (w:World) (x:FV) (F:List S51→Option (List S51 × Int)):Prop where
 enters : ∀ args w,(callFunc x.1 args).run Tryz.prog w = .ok (.enter x.1 args) w
 calls : ∀ (W:World) (A:Option Addr) (c:Nat) (l r:List S51) (code:Int),Below w.heap.size w W→Kd.C k51 W A l.length l→l.length≤c→F l=some (r,code) →
  Calls Tryz.prog x.1 (#[.slice A l.length c] ++ x.2) W fun e W' => ∃ v0,e = .returned (.tuple #[v0,.int .i64 code])∧(code=0→Kd.R k51 51 W' W.heap.size (fun _=>True) v0 r)∧Below W.heap.size W W'
theorem Chg.below {w W:World} {x:FV} {F:List S51→Option (List S51 × Int)} (h:Chg w x F) (hb:Below w.heap.size w W):Chg W x F :=
 ⟨h.enters,fun W2 A c l r code hb2=>h.calls W2 A c l r code (δr hb hb2)⟩
/-- The same,and what it hands back is always its own. -/
structure ChgR (w:World) (x:FV) (F:List S51→Option (List S51 × Int)):Prop where
 enters : ∀ args w,(callFunc x.1 args).run Tryz.prog w = .ok (.enter x.1 args) w
 calls : ∀ (W:World) (A:Option Addr) (c:Nat) (l r:List S51) (code:Int),Below w.heap.size w W→Kd.C k51 W A l.length l→l.length≤c→F l=some (r,code) →
  Calls Tryz.prog x.1 (#[.slice A l.length c] ++ x.2) W fun e W' => ∃ v0,e = .returned (.tuple #[v0,.int .i64 code])∧Kd.R k51 51 W' W.heap.size (fun _=>True) v0 r∧Below W.heap.size W W'
theorem ChgR.below {w W:World} {x:FV} {F:List S51→Option (List S51 × Int)} (h:ChgR w x F) (hb:Below w.heap.size w W):ChgR W x F :=
 ⟨h.enters,fun W2 A c l r code hb2=>h.calls W2 A c l r code (δr hb hb2)⟩
theorem ChgR.chg {w:World} {x:FV} {F:List S51→Option (List S51 × Int)} (h:ChgR w x F):Chg w x F :=
 ⟨h.enters,fun W A c l r code hb hr hc hF=>(h.calls W A c l r code hb hr hc hF).mono (fun _ _ ⟨v,e,ho,hb⟩=>⟨v,e,fun _=>ho,hb⟩)⟩
theorem chg_nil {w:World} : ∀ (i:Nat) (x:FV) (F:List S51→Option (List S51 × Int)),([]:List FV)[i]? = some x→([]:List (List S51→Option (List S51 × Int)))[i]? = some F→Chg w x F:=fun _ _ _ h=>by simp at h
theorem chg_cons {w:World} {x0:FV} {F0:List S51→Option (List S51 × Int)} {xs:List FV} {Fs:List (List S51→Option (List S51 × Int))} (h:Chg w x0 F0) (t : ∀ (i:Nat) x F,xs[i]? = some x→Fs[i]? = some F→Chg w x F) : ∀ (i:Nat) x F,(x0 :: xs)[i]? = some x→(F0 :: Fs)[i]? = some F→Chg w x F
 | 0,x,F,hx,hF=>by
  simp only [List.getElem?_cons_zero,Option.some.injEq] at hx hF
  subst hx hF
  exact h
 | i+1,x,F,hx,hF=>t i x F (by simpa using hx) (by simpa using hF)
def kF:Kd FV:=Kd.scalar encF (fun _=>rfl)
theorem at_F {w:World} {A:Option Addr} {n:Nat} {xs:List FV} (h:kF.C w A n xs) (i:Int) (h0:0≤i) (h1:i<n) : ∃ ad,A=some ad∧w.cell? (ad.add i.toNat)=some (encF (rdOf (0,#[]) xs i)) :=
 ReadsOf.at_ (Kd.reads_of_C (enc:=encF) (d:=(0,#[])) (h1:=fun _=>rfl) h) i h0 h1
def impl_all.go (k:Nat) (l0:List S51):List (List S51→Option (List S51 × Int))→List S51→Option (List S51 × Int)
 | [],o=>some (o,0)
 | F :: Fs,o=>(F o).bind fun b=>if b.2=0 then impl_all.go k l0 Fs b.1 else (impl_drop.f k l0 ⟨#[]⟩).bind fun d=>some (d.1,b.2)
def impl_all.f (k:Nat) (l0:List S51) (Fs:List (List S51→Option (List S51 × Int))):Option (List S51 × Int):=(impl_drop.f k l0 ⟨#[]⟩).bind fun d=>impl_all.go k l0 Fs d.1
set_option maxHeartbeats 4000000 in
set_option maxRecDepth 100000 in
theorem impl_all.calls (k:Nat) (A0:Option Addr) (c0:Nat) (l0:List S51) (B:Option Addr) (cB:Nat) (xs:List FV) (Fs:List (List S51→Option (List S51 × Int))) (r1:List S51) (r2:Int) (w:World) (hr0:Kd.C k51 w A0 l0.length l0) (hc0:l0.length≤c0) (hx:kF.C w B xs.length xs) (hlen:xs.length=Fs.length) (hchg : ∀ (i:Nat) x F,xs[i]? = some x→Fs[i]? = some F→Chg w x F) (h:impl_all.f k l0 Fs=some (r1,r2)) :
  Calls Tryz.prog 109 #[.slice A0 l0.length c0,.slice B xs.length cB] w fun e w' => ∃ v0_:Value,e = .returned (.tuple #[v0_,.int .i64 r2])∧Kd.R k51 51 w' w.heap.size (fun _=>True) v0_ r1∧Below w.heap.size w w':=by
 obtain ⟨⟨d1,d2⟩,h1,h⟩:=Option.bind_eq_some_iff.mp h
 have H1:=ζa h1
 have HG:=ζa h
 have HR0:=ζa hr0
 have HC0:=ζa hc0
 have HX:=ζa hx
 have HL:=ζa hlen
 have HCH:=ζa hchg
 have hmax:xs.length≤9223372036854775807:=hx.2.1
 clear h1 h hr0 hc0 hx hlen hchg
 go_enter Tryz.func109,Tryz.ntmps109
 go_wp2_with fail
 refine (impl_drop.calls k A0 c0 l0 ⟨#[]⟩ d1 d2 _ HR0.out HC0.out H1.out).mono ?_
 rintro e w1 ⟨v,rfl,ho,hb⟩
 have HO:=ζa ho
 have HB:=ζa hb
 clear ho hb
 go_wp2_with fail
 go_loopg [6,21] xs.length (fun gg s6 s21 wr => ∃ (kk:Nat) (o:List S51),kk≤xs.length∧xs.length - kk≤gg∧s21 = .int .i64 kk∧Aside0 (Kd.R k51 51 wr w.heap.size (fun _=>True) s6 o)∧Aside0 (impl_all.go k l0 (Fs.drop kk) o=some (r1,r2))∧Aside0 (Below w.heap.size w wr))
 case atStart=>exact ⟨0,d1,Nat.zero_le _,by omega,rfl,⟨by repeat (exact HO.out)⟩,HG,⟨by repeat (exact HB.out)⟩⟩
 case round =>
  clear HO HB HG
  obtain ⟨kk,o,hkk,hg,rfl,HO,HG,HB⟩:=hrel
  by_cases hlt:kk<xs.length
  ·
   have hltz:(kk:Int)<(xs.length:Int):=by omega
   have p0:0≤(kk:Int):=by omega
   obtain ⟨ad,e1,hx0⟩:=at_F HX.out kk p0 hltz
   cases e1
   rw [Int.toNat_natCast] at hx0
   replace hx0:=(HB.out.cell (World.block_lt_of_cell? w _ hx0)).trans hx0
   have hxk:xs[kk]? = some (rdOf (0,#[]) xs kk):=by
    simp only [rdOf,Int.toNat_natCast,List.getD_eq_getElem?_getD]
    rw [List.getElem?_eq_getElem hlt];rfl
   have hFk:kk<Fs.length:=by rw [← HL.out];exact hlt
   have hch:=HCH.out kk _ (Fs[kk]) hxk (List.getElem?_eq_getElem hFk)
   have hG:=HG.out
   rw [List.drop_eq_getElem_cons hFk] at hG
   obtain ⟨⟨n1,n2⟩,hF,hG⟩:=Option.bind_eq_some_iff.mp hG
   generalize rdOf (0,#[]) xs kk=x at *
   obtain ⟨g,lb⟩:=x
   replace hx0:wr.cell? (ad.add kk)=some (.func (.func g) #[] lb):=hx0
   have eg:=hch.enters
   replace eg : ∀ args w,(callFunc g args).run Tryz.prog w = .ok (.enter g args) w:=eg
   obtain ⟨A,c,rfl,hnc,hrc⟩:=Kd.R_reads HO.out
   have HCHG:=ζa hch
   have HF:=ζa hF
   have HO':=HO
   clear hch hF hxk
   go_wp2_with fail
   refine (HCHG.out.calls _ A c o n1 n2 (by repeat (exact HB.out)) (by repeat (exact hrc)) hnc HF.out).mono ?_
   rintro e w2 ⟨v2,rfl,ho2,hb2⟩
   have HB2:=ζa (δr HB.out hb2)
   have HO2:Aside0 (n2=0→Kd.R k51 51 w2 w.heap.size (fun _=>True) v2 n1):=⟨fun h0=>Kd.R_lower (ho2 h0) HB.out.size⟩
   clear ho2 hb2 hrc
   by_cases c2:n2=0
   ·
    subst c2
    rw [if_pos rfl] at hG
    have HG2:=ζa hG
    have HO3:=ζa (HO2.out rfl)
    clear hG HO2 HO HO' HB HG
    go_wp2
    go_roundg (xs.length - (kk+1))
    case measure=>omega
    case rel=>exact ⟨kk+1,n1,by omega,by omega,by go_num,HO3,HG2,HB2⟩
   ·
    rw [if_neg c2] at hG
    obtain ⟨⟨z1,z2⟩,hd,hG⟩:=Option.bind_eq_some_iff.mp hG
    simp only [Option.some.injEq,Prod.mk.injEq] at hG
    obtain ⟨rfl,rfl⟩:=hG
    have HD:=ζa hd
    have c2b:(n2 != 0)=τ:=bne_iff_ne.mpr c2
    clear hd c2
    go_wp2_with fail
    refine (impl_drop.calls k A0 c0 l0 ⟨#[]⟩ z1 z2 _ (by repeat (exact Kd.C_below HR0.out HB2.out)) HC0.out HD.out).mono ?_
    rintro e w3 ⟨v3,rfl,ho3,hb3⟩
    have HB3:=ζa (δr HB2.out hb3)
    have HO3:=ζa (Kd.R_lower ho3 HB2.out.size)
    clear ho3 hb3
    go_wp2
    go_ret2
    exact ⟨_,rfl,HO3.out,HB3.out⟩
  ·
   have hltz : ¬ (kk:Int)<(xs.length:Int):=by omega
   have hk:kk=xs.length:=by omega
   have hG:=HG.out
   rw [hk,HL.out,List.drop_length] at hG
   simp only [impl_all.go,Option.some.injEq,Prod.mk.injEq] at hG
   obtain ⟨rfl,rfl⟩:=hG
   go_wp2
   go_ret2
   exact ⟨_,rfl,HO.out,HB.out⟩



/-! ### impl_isAmount: function 128 -/
def impl_isAmount.f (a0:Int):Option (Bool):=(impl_within.f a0 0 1000000000000000000).bind fun t178=>(some t178)
set_option maxHeartbeats 8000000 in
set_option maxRecDepth 100000 in
theorem impl_isAmount.calls (a0:Int) (r:Bool) (w:World) (h:impl_isAmount.f a0=some r) :
  Calls Tryz.prog 128 #[.int .i64 a0] w fun e w'=>e = .returned (.bool r)∧Drawn0 w w':=by
 have H:((impl_within.f a0 0 1000000000000000000).bind fun t178=>(some t178))=some r:=h
 clear h
 replace H:=Option.bind_eq_some_iff.mp H
 obtain ⟨t178,A20,H⟩:=H
 replace H:(some t178)=some r:=H
 have A2:=ζa A20
 clear A20
 obtain rfl:=Option.some.inj H
 go_enter Tryz.func128,Tryz.ntmps128
 go_wp2_with (((with_reducible refine δv (f:=161) rfl ?_);refine goesL_ (some 4) rfl rfl Tryz.func161 (by kernel_rfl) rfl #[.int .i64 a0,.int .i64 0,.int .i64 1000000000000000000] rfl (by (try simp only [δd,δe,δf]);rfl) ?_;(with_reducible refine (impl_within.calls a0 0 1000000000000000000 t178 _ A2.out).mono ?_);rintro e w' ⟨rfl,⟨nd,rfl⟩⟩;refine ⟨_,rfl,?_⟩))
 go_ret
 exact ⟨by rfl,by repeat (first|exact Drawn0.refl _|apply Drawn0.step)⟩



/-! ### impl_SubAmount: function 185 -/
def impl_SubAmount.j0:Nat→Int→Int→Bool→Option (Int × Int)
 | 0,_,_,_=>none
 | k+1,x0,x1,x6=>if x6=τ then (some (0,4)) else (if x0<x1 then (some (0,12)) else (some (ζm (x0 - x1),0)))
def impl_SubAmount.f (k:Nat) (a0:Int) (a1:Int):Option (Int × Int):=(impl_isAmount.f a0).bind fun t179=>(if t179=τ then ((impl_isAmount.f a1).bind fun t180=>(impl_SubAmount.j0 k a0 a1 (!t180))) else (impl_SubAmount.j0 k a0 a1 τ))
set_option maxHeartbeats 8000000 in
set_option maxRecDepth 100000 in
theorem impl_SubAmount.calls (k:Nat) (a0:Int) (a1:Int) (r1:Int) (r2:Int) (w:World) (h:impl_SubAmount.f k a0 a1=some (r1,r2)) :
  Calls Tryz.prog 185 #[.int .i64 a0,.int .i64 a1] w fun e w'=>e = .returned (.tuple #[.int .i64 r1,.int .i64 r2])∧Drawn0 w w':=by
 have H:((impl_isAmount.f a0).bind fun t179=>(if t179=τ then ((impl_isAmount.f a1).bind fun t180=>(impl_SubAmount.j0 k a0 a1 (!t180))) else (impl_SubAmount.j0 k a0 a1 τ)))=some (r1,r2):=h
 clear h
 have HC3:=ζa H
 clear H
 go_enter Tryz.func185,Tryz.ntmps185
 go_upto_region 1 with (fail)
 go_cut [6] (fun v6 wc => ∃ (kq:Nat) (x6_2:Bool),v6 = .bool x6_2∧Aside0 (impl_SubAmount.j0 kq a0 a1 x6_2=some (r1,r2))∧Aside0 (kq≤k)∧Drawn0 w wc)
 case first =>
  have H:=HC3.out
  clear HC3
  replace H:=Option.bind_eq_some_iff.mp H
  obtain ⟨t179,A40,H⟩:=H
  replace H:(if t179=τ then ((impl_isAmount.f a1).bind fun t180=>(impl_SubAmount.j0 k a0 a1 (!t180))) else (impl_SubAmount.j0 k a0 a1 τ))=some (r1,r2):=H
  have A4:=ζa A40
  clear A40
  by_cases c5:t179=τ
  ·
   subst c5
   have H1:((impl_isAmount.f a1).bind fun t180=>(impl_SubAmount.j0 k a0 a1 (!t180)))=some (r1,r2):=by rw [if_pos rfl] at H;exact H
   clear H
   have H:=H1
   clear H1
   replace H:=Option.bind_eq_some_iff.mp H
   obtain ⟨t180,A60,H⟩:=H
   replace H:(impl_SubAmount.j0 k a0 a1 (!t180))=some (r1,r2):=H
   have A6:=ζa A60
   clear A60
   have H':=ζa H
   clear H
   go_wp2_with (first|((with_reducible refine δv (f:=128) rfl ?_);refine goesL_ (some 8) rfl rfl Tryz.func128 (by kernel_rfl) rfl #[.int .i64 a0] rfl (by (try simp only [δd,δe,δf]);rfl) ?_;(with_reducible refine (impl_isAmount.calls a0 τ _ A4.out).mono ?_);rintro e w' ⟨rfl,⟨nd,rfl⟩⟩;refine ⟨_,rfl,?_⟩)|(go_at_call 128;(with_reducible refine (impl_isAmount.calls a1 t180 _ A6.out).mono ?_);rintro e w' ⟨rfl,⟨nd,rfl⟩⟩))
   go_meet
   case rel=>exact ⟨_,(!t180),(by rfl),H',⟨by omega⟩,by repeat (first|exact Drawn0.refl _|apply Drawn0.step)⟩
  ·
   replace c5:=Bool.eq_false_iff.mpr c5
   subst c5
   have H1:(impl_SubAmount.j0 k a0 a1 τ)=some (r1,r2):=by rw [if_neg (show ¬ (φ=τ) by decide)] at H;exact H
   clear H
   have H:=H1
   clear H1
   have H':=ζa H
   clear H
   go_wp2_with (((with_reducible refine δv (f:=128) rfl ?_);refine goesL_ (some 8) rfl rfl Tryz.func128 (by kernel_rfl) rfl #[.int .i64 a0] rfl (by (try simp only [δd,δe,δf]);rfl) ?_;(with_reducible refine (impl_isAmount.calls a0 φ _ A4.out).mono ?_);rintro e w' ⟨rfl,⟨nd,rfl⟩⟩;refine ⟨_,rfl,?_⟩))
   go_meet
   case rel=>exact ⟨_,(τ),(by rfl),H',⟨by omega⟩,by repeat (first|exact Drawn0.refl _|apply Drawn0.step)⟩
 case rest =>
  clear HC3
  try clear c1
  try clear p2
  try clear c5
  obtain ⟨kq,x6_2,rfl,HA,HJ2,⟨mc2,rfl⟩⟩:=hcut
  cases kq with
  | zero=>exact absurd HA.out (by simp [impl_SubAmount.j0])
  | succ kj2 =>
   have H:=HA.out
   clear HA
   simp only [impl_SubAmount.j0] at H
   by_cases c7:x6_2=τ
   ·
    subst c7
    have H1:(some (0,4))=some (r1,r2):=by rw [if_pos rfl] at H;exact H
    clear H
    have H:=H1
    clear H1
    simp only [Option.some.injEq,Prod.mk.injEq] at H
    obtain ⟨rfl,rfl⟩:=H
    go_wp2
    go_ret2
    exact ⟨by rfl,by repeat (first|exact Drawn0.refl _|apply Drawn0.step)⟩
   ·
    replace c7:=Bool.eq_false_iff.mpr c7
    subst c7
    have H1:(if a0<a1 then (some (0,12)) else (some (ζm (a0 - a1),0)))=some (r1,r2):=by rw [if_neg (show ¬ (φ=τ) by decide)] at H;exact H
    clear H
    have H:=H1
    clear H1
    by_cases c8:a0<a1
    ·
     rw [if_pos c8] at H
     have c8b0:decide (a0<a1)=τ:=decide_eq_true c8
     clear c8
     simp only [Option.some.injEq,Prod.mk.injEq] at H
     obtain ⟨rfl,rfl⟩:=H
     go_wp2
     go_ret2
     exact ⟨by rfl,by repeat (first|exact Drawn0.refl _|apply Drawn0.step)⟩
    ·
     rw [if_neg c8] at H
     have c8b0:decide (a0<a1)=φ:=decide_eq_false c8
     clear c8
     simp only [Option.some.injEq,Prod.mk.injEq] at H
     obtain ⟨rfl,rfl⟩:=H
     go_wp2
     go_ret2
     exact ⟨by rfl,by repeat (first|exact Drawn0.refl _|apply Drawn0.step)⟩


open Go.Proofs.YtabmfhnhmoiljaaGreatDoorW.PrintWords renaming gate_callee → δv, below_step → δr

/-! ### impl_get: function 107 -/
def impl_get.f (k:Nat) (l0:List (S51)) (a1:ByteArray):Option (ByteArray × Bool):=(impl_pairAt.f k l0 a1).bind fun bt181=>(if bt181.2=τ then (if 0≤bt181.1 then (if bt181.1<(l0.length:Int) then (some ((rd_T51 l0 bt181.1).f1,τ)) else (none)) else (none)) else (some ((⟨#[]⟩:ByteArray),φ)))
set_option maxHeartbeats 8000000 in
set_option maxRecDepth 100000 in
theorem impl_get.calls (k:Nat) (A0:Option Addr) (c0:Nat) (l0:List (S51)) (a1:ByteArray) (r1:ByteArray) (r2:Bool) (w:World) (hr0:Kd.C k51 w A0 l0.length l0) (hc0:l0.length≤c0) (h:impl_get.f k l0 a1=some (r1,r2)) :
  Calls Tryz.prog 107 #[.slice A0 l0.length c0,.string a1] w fun e w'=>e = .returned (.tuple #[.string r1,.bool r2])∧Below w.heap.size w w':=by
 have HR0:=ζa hr0
 have HC0:=ζa hc0
 clear hr0 hc0
 have HB:=ζa (Below.refl w.heap.size w)
 have H:((impl_pairAt.f k l0 a1).bind fun bt181=>(if bt181.2=τ then (if 0≤bt181.1 then (if bt181.1<(l0.length:Int) then (some ((rd_T51 l0 bt181.1).f1,τ)) else (none)) else (none)) else (some ((⟨#[]⟩:ByteArray),φ))))=some (r1,r2):=h
 clear h
 replace H:=Option.bind_eq_some_iff.mp H
 obtain ⟨⟨t181,t182⟩,A30,H⟩:=H
 replace H:(if t182=τ then (if 0≤t181 then (if t181<(l0.length:Int) then (some ((rd_T51 l0 t181).f1,τ)) else (none)) else (none)) else (some ((⟨#[]⟩:ByteArray),φ)))=some (r1,r2):=H
 have A3:=ζa A30
 clear A30
 by_cases c4:t182=τ
 ·
  subst c4
  have H1:(if 0≤t181 then (if t181<(l0.length:Int) then (some ((rd_T51 l0 t181).f1,τ)) else (none)) else (none))=some (r1,r2):=by rw [if_pos rfl] at H;exact H
  clear H
  have H:=H1
  clear H1
  by_cases c5:0≤t181
  ·
   rw [if_pos c5] at H
   have c5b0:decide (0≤t181)=τ:=decide_eq_true c5
   clear c5
   by_cases c6:t181<(l0.length:Int)
   ·
    rw [if_pos c6] at H
    have c6b0:decide (t181<(l0.length:Int))=τ:=decide_eq_true c6
    clear c6
    simp only [Option.some.injEq,Prod.mk.injEq] at H
    obtain ⟨rfl,rfl⟩:=H
    go_enter Tryz.func107,Tryz.ntmps107
    go_wp2_with (((with_reducible refine δv (f:=162) rfl ?_);refine goesL_ (some 11) rfl rfl Tryz.func162 (by kernel_rfl) rfl #[.slice A0 l0.length c0,.string a1] rfl (by (try simp only [δd,δe,δf]);rfl) ?_;(with_reducible refine (impl_pairAt.calls k _ _ l0 a1 t181 τ _ ?side1 ?side2 A3.out).mono ?_);(case side1=>repeat (exact HR0.out));(case side2=>exact HC0.out);rintro e w7 ⟨rfl,hb⟩;refine ⟨_,rfl,?_⟩;replace HB:=ζa (δr (by exact HB.out) hb);(try clear hb);(try clear hb2);(try clear hk);(try clear hi);have p183:0≤(t181:Int):=of_decide_eq_true (by (with_reducible assumption));have q183:t181<(l0.length:Int):=of_decide_eq_true (by (with_reducible assumption));obtain ⟨ad183,e183,hx183_0,hx183_1⟩:=at_T51 HR0.out t181 p183 q183;cases e183;replace hx183_0:=(HB.out.cell (World.block_lt_of_cell? w _ hx183_0)).trans hx183_0;replace hx183_1:=(HB.out.cell (World.block_lt_of_cell? w _ hx183_1)).trans hx183_1;replace p183:=eq_true p183;replace q183:=eq_true q183))
    go_ret2
    exact ⟨by rfl,by repeat ((with_reducible exact HB.out))⟩
   ·
    rw [if_neg c6] at H
    exact absurd H (by simp)
  ·
   rw [if_neg c5] at H
   exact absurd H (by simp)
 ·
  replace c4:=Bool.eq_false_iff.mpr c4
  subst c4
  have H1:(some ((⟨#[]⟩:ByteArray),φ))=some (r1,r2):=by rw [if_neg (show ¬ (φ=τ) by decide)] at H;exact H
  clear H
  have H:=H1
  clear H1
  simp only [Option.some.injEq,Prod.mk.injEq] at H
  obtain ⟨rfl,rfl⟩:=H
  go_enter Tryz.func107,Tryz.ntmps107
  go_wp2_with (((with_reducible refine δv (f:=162) rfl ?_);refine goesL_ (some 11) rfl rfl Tryz.func162 (by kernel_rfl) rfl #[.slice A0 l0.length c0,.string a1] rfl (by (try simp only [δd,δe,δf]);rfl) ?_;(with_reducible refine (impl_pairAt.calls k _ _ l0 a1 t181 φ _ ?side1 ?side2 A3.out).mono ?_);(case side1=>repeat (exact HR0.out));(case side2=>exact HC0.out);rintro e w8 ⟨rfl,hb⟩;refine ⟨_,rfl,?_⟩;replace HB:=ζa (δr (by exact HB.out) hb);(try clear hb);(try clear hb2);(try clear hk);(try clear hi)))
  go_ret2
  exact ⟨by rfl,by repeat ((with_reducible exact HB.out))⟩



/-! ### impl_amountText: function 147 -/
def impl_amountText.f (a0:Int):Option (ByteArray):=(strconv_Itoa.f a0).bind fun t201=>(some t201)
set_option maxHeartbeats 8000000 in
set_option maxRecDepth 100000 in
theorem impl_amountText.calls (a0:Int) (r:ByteArray) (w:World) (hT0:TabsOK w) (h:impl_amountText.f a0=some r) :
  Calls Tryz.prog 147 #[.int .i64 a0] w fun e w'=>e = .returned (.string r)∧Below w.heap.size w w':=by
 have HT0:=ζa hT0
 clear hT0
 have HB:=ζa (Below.refl w.heap.size w)
 have H:((strconv_Itoa.f a0).bind fun t201=>(some t201))=some r:=h
 clear h
 replace H:=Option.bind_eq_some_iff.mp H
 obtain ⟨t201,A20,H⟩:=H
 replace H:(some t201)=some r:=H
 have A2:=ζa A20
 clear A20
 obtain rfl:=Option.some.inj H
 go_enter Tryz.func147,Tryz.ntmps147
 go_wp2_with (((with_reducible refine δv (f:=190) rfl ?_);refine goesL_ (some 4) rfl rfl Tryz.func190 (by kernel_rfl) rfl #[.int .i64 a0] rfl (by (try simp only [δd,δe,δf]);rfl) ?_;(with_reducible refine (strconv_Itoa.calls a0 t201 _ (HT0.out.below (by exact HB.out)) A2.out).mono ?_);rintro e w3 ⟨rfl,hb⟩;refine ⟨_,rfl,?_⟩;replace HB:=ζa (δr (by exact HB.out) hb);(try clear hb);(try clear hb2);(try clear hk);(try clear hi)))
 go_ret
 exact ⟨by rfl,by repeat ((with_reducible exact HB.out))⟩


open Go.Proofs.YtabmfhnhmoiljaaGreatDoorW.PrintWords renaming pw_below_drewN → δi, below_step → δr

/-! ### impl_readAmount: function 151 -/
/-- The amount that a text tells,and whether it is one. -/
def impl_readAmount.f (a0:ByteArray):Option (Int × Bool) :=
 if a0.size≤281474976710656 then (match Lib.atoiAll a0.data.toList with
  | .ok v=>if 0≤v then (if v≤1000000000000000000 then (if (⟨(Lib.itoa v).toArray⟩:ByteArray).toList=a0.toList then some (v,τ) else some (0,φ)) else some (0,φ)) else some (0,φ)
  | _=>some (0,φ)) else none
theorem impl_readAmount.bad (a0:ByteArray) (hs:a0.size≤281474976710656) (hb:(∀ v,Lib.atoiAll a0.data.toList ≠ .ok v)) (w:World) (hT0:TabsOK w) :
  Calls Tryz.prog 192 #[.string a0] w fun e w' => ∃ (n:Int) (te N:Nat),e = .returned (.tuple #[.int .i64 n,.iface te (.pointer (some ⟨N,0,none⟩))])∧Below w.heap.size w w':=by
 cases hh:Lib.atoiAll a0.data.toList with
 | ok v=>exact absurd hh (hb v)
 | «syntax» =>
  obtain ⟨tp,p,hv⟩:=hT0.2.1
  refine (Tryz.strconv_Atoi_syntax_var a0 hs hh tp p w (hv w (Below.refl _ _))).mono ?_
  rintro e w' ⟨N,rfl,_,_,hb⟩
  exact ⟨_,_,N,rfl,hb⟩
 | range =>
  obtain ⟨tp,p,hv⟩:=hT0.2.2
  refine (Tryz.strconv_Atoi_range_var a0 hs hh tp p w (hv w (Below.refl _ _))).mono ?_
  rintro e w' ⟨N,rfl,_,_,hb⟩
  exact ⟨_,_,N,rfl,hb⟩
theorem impl_readAmount.good (a0:ByteArray) (hs:a0.size≤281474976710656) (v:Int) (hb:Lib.atoiAll a0.data.toList = .ok v) (w:World) :
  Calls Tryz.prog 192 #[.string a0] w fun e w'=>e = .returned (.tuple #[.int .i64 v,.nilIface])∧Below w.heap.size w w':=by
 refine (Tryz.strconv_Atoi_ok a0 (by omega) v hb w).mono ?_
 rintro e w' ⟨rfl,rfl|⟨t,rfl⟩⟩
 · exact ⟨rfl,Below.refl _ _⟩
 ·
  exact ⟨rfl,bytes_below (Below.refl _ _) (Nat.le_refl _) 5 t⟩
set_option maxHeartbeats 4000000 in
set_option maxRecDepth 100000 in
theorem impl_readAmount.calls (a0:ByteArray) (r1:Int) (r2:Bool) (w:World) (hT0:TabsOK w) (h:impl_readAmount.f a0=some (r1,r2)) :
  Calls Tryz.prog 151 #[.string a0] w fun e w'=>e = .returned (.tuple #[.int .i64 r1,.bool r2])∧Below w.heap.size w w':=by
 unfold impl_readAmount.f at h
 by_cases hs:a0.size≤281474976710656
 ·
  rw [if_pos hs] at h
  by_cases hg : ∃ v,Lib.atoiAll a0.data.toList = .ok v
  ·
   obtain ⟨v,hv⟩:=hg
   rw [hv] at h
   have HV:=ζa hv
   have HS:=ζa hs
   have HT:=ζa hT0
   clear hv hs hT0
   dsimp only at h
   by_cases h0:0≤v∧v≤1000000000000000000
   ·
    rw [if_pos h0.1,if_pos h0.2] at h
    have HA:Aside0 (impl_isAmount.f v=some τ):=⟨by
     unfold impl_isAmount.f impl_within.f
     rw [if_pos h0.1,decide_eq_true h0.2]
     rfl⟩
    have HI:Aside0 (impl_amountText.f v=some ⟨(Lib.itoa v).toArray⟩):=⟨by
     unfold impl_amountText.f strconv_Itoa.f
     rw [if_pos (by omega),if_pos (by omega)]
     rfl⟩
    generalize (⟨(Lib.itoa v).toArray⟩:ByteArray)=t at h HI
    by_cases ht:t.toList=a0.toList
    ·
     rw [if_pos ht] at h
     injection h with h
     injection h with e1 e2
     subst e1 e2
     go_enter Tryz.func151,Tryz.ntmps151
     go_wp2_with fail
     refine (impl_readAmount.good a0 HS.out v HV.out _).mono ?_
     rintro e w' ⟨rfl,hb⟩
     have HB:=ζa hb
     clear hb
     go_wp2_with fail
     refine (impl_isAmount.calls v τ _ HA.out).mono ?_
     rintro e w2 ⟨rfl,⟨m,rfl⟩⟩
     go_wp2_with fail
     refine (impl_amountText.calls v t _ (HT.out.below (δi HB.out m)) HI.out).mono ?_
     rintro e w3 ⟨rfl,hb3⟩
     have HB3:=ζa (δr (δi HB.out m) hb3)
     clear hb3
     go_wp2
     go_ret2
     exact ⟨rfl,HB3.out⟩
    ·
     rw [if_neg ht] at h
     have htb:(t.toList == a0.toList)=φ:=beq_eq_false_iff_ne.2 ht
     clear ht
     injection h with h
     injection h with e1 e2
     subst e1 e2
     go_enter Tryz.func151,Tryz.ntmps151
     go_wp2_with fail
     refine (impl_readAmount.good a0 HS.out v HV.out _).mono ?_
     rintro e w' ⟨rfl,hb⟩
     have HB:=ζa hb
     clear hb
     go_wp2_with fail
     refine (impl_isAmount.calls v τ _ HA.out).mono ?_
     rintro e w2 ⟨rfl,⟨m,rfl⟩⟩
     go_wp2_with fail
     refine (impl_amountText.calls v t _ (HT.out.below (δi HB.out m)) HI.out).mono ?_
     rintro e w3 ⟨rfl,hb3⟩
     have HB3:=ζa (δr (δi HB.out m) hb3)
     clear hb3
     go_wp2
     go_ret2
     exact ⟨rfl,HB3.out⟩
   ·
    have e:(some ((0:Int),φ):Option (Int × Bool))=some (r1,r2):=by
     by_cases h1:0≤v
     · rw [if_pos h1,if_neg (fun h2=>h0 ⟨h1,h2⟩)] at h;exact h
     ·
      rw [if_neg h1] at h;exact h
    clear h
    injection e with h
    injection h with e1 e2
    subst e1 e2
    have HA:Aside0 (impl_isAmount.f v=some φ):=⟨by
     unfold impl_isAmount.f impl_within.f
     by_cases h1:0≤v
     · rw [if_pos h1,decide_eq_false (fun h2=>h0 ⟨h1,h2⟩)];rfl
     ·
      rw [if_neg h1];rfl⟩
    clear h0
    go_enter Tryz.func151,Tryz.ntmps151
    go_wp2_with fail
    refine (impl_readAmount.good a0 HS.out v HV.out _).mono ?_
    rintro e w' ⟨rfl,hb⟩
    have HB:=ζa hb
    clear hb
    go_wp2_with fail
    refine (impl_isAmount.calls v φ _ HA.out).mono ?_
    rintro e w2 ⟨rfl,⟨m,rfl⟩⟩
    go_wp2
    go_ret2
    exact ⟨rfl,δi HB.out m⟩
  ·
   have hn : ∀ v,Lib.atoiAll a0.data.toList ≠ .ok v:=fun v hv=>hg ⟨v,hv⟩
   have e:(some ((0:Int),φ):Option (Int × Bool))=some (r1,r2):=by
    cases hh:Lib.atoiAll a0.data.toList with
    | ok v=>exact absurd hh (hn v)
    | «syntax» => rw [hh] at h;exact h
    | range=>rw [hh] at h;exact h
   clear h
   injection e with h
   injection h with e1 e2
   subst e1 e2
   have HN:=ζa (impl_readAmount.bad a0 hs hn w hT0)
   clear hs hn hg hT0
   go_enter Tryz.func151,Tryz.ntmps151
   go_wp2_with fail
   refine HN.out.mono ?_
   rintro e w' ⟨n,te,N,rfl,hb⟩
   have HB:=ζa hb
   clear hb
   go_wp2
   go_ret2
   exact ⟨rfl,HB.out⟩
 · rw [if_neg hs] at h;cases h



/-! ### impl_amountAt: function 186 -/
def impl_amountAt.f (k:Nat) (l0:List (S51)) (a1:ByteArray):Option (Int):=(impl_get.f k l0 a1).bind fun bt217=>((impl_readAmount.f bt217.1).bind fun bt219=>(some bt219.1))
set_option maxHeartbeats 8000000 in
set_option maxRecDepth 100000 in
theorem impl_amountAt.calls (k:Nat) (A0:Option Addr) (c0:Nat) (l0:List (S51)) (a1:ByteArray) (r:Int) (w:World) (hr0:Kd.C k51 w A0 l0.length l0) (hc0:l0.length≤c0) (hT0:TabsOK w) (h:impl_amountAt.f k l0 a1=some r) :
  Calls Tryz.prog 186 #[.slice A0 l0.length c0,.string a1] w fun e w'=>e = .returned (.int .i64 r)∧Below w.heap.size w w':=by
 have HT0:=ζa hT0
 clear hT0
 have HR0:=ζa hr0
 have HC0:=ζa hc0
 clear hr0 hc0
 have HB:=ζa (Below.refl w.heap.size w)
 have H:((impl_get.f k l0 a1).bind fun bt217=>((impl_readAmount.f bt217.1).bind fun bt219=>(some bt219.1)))=some r:=h
 clear h
 replace H:=Option.bind_eq_some_iff.mp H
 obtain ⟨⟨t217,t218⟩,A30,H⟩:=H
 replace H:((impl_readAmount.f t217).bind fun bt219=>(some bt219.1))=some r:=H
 have A3:=ζa A30
 clear A30
 replace H:=Option.bind_eq_some_iff.mp H
 obtain ⟨⟨t219,t220⟩,A40,H⟩:=H
 replace H:(some t219)=some r:=H
 have A4:=ζa A40
 clear A40
 obtain rfl:=Option.some.inj H
 go_enter Tryz.func186,Tryz.ntmps186
 go_wp2_with (first|((with_reducible refine δv (f:=107) rfl ?_);refine goesL_ (some 12) rfl rfl Tryz.func107 (by kernel_rfl) rfl #[.slice A0 l0.length c0,.string a1] rfl (by (try simp only [δd,δe,δf]);rfl) ?_;(with_reducible refine (impl_get.calls k _ _ l0 a1 t217 t218 _ ?side1 ?side2 A3.out).mono ?_);(case side1=>repeat (exact HR0.out));(case side2=>exact HC0.out);rintro e w5 ⟨rfl,hb⟩;refine ⟨_,rfl,?_⟩;replace HB:=ζa (δr (by exact HB.out) hb);(try clear hb);(try clear hb2);(try clear hk);(try clear hi))|((with_reducible refine δv (f:=151) rfl ?_);refine goesL_ (some 17) rfl rfl Tryz.func151 (by kernel_rfl) rfl #[.string t217] rfl (by (try simp only [δd,δe,δf]);rfl) ?_;(with_reducible refine (impl_readAmount.calls t217 t219 t220 _ (HT0.out.below (by exact HB.out)) A4.out).mono ?_);rintro e w6 ⟨rfl,hb⟩;refine ⟨_,rfl,?_⟩;replace HB:=ζa (δr (by exact HB.out) hb);(try clear hb);(try clear hb2);(try clear hk);(try clear hi)))
 go_ret
 exact ⟨by rfl,by repeat ((with_reducible exact HB.out))⟩


open List renaming length_take → δh, length_drop → δg
open Go.Proofs.YtabmfhnhmoiljaaGreatDoorW.PrintWords renaming below_drew1 → δj, gate_dst → δx

/-! ### slices_Insert_impl_Pair_impl_Pair: function 197 -/
theorem slices_Insert_impl_Pair_impl_Pair.cell_at {W:World} {g:Nat} {cur:Array Value} (hg:W.heap[g]? = some (.cells cur 51 (0,0))) (j:Nat):W.cell? ⟨g,j,none⟩=cur[j]?:=by
 simp [World.cell?,hg]
theorem slices_Insert_impl_Pair_impl_Pair.reps {α:Type} {R:α→List Value→Prop} {ps:List α} {cs new:List Value} {p:α} (h:Reps R 2 ps cs) (hp:R p new) (hc:new.length=2) (i:Nat) (hi:i≤ps.length) :
  Reps R 2 (ps.insertIdx i p) (cs.take (i * 2) ++ new ++ cs.drop (i * 2)):=by
 have hl:=h.1
 have ht:(cs.take (i * 2)).length=i * 2:=by rw [δh];omega
 refine ⟨by rw [List.length_insertIdx_of_le_length hi,List.length_append,List.length_append,ht,hc,δg];omega,fun j q hq => ?_⟩
 rw [List.getElem?_insertIdx] at hq
 have e : ∀ d:List Value,d.drop (j * 2)=d.drop (j * 2):=fun _=>rfl
 split at hq
 ·
  rename_i hj
  have:=h.2 j q hq
  rw [List.append_assoc,List.drop_append_of_le_length (by omega),List.take_append_of_le_length (by rw [δg];omega),List.drop_take,List.take_take,Nat.min_eq_left (by omega)]
  exact this
 ·
  rename_i hj
  split at hq
  ·
   rename_i hji
   subst hji
   rw [if_pos hi] at hq
   have hq':p=q:=by simpa using hq
   subst hq'
   rw [List.append_assoc,List.drop_append,ht,Nat.sub_self,List.drop_zero,List.drop_of_length_le (by omega),List.nil_append,List.take_append_of_le_length (by omega),List.take_of_length_le (by omega)]
   exact hp
  ·
   rename_i hji
   have:=h.2 (j - 1) q hq
   rw [List.drop_append,List.length_append,ht,hc,List.drop_of_length_le (by rw [List.length_append];omega),List.nil_append,List.drop_drop,show i * 2+(j * 2 - (i * 2+2))=(j - 1) * 2 by omega]
   exact this
theorem slices_Insert_impl_Pair_impl_Pair.one {w:World} {base:Nat} {ok:Nat→Prop} {xs:List S51} {cs:List Value} (h:Reps (k51.M w base ok) 2 xs cs) : ∀ v ∈ cs,v.oneCell'=τ:=by
 intro v hv
 obtain ⟨k,hk,rfl⟩:=List.getElem_of_mem hv
 have hl:=h.1
 have hj:k / 2<xs.length:=by omega
 have hs:=k51_openM (h.2 (k / 2) _ (List.getElem?_eq_getElem hj))
 have hm:cs[k] ∈ (cs.drop (k / 2 * 2)).take 2:=by
  refine List.mem_iff_getElem?.2 ⟨k % 2,?_⟩
  rw [List.getElem?_take,if_pos (by omega),List.getElem?_drop,show k / 2 * 2+k % 2=k by omega,List.getElem?_eq_getElem hk]
 rw [hs] at hm
 simp at hm
 rcases hm with e|e <;> (rw [e];rfl)
set_option maxHeartbeats 4000000 in
set_option maxRecDepth 100000 in
theorem slices_Insert_impl_Pair_impl_Pair.room (base g n c i vb:Nat) (xs:List S51) (p:S51) (w0 w:World) (ho:Kd.R k51 51 w base (fun _=>True) (.slice (some ⟨g,0,none⟩) n c) xs) (hi:i<n) (hroom:n+1≤c) (hn:n≤1000000) (hc:c≤9223372036854775807) (hv:w.heap[vb]? = some (.cells #[.string p.f0,.string p.f1] 51 (0,0))) (hvb:vb≠g) (hb:Below base w0 w) :
  Calls Tryz.prog 197 #[.slice (some ⟨g,0,none⟩) n c,.int .i64 i,.slice (some ⟨vb,0,none⟩) 1 1] w fun e w'=>e = .returned (.slice (some ⟨g,0,none⟩) (n+1) c)∧Kd.R k51 51 w' base (fun _=>True) (.slice (some ⟨g,0,none⟩) (n+1) c) (xs.insertIdx i p)∧Below base w0 w':=by
 have hnl:=(ζg ho).1
 obtain ⟨hok,inner,hown,hr⟩:=ho
 have hin:=hown.1
 rcases hown.2 with ⟨h',_⟩|⟨g',cap',cur,h',hbg,hg,hnc2,hcm,hcs,htk⟩
 · simp at h'
 simp only [Value.slice.injEq,Option.some.injEq,Addr.mk.injEq,and_true,true_and] at h'
 obtain ⟨rfl,hnx,rfl⟩:=h'
 have hs2:k51.sz=2:=rfl
 rw [hs2] at hin hcs htk
 obtain ⟨CU,hCU⟩ : ∃ CU,CU=cur.toList:=⟨_,rfl⟩
 have hCUl:CU.length=c * 2:=by rw [hCU,Array.length_toList,hcs]
 obtain ⟨cs1,hcs1⟩ : ∃ cs1,cs1=(CU.drop (i * 2)).take ((n - i) * 2):=⟨_,rfl⟩
 have hl1:cs1.length=(n - i) * 2:=by rw [hcs1,δh,δg];omega
 obtain ⟨row1,hrow1⟩ : ∃ row1,row1=CU.take ((i+1) * 2) ++ cs1 ++ CU.drop ((n+1) * 2):=⟨_,rfl⟩
 obtain ⟨row2,hrow2⟩ : ∃ row2,row2=row1.take (i * 2) ++ [.string p.f0,.string p.f1] ++ row1.drop (i * 2+2):=⟨_,rfl⟩
 have hl2:row1.length=c * 2:=by rw [hrow1];simp only [List.length_append,δh,δg,hl1];omega
 have hci:cs1=inner.drop (i * 2):=by rw [hcs1,← htk,← hCU,List.drop_take,← hnx];congr 1;omega
 have h1c : ∀ v ∈ cs1,v.oneCell'=τ:=fun v hv=>slices_Insert_impl_Pair_impl_Pair.one hr v (by rw [hci] at hv;exact List.mem_of_mem_drop hv)
 have hsz:(Tryz.prog.info? 51).map (·.size)=some 2:=by kernel_rfl
 have hcp1 : ∀ ty dc sc,(Builtin.copy_ #[24,24] ty #[.slice (some ⟨g,(i+1) * 2,none⟩) (n - i) dc,.slice (some ⟨g,i * 2,none⟩) (n+1 - i) sc]).run Tryz.prog w.drew = .ok (goInt ((n - i:Nat):Int)) (w.drew.setRow g row1.toArray):=fun ty dc sc=>by
  have h:=U.run_copy_row_n (P:=Tryz.prog) w.drew 24 24 ty 51 g ((i+1) * 2) (n - i) dc ⟨g,i * 2,none⟩ (n+1 - i) sc cur 51 cs1 2 (n - i) Tryz.underlying24 hsz hg (by simp only [Nat.min_def];split <;> omega) hl1
   (fun j v hj=>by
    rw [Addr.add_lit,slices_Insert_impl_Pair_impl_Pair.cell_at (W:=w.drew) hg,← Array.getElem?_toList,← hCU]
    rw [hcs1,List.getElem?_take] at hj
    split at hj
    · rwa [List.getElem?_drop] at hj
    ·
     cases hj) (by rw [hl1,hcs];omega) h1c
  rw [h,← hCU,hl1,show (i+1) * 2+(n - i) * 2=(n+1) * 2 by omega,← hrow1]
 have hcp2 : ∀ W:World,W.heap[g]? = some (.cells row1.toArray 51 (0,0))→W.heap[vb]? = some (.cells #[.string p.f0,.string p.f1] 51 (0,0)) → ∀ ty dc,(Builtin.copy_ #[24,24] ty #[.slice (some ⟨g,i * 2,none⟩) (n+1 - i) dc,.slice (some ⟨vb,0,none⟩) 1 1]).run Tryz.prog W = .ok (goInt ((1:Nat):Int)) (W.setRow g row2.toArray):=fun W hW hV ty dc=>by
  have h:=U.run_copy_row_n (P:=Tryz.prog) W 24 24 ty 51 g (i * 2) (n+1 - i) dc ⟨vb,0,none⟩ 1 1 row1.toArray 51 [.string p.f0,.string p.f1] 2 1 Tryz.underlying24 hsz hW (by simp only [Nat.min_def];split <;> omega) rfl
   (fun j v hj=>by
    rw [Addr.add_lit,slices_Insert_impl_Pair_impl_Pair.cell_at hV]
    rcases j with _|_|j
    · simpa using hj
    ·
     simpa using hj
    · simp at hj) (by simp only [List.length_cons,List.length_nil,List.size_toArray,hl2];omega) (by intro v hv;simp at hv;rcases hv with rfl|rfl <;> rfl)
  rw [h,hrow2]
  simp only [List.length_cons,List.length_nil]
 have hov : ∀ lb cb,(callFunc 211 #[.slice (some ⟨vb,0,none⟩) 1 1,.slice (some ⟨g,(i+1) * 2,none⟩) lb cb]).run Tryz.prog w = .ok (.value (.bool φ)) w:=fun lb cb=>by
  rw [run_callFunc_extern Tryz.func211 (by kernel_rfl) (by kernel_rfl) (by kernel_rfl) (e:=Extern.SlicesOverlaps.overlaps #[24,24] #[4]) (by kernel_rfl),
   Lib.run_overlaps_apart w 24 4 51 Tryz.underlying24 2 (fun w=>by kernel_rfl) ⟨vb,0,none⟩ ⟨g,(i+1) * 2,none⟩ 1 1 lb cb hvb 51 51 2 (c * 2) (by simp [World.shape?,hv]) (by simp [World.shape?,hg,hcs]) (by omega) (by simp [World.frozen?,hv]) (by simp [World.frozen?,hv])]
  rfl
 have hR : ∀ W:World,W.heap[g]? = some (.cells row2.toArray 51 (0,0))→Kd.R k51 51 W base (fun _=>True) (.slice (some ⟨g,0,none⟩) (n+1) c) (xs.insertIdx i p):=fun W hW=>by
  have hrr:=slices_Insert_impl_Pair_impl_Pair.reps (hr.imp_ (fun q z hq=>(by rw [k51_openM hq];exact k51_mkM _ _ _ q:k51.M W base (fun k=>True∧some k≠(Value.slice (some ⟨g,0,none⟩) (n+1) c).ownBlock) q z))) (k51_mkM _ _ _ p) rfl i (by omega)
  have hlen:(xs.insertIdx i p).length=n+1:=by rw [List.length_insertIdx_of_le_length (by omega)];omega
  have hmid:=U.ins_list CU [.string p.f0,.string p.f1] i n 2 (by omega) rfl (by omega)
  have htk2:row2.take ((n+1) * 2)=inner.take (i * 2) ++ [.string p.f0,.string p.f1] ++ inner.drop (i * 2):=by
   rw [hrow2,hrow1,hcs1,hmid,List.take_append_of_le_length (by simp only [List.length_append,δh,δg,List.length_cons,List.length_nil];omega),List.take_of_length_le (by simp only [List.length_append,δh,δg,List.length_cons,List.length_nil];omega),← htk,← hCU,List.take_take,Nat.min_eq_left (by omega),← hnx]
  refine ⟨fun _ _=>trivial,_,⟨?_,Or.inr ⟨g,c,row2.toArray,by rw [hlen],hbg,hW,by omega,hcm,?_,?_⟩⟩,hrr⟩
  · rw [hs2];exact hrr.1
  ·
   rw [hs2,List.size_toArray,hrow2]
   simp only [List.length_append,δh,δg,List.length_cons,List.length_nil,hl2]
   omega
  · rw [hs2,hlen];exact htk2
 have hz2 : ¬ ((i:Int)=(n:Int)):=by omega
 have hw1:IntKind.i64.wrap ((i:Int)+(1:Int))=(i:Int)+(1:Int):=by rw [IntKind.wrap_i64];omega
 have hb1:(0:Int)≤(i:Int)+(1:Int):=by omega
 have htn:((i:Int)+(1:Int)).toNat=i+1:=by omega
 have hb2 : ¬ (c=i+1):=by omega
 have hb3:(i:Int)≤(n:Int)+(1:Int):=by omega
 have hb4 : ¬ (c=i):=by omega
 have hil:i≤n:=by omega
 have mixed:Tryz.prog.follows Departure.mixedOrders=τ:=by kernel_rfl
 have hgW:=setRow_heap w.drew g cur row1.toArray 51 (0,0) hg
 have hvW:(w.drew.setRow g row1.toArray).heap[vb]? = some (.cells #[.string p.f0,.string p.f1] 51 (0,0)):=by
  rw [setRow_other w.drew g vb _ hvb];exact hv
 have hgF:=setRow_heap (w.drew.setRow g row1.toArray) g row1.toArray row2.toArray 51 (0,0) hgW
 have HR:=ζa (hR _ hgF)
 have HB:=ζa (below_setRow (below_setRow (δj hb) hbg row1.toArray) hbg row2.toArray)
 have hcp2':=hcp2 _ hgW hvW
 clear hR hcp2 hrow2 hrow1 hcs1 hCU hCUl hl1 hl2 htk hcs hin hown hr hok hb hgF hgW hvW h1c hv hnl hnx hnc2
 go_enter Tryz.func197,Tryz.ntmps197
 go_wp2_with (simp only [hov])
 go_region_law_o (refine step_copy_runI rfl _ _ 24 24 rfl _ _ (by simp [Act.eval,ζl]) (by simp [Act.eval,ζl]) (hcp1 _ _ _) ?_)
 go_wp2_with (at_builtin;refine wpList_copy_runI _ rfl _ _ 24 24 rfl _ _ rfl rfl (hcp2' _ _) ?_)
 go_ret
 exact ⟨rfl,HR.out,HB.out⟩
set_option maxHeartbeats 4000000 in
set_option maxRecDepth 100000 in
theorem slices_Insert_impl_Pair_impl_Pair.grow (base g n c i vb:Nat) (xs:List S51) (p:S51) (w0 w:World) (ho:Kd.R k51 51 w base (fun _=>True) (.slice (some ⟨g,0,none⟩) n c) xs) (hi:i<n) (hnc:n≤c) (hroom:c<n+1) (hn:n≤1000000) (hv:w.heap[vb]? = some (.cells #[.string p.f0,.string p.f1] 51 (0,0))) (hb:Below base w0 w) (hbs:base≤w.heap.size) :
  Calls Tryz.prog 197 #[.slice (some ⟨g,0,none⟩) n c,.int .i64 i,.slice (some ⟨vb,0,none⟩) 1 1] w fun e w' => ∃ v0,e = .returned v0∧Kd.R k51 51 w' base (fun _=>True) v0 (xs.insertIdx i p)∧Below base w0 w':=by
 have hnl:=(ζg ho).1
 obtain ⟨hok,inner,hown,hr⟩:=ho
 have hin:=hown.1
 rcases hown.2 with ⟨h',_⟩|⟨g',cap',cur,h',hbg,hg,hnc2,hcm,hcs,htk⟩
 · simp at h'
 simp only [Value.slice.injEq,Option.some.injEq,Addr.mk.injEq,and_true,true_and] at h'
 obtain ⟨rfl,hnx,rfl⟩:=h'
 have hs2:k51.sz=2:=rfl
 rw [hs2] at hin hcs htk
 obtain ⟨CU,hCU⟩ : ∃ CU,CU=cur.toList:=⟨_,rfl⟩
 have hCUl:CU.length=c * 2:=by rw [hCU,Array.length_toList,hcs]
 obtain ⟨cs1,hci⟩ : ∃ cs1,cs1=inner.drop (i * 2):=⟨_,rfl⟩
 have hinl:inner.length=n * 2:=by rw [hin,hnl]
 have hl1:cs1.length=(n - i) * 2:=by rw [hci,δg];omega
 have h1c : ∀ v ∈ cs1,v.oneCell'=τ:=fun v hv=>slices_Insert_impl_Pair_impl_Pair.one hr v (by rw [hci] at hv;exact List.mem_of_mem_drop hv)
 have hsz:(Tryz.prog.info? 51).map (·.size)=some 2:=by kernel_rfl
 obtain ⟨i0,hi0,hzz⟩:=Option.map_eq_some_iff.1 info51
 simp only [Prod.mk.injEq] at hzz
 obtain ⟨hz0,hzs,hzb⟩:=hzz
 have hgw:g<w.heap.size:=(Array.getElem?_eq_some_iff.1 hg).1
 have hvw:vb<w.heap.size:=(Array.getElem?_eq_some_iff.1 hv).1
 have hkk:(n:Int)+(1:Int) - (i:Int)=((n+1 - i:Nat):Int):=by omega
 have hik:i+(n+1 - i)=n+1:=by omega
 have hold:(Builtin.firstCells i0.size i (.slice (some ⟨g,0,none⟩) i c)).run Tryz.prog w.drew = .ok (inner.take (i * 2)).toArray w.drew:=by
  rw [hzs]
  exact run_firstCells_some w.drew 2 i ⟨g,0,none⟩ i c (inner.take (i * 2)) (by rw [δh];omega) (fun j v hj=>by
   rw [Addr.add_lit,Nat.zero_add,slices_Insert_impl_Pair_impl_Pair.cell_at (W:=w.drew) hg,← Array.getElem?_toList]
   rw [List.getElem?_take] at hj
   split at hj
   ·
    rw [← htk,List.getElem?_take] at hj
    split at hj
    · exact hj
    ·
     cases hj
   · cases hj)
 have hrz : ∀ ty,(Builtin.append_ #[24,3] ty #[.slice (some ⟨g,0,none⟩) i c,.int .i64 ((n:Int)+(1:Int) - (i:Int))]).run Tryz.prog w = .ok (.slice (some ⟨w.heap.size,0,none⟩) (n+1) (grownCap w (n+1) c 51)) (w.drew.alloc (.cells ((inner.take (i * 2)).toArray ++ Builtin.zeroCells (Value.agg #[.string ⟨#[]⟩,.string ⟨#[]⟩]).cells (n+1 - i) ++ Builtin.zeroCells (Value.agg #[.string ⟨#[]⟩,.string ⟨#[]⟩]).cells (grownCap w (n+1) c 51 - (n+1))) 51)):=fun ty=>by
  have h:=Lib.run_append_grow_zeros w 24 3 ty 51 i0 _ .i64 .i64 Tryz.underlying24 Tryz.underlying3 hi0 hz0 (some ⟨g,0,none⟩) i c _ hold (n+1 - i) (by omega) (by rw [hzs];omega) (by omega) (by omega) (by rw [hzb];omega) (by rw [hzb,hik];exact growslice_fits hroom (by omega))
  rw [hik] at h
  rw [hkk]
  exact h
 obtain ⟨G,hG⟩ : ∃ G,G=grownCap w (n+1) c 51:=⟨_,rfl⟩
 rw [← hG] at hrz
 obtain ⟨ROW,hROW⟩ : ∃ ROW:Array Value,ROW=(inner.take (i * 2)).toArray ++ Builtin.zeroCells (Value.agg #[.string ⟨#[]⟩,.string ⟨#[]⟩]).cells (n+1 - i) ++ Builtin.zeroCells (Value.agg #[.string ⟨#[]⟩,.string ⟨#[]⟩]).cells (G - (n+1)):=⟨_,rfl⟩
 rw [← hROW] at hrz
 have hRl:ROW.toList.length=G * 2:=by
  have hGn:n+1≤G:=by rw [hG];exact grownCap_ge w _ _ _
  rw [hROW]
  simp [Builtin.zeroCells,Value.cells]
  omega
 have hGn:n+1≤G:=by rw [hG];exact grownCap_ge w _ _ _
 have hG63:G≤maxLen:=by rw [hG];exact grownCap_le_maxLen w (n+1) c _ (by unfold maxLen;omega)
 have hRt:ROW.toList.take (i * 2)=inner.take (i * 2):=by
  rw [hROW]
  simp only [Array.toList_append,List.append_assoc]
  rw [List.take_append_of_le_length (by rw [δh];omega),List.take_take,Nat.min_self]
 obtain ⟨rowA,hrowA⟩ : ∃ rowA,rowA=ROW.toList.take (i * 2) ++ [.string p.f0,.string p.f1] ++ ROW.toList.drop (i * 2+2):=⟨_,rfl⟩
 have hlA:rowA.length=G * 2:=by rw [hrowA];simp only [List.length_append,δh,δg,List.length_cons,List.length_nil,hRl];omega
 obtain ⟨rowB,hrowB⟩ : ∃ rowB,rowB=rowA.take ((i+1) * 2) ++ cs1 ++ rowA.drop ((n+1) * 2):=⟨_,rfl⟩
 obtain ⟨N,hN⟩ : ∃ N,N=w.heap.size:=⟨_,rfl⟩
 have hcpA : ∀ W:World,W.heap[N]? = some (.cells ROW 51 (0,0))→W.heap[vb]? = some (.cells #[.string p.f0,.string p.f1] 51 (0,0)) → ∀ ty dc,(Builtin.copy_ #[24,24] ty #[.slice (some ⟨N,i * 2,none⟩) (n+1 - i) dc,.slice (some ⟨vb,0,none⟩) 1 1]).run Tryz.prog W = .ok (goInt ((1:Nat):Int)) (W.setRow N rowA.toArray):=fun W hW hV ty dc=>by
  have h:=U.run_copy_row_n (P:=Tryz.prog) W 24 24 ty 51 N (i * 2) (n+1 - i) dc ⟨vb,0,none⟩ 1 1 ROW 51 [.string p.f0,.string p.f1] 2 1 Tryz.underlying24 hsz hW (by simp only [Nat.min_def];split <;> omega) rfl
   (fun j v hj=>by
    rw [Addr.add_lit,slices_Insert_impl_Pair_impl_Pair.cell_at hV]
    rcases j with _|_|j
    · simpa using hj
    ·
     simpa using hj
    · simp at hj) (by rw [Array.length_toList] at hRl;simp only [List.length_cons,List.length_nil,hRl];omega) (by intro v hv;simp at hv;rcases hv with rfl|rfl <;> rfl)
  rw [h,hrowA]
  simp only [List.length_cons,List.length_nil]
 have hcpB : ∀ W:World,W.heap[N]? = some (.cells rowA.toArray 51 (0,0))→W.heap[g]? = some (.cells cur 51 (0,0)) → ∀ ty dc sc,(Builtin.copy_ #[24,24] ty #[.slice (some ⟨N,(i+1) * 2,none⟩) (n - i) dc,.slice (some ⟨g,i * 2,none⟩) (n - i) sc]).run Tryz.prog W = .ok (goInt ((n - i:Nat):Int)) (W.setRow N rowB.toArray):=fun W hW hV ty dc sc=>by
  have h:=U.run_copy_row_n (P:=Tryz.prog) W 24 24 ty 51 N ((i+1) * 2) (n - i) dc ⟨g,i * 2,none⟩ (n - i) sc rowA.toArray 51 cs1 2 (n - i) Tryz.underlying24 hsz hW (by simp only [Nat.min_def];split <;> omega) hl1
   (fun j v hj=>by
    rw [Addr.add_lit,slices_Insert_impl_Pair_impl_Pair.cell_at hV,← Array.getElem?_toList]
    rw [hci,← htk,List.getElem?_drop,List.getElem?_take] at hj
    split at hj
    · exact hj
    ·
     cases hj) (by rw [hl1,List.size_toArray,hlA];omega) h1c
  rw [h,hl1,show (i+1) * 2+(n - i) * 2=(n+1) * 2 by omega,hrowB]
 have hR : ∀ W:World,W.heap[N]? = some (.cells rowB.toArray 51 (0,0))→Kd.R k51 51 W base (fun _=>True) (.slice (some ⟨N,0,none⟩) (n+1) G) (xs.insertIdx i p):=fun W hW=>by
  have hrr:=slices_Insert_impl_Pair_impl_Pair.reps (hr.imp_ (fun q z hq=>(by rw [k51_openM hq];exact k51_mkM _ _ _ q:k51.M W base (fun k=>True∧some k≠(Value.slice (some ⟨N,0,none⟩) (n+1) G).ownBlock) q z))) (k51_mkM _ _ _ p) rfl i (by omega)
  have hlen:(xs.insertIdx i p).length=n+1:=by rw [List.length_insertIdx_of_le_length (by omega)];omega
  have hA2:rowA.take ((i+1) * 2)=inner.take (i * 2) ++ [.string p.f0,.string p.f1]:=by
   rw [hrowA,hRt,List.take_append_of_le_length (by simp only [List.length_append,δh,List.length_cons,List.length_nil];omega),List.take_of_length_le (by simp only [List.length_append,δh,List.length_cons,List.length_nil];omega)]
  have htk2:rowB.take ((n+1) * 2)=inner.take (i * 2) ++ [.string p.f0,.string p.f1] ++ inner.drop (i * 2):=by
   rw [hrowB,hA2,hci,List.take_append_of_le_length (by simp only [List.length_append,δh,δg,List.length_cons,List.length_nil];omega),List.take_of_length_le (by simp only [List.length_append,δh,δg,List.length_cons,List.length_nil];omega)]
  refine ⟨fun _ _=>trivial,_,⟨?_,Or.inr ⟨N,G,rowB.toArray,by rw [hlen],by omega,hW,by omega,hG63,?_,?_⟩⟩,hrr⟩
  · rw [hs2];exact hrr.1
  ·
   rw [hs2,List.size_toArray,hrowB]
   simp only [List.length_append,δh,δg,hl1,hlA]
   omega
  · rw [hs2,hlen];exact htk2
 have HR:=ζa hR
 have HB:=ζa hb
 have hgA : ∀ o:Array Value,(w.drew.alloc (.cells o 51)).heap[N]? = some (.cells o 51 (0,0)):=fun o=>by rw [hN];exact Go.Deep.blk_alloc_new w.drew _
 have hvA : ∀ o:Obj,(w.drew.alloc o).heap[vb]? = some (.cells #[.string p.f0,.string p.f1] 51 (0,0)):=fun o=>by rw [Go.Deep.blk_alloc_lt w.drew _ _ hvw];exact hv
 have hcA : ∀ o:Obj,(w.drew.alloc o).heap[g]? = some (.cells cur 51 (0,0)):=fun o=>by rw [Go.Deep.blk_alloc_lt w.drew _ _ hgw];exact hg
 have hgN:g≠N:=by omega
 have hw1:IntKind.i64.wrap ((i:Int)+(1:Int))=(i:Int)+(1:Int):=by rw [IntKind.wrap_i64];omega
 have hz2 : ¬ ((i:Int)=(n:Int)):=by omega
 have hz3:(c:Int)<(n:Int)+(1:Int):=by omega
 have hb1:(0:Int)≤(i:Int)+(1:Int):=by omega
 have hin:i≤n:=by omega
 have htn:((i:Int)+(1:Int)).toNat=i+1:=by omega
 have hb3:(i:Int)≤(n:Int):=by omega
 have hGi : ¬ (G=i):=by omega
 have hGim : ¬ (G=i+1):=by omega
 have hci2 : ¬ (c=i):=by omega
 have mixed:Tryz.prog.follows Departure.mixedOrders=τ:=by kernel_rfl
 have hNb:base≤N:=by omega
 have hcpA1:=hcpA _ (hgA ROW) (hvA _)
 have hcpA2 : ∀ ty dc,(Builtin.copy_ #[24,24] ty #[.slice (some ⟨N,i * 2,none⟩) (n+1 - i) dc,.slice (some ⟨vb,0,none⟩) 1 1]).run Tryz.prog (w.alloc (.cells ROW 51)).drew = .ok (goInt ((1:Nat):Int)) ((w.alloc (.cells ROW 51)).drew.setRow N rowA.toArray):=hcpA1
 have hgB:=setRow_heap (w.drew.alloc (.cells ROW 51)) N ROW rowA.toArray 51 (0,0) (hgA ROW)
 have hgF:=setRow_heap _ N rowA.toArray rowB.toArray 51 (0,0) hgB
 have hcpB1:=hcpB _ hgB (by rw [setRow_other _ N g _ hgN];exact hcA _)
 have hgc:((w.drew.alloc (.cells ROW 51)).setRow N rowA.toArray).heap[g]? = some (.cells cur 51 (0,0)):=by rw [setRow_other _ N g _ hgN];exact hcA _
 have hcpB2 : ∀ ty dc sc,(Builtin.copy_ #[24,24] ty #[.slice (some ⟨N,(i+1) * 2,none⟩) (n - i) dc,.slice (some ⟨g,i * 2,none⟩) (n - i) sc]).run Tryz.prog ((w.alloc (.cells ROW 51)).drew.setRow N rowA.toArray).drew = .ok (goInt ((n - i:Nat):Int)) (((w.alloc (.cells ROW 51)).drew.setRow N rowA.toArray).drew.setRow N rowB.toArray):=hcpB _ hgB hgc
 have HF2:Aside0 (Kd.R k51 51 (((w.alloc (.cells ROW 51)).drew.setRow N rowA.toArray).drew.setRow N rowB.toArray) base (fun _=>True) (.slice (some ⟨N,0,none⟩) (n+1) G) (xs.insertIdx i p)):=⟨hR _ hgF⟩
 have hb2:Below base w0 ((w.alloc (.cells ROW 51)).drew):=δj (hb.alloc hbs _)
 have HB2:Aside0 (Below base w0 (((w.alloc (.cells ROW 51)).drew.setRow N rowA.toArray).drew.setRow N rowB.toArray)):=⟨below_setRow (δj (below_setRow hb2 hNb _)) hNb _⟩
 clear hb2
 have HF:=ζa (hR _ hgF)
 have HBF:Aside0 (Below base w0 (((w.drew.alloc (.cells ROW 51)).setRow N rowA.toArray).setRow N rowB.toArray)):=⟨below_setRow (below_setRow ((δj hb).alloc hbs _) hNb _) hNb _⟩
 rw [← hN] at hrz
 clear hgc hN hkk hik hold hROW hG hRl hR hcpA hcpB hrowA hrowB hlA hRt hgA hvA hcA hgB hgF hci hl1 h1c hinl hCU hCUl htk hcs hown hr hok hv hg hb hnl hnx hnc2 hi0 hz0 hzs hzb HR HB hgw hvw hbs hbg hNb
 go_enter Tryz.func197,Tryz.ntmps197
 go_wp2_with (first
  | (at_builtin;refine Lib.wpList_append_run _ rfl _ _ _ _ rfl _ _ rfl rfl _ _ (hrz _) ?_)
  | simp only [hcpA2,Result.andThen_ok])
 go_region_law_o (refine step_copy_runI rfl _ _ 24 24 rfl _ _ (by simp [Act.eval,ζl]) (by simp [Act.eval,ζl]) (hcpB2 _ _ _) ?_)
 go_wp2_with fail
 go_ret
 exact ⟨_,rfl,HF2.out,HB2.out⟩
set_option maxHeartbeats 4000000 in
set_option maxRecDepth 100000 in
theorem slices_Insert_impl_Pair_impl_Pair.atEnd (base n c vb:Nat) (A:Option Addr) (xs:List S51) (p:S51) (w0 w:World) (ho:Kd.R k51 51 w base (fun _=>True) (.slice A n c) xs) (hn:n≤1000000) (hv:w.heap[vb]? = some (.cells #[.string p.f0,.string p.f1] 51 (0,0))) (hb:Below base w0 w) (hbs:base≤w.heap.size) :
  Calls Tryz.prog 197 #[.slice A n c,.int .i64 n,.slice (some ⟨vb,0,none⟩) 1 1] w fun e w' => ∃ v0,e = .returned v0∧Kd.R k51 51 w' base (fun _=>True) v0 (xs ++ [p])∧Below base w0 w':=by
 have HO:=ζa ho
 have HB:=ζa hb
 have hl:=(ζg ho).1
 have HRR:Aside0 (ReadsRow (fun (x:S51) cs=>cs = [.string x.f0,.string x.f1]) k51.sz w (some ⟨vb,0,none⟩) 1 [p]):=⟨rfl,by omega,fun _=>⟨_,rfl,fun j q hj=>by
  have hj0:j=0:=by
   rcases j with _|j
   · rfl
   ·
    simp at hj
  subst hj0
  have hq:p=q:=by simpa using hj
  subst hq
  refine ⟨_,rfl,rfl,fun t u hu => ?_⟩
  rw [Addr.add_lit,slices_Insert_impl_Pair_impl_Pair.cell_at hv]
  rcases t with _|_|t
  · simpa using hu
  ·
   simpa using hu
  · simp at hu⟩⟩
 have HL:Aside0 ((xs.length+1) * 32≤140737488355328):=⟨by omega⟩
 clear ho hb hl
 go_enter Tryz.func197,Tryz.ntmps197
 go_wp2_with ((with_reducible refine δx (N:=25) rfl ?_);refine Kd.R_append_rows (w0:=w0) (Rr:=fun (x:S51) cs=>cs = [.string x.f0,.string x.f1]) k51 base ?hg (.tmp 23) (.tmp 24) 24 51 (.agg #[(.string ⟨#[]⟩),(.string ⟨#[]⟩)]) 32 rfl Tryz.underlying24 info51 rfl (by decide) (by decide) (.slice A n c) xs [p] (some ⟨vb,0,none⟩) 1 1 (fun _=>True) (fun _=>False) rfl rfl HO.out HRR.out (fun x cs h=>by rw [h];exact k51_mkM _ _ _ x) (fun _ h=>h.elim) (fun _ _=>trivial) HB.out hbs HL.out ?_;(case hg=>rfl);intro v7 w7 ho7 hb7 hg_ hnew_;clear hg_ hnew_;have HO7:=ζa ho7;have HB7:=ζa hb7;clear ho7 hb7)
 all_goals (go_ret;exact ⟨_,rfl,HO7.out,HB7.out⟩)
theorem slices_Insert_impl_Pair_impl_Pair.calls (base n c i vb:Nat) (A:Option Addr) (xs:List S51) (p:S51) (w0 w:World) (ho:Kd.R k51 51 w base (fun _=>True) (.slice A n c) xs) (hi:i≤n) (hnc:n≤c) (hc:c≤9223372036854775807) (hn:n≤1000000) (hv:w.heap[vb]? = some (.cells #[.string p.f0,.string p.f1] 51 (0,0))) (hvb : ∀ a,A=some a→vb≠a.block) (hb:Below base w0 w) (hbs:base≤w.heap.size) :
  Calls Tryz.prog 197 #[.slice A n c,.int .i64 i,.slice (some ⟨vb,0,none⟩) 1 1] w fun e w' => ∃ v0,e = .returned v0∧Kd.R k51 51 w' base (fun _=>True) v0 (xs.insertIdx i p)∧Below base w0 w':=by
 have hnl:=(ζg ho).1
 by_cases hin:i=n
 ·
  subst hin
  have e:xs.insertIdx i p=xs ++ [p]:=by rw [hnl];exact List.insertIdx_length_self
  rw [e]
  exact slices_Insert_impl_Pair_impl_Pair.atEnd base i c vb A xs p w0 w ho hn hv hb hbs
 ·
  have hlt:i<n:=by omega
  have hA : ∃ g,A=some ⟨g,0,none⟩:=by
   obtain ⟨_,inner,hown,_⟩:=ho
   rcases hown.2 with ⟨_,h0⟩|⟨g,cap,cur,hv',_⟩
   · omega
   ·
    simp only [Value.slice.injEq] at hv'
    exact ⟨g,hv'.1⟩
  obtain ⟨g,rfl⟩:=hA
  by_cases hr:n+1≤c
  · exact (slices_Insert_impl_Pair_impl_Pair.room base g n c i vb xs p w0 w ho hlt hr hn hc hv (hvb _ rfl) hb).mono (fun e w' h=>⟨_,h⟩)
  ·
   exact slices_Insert_impl_Pair_impl_Pair.grow base g n c i vb xs p w0 w ho hlt hnc (by omega) hn hv hb hbs


open Go.Proofs.YtabmfhnhmoiljaaGreatDoorW.PrintWords.Kd renaming R_reads' → ζg, R_below → ζh, R_alloc → ζd
open Go.Proofs.YtabmfhnhmoiljaaGreatDoorW.PrintWords renaming below_step → δr, below_set → δq, below_alloc → δk

/-! ### impl_put: function 165 -/
def impl_put.f (k:Nat) (l0:List (S51)) (a1 a2:ByteArray):Option (List (S51) × Int) :=
 if l0.length≤1000000 then ((impl_pairAt.f k l0 a1).bind fun b=>if 0≤b.1 then (if b.1≤(l0.length:Int) then (if b.2=τ then (if b.1<(l0.length:Int) then some (l0.set b.1.toNat ⟨(rd_T51 l0 b.1).f0,a2⟩,0) else none) else (if (l0.length:Int)=400 then some (l0,7) else some (l0.insertIdx b.1.toNat ⟨a1,a2⟩,0))) else none) else none) else none
set_option maxHeartbeats 4000000 in
set_option maxRecDepth 100000 in
theorem impl_put.calls (k:Nat) (A0:Option Addr) (c0:Nat) (l0:List (S51)) (a1 a2:ByteArray) (r1:List (S51)) (r2:Int) (w:World) (hr0:Kd.C k51 w A0 l0.length l0) (hc0:l0.length≤c0) (h:impl_put.f k l0 a1 a2=some (r1,r2)) :
  Calls Tryz.prog 165 #[.slice A0 l0.length c0,.string a1,.string a2] w fun e w' => ∃ v0_:Value,e = .returned (.tuple #[v0_,.int .i64 r2])∧Kd.R k51 51 w' w.heap.size (fun _=>True) v0_ r1∧Below w.heap.size w w':=by
 unfold impl_put.f at h
 by_cases hl:l0.length≤1000000
 ·
  rw [if_pos hl] at h
  obtain ⟨⟨b1,b2⟩,h1,h⟩:=Option.bind_eq_some_iff.mp h
  by_cases g1:0≤b1
  ·
   rw [if_pos g1] at h
   by_cases g2:b1≤(l0.length:Int)
   ·
    rw [if_pos g2] at h
    have H1:=ζa h1
    have HL:=ζa hl
    have HR0:=ζa hr0
    have HC0:=ζa hc0
    have HCL:Aside0 (slices_Clone_impl_Pair_impl_Pair.f l0=some l0):=⟨by unfold slices_Clone_impl_Pair_impl_Pair.f;rw [if_pos (by omega)]⟩
    clear h1 hr0 hc0 hl
    obtain ⟨i,rfl⟩ : ∃ i:Nat,b1=(i:Int):=⟨b1.toNat,by omega⟩
    have hi:i≤l0.length:=by omega
    have HI:=ζa hi
    clear g1 g2 hi
    cases b2 with
    | true =>
     rw [if_pos rfl] at h
     by_cases g3:(i:Int)<(l0.length:Int)
     ·
      rw [if_pos g3] at h
      simp only [Option.some.injEq,Prod.mk.injEq] at h
      obtain ⟨rfl,rfl⟩:=h
      have G3:=ζa g3
      clear g3
      go_enter Tryz.func165,Tryz.ntmps165
      go_wp2_with fail
      refine (slices_Clone_impl_Pair_impl_Pair.calls A0 c0 l0 l0 _ HR0.out HC0.out HCL.out).mono ?_
      rintro e w' ⟨v,rfl,ho,hb⟩
      have hshape : ∃ g c,v = .slice (some ⟨g,0,none⟩) l0.length c∧l0.length≤c∧w.heap.size≤g:=by
       obtain ⟨_,inner,hown,_⟩:=ho
       rcases hown.2 with ⟨_,h0⟩|⟨g,cap,cur,hv,hbg,_,hn,_⟩
       · have:=G3.out;omega
       ·
        exact ⟨g,cap,hv,hn,hbg⟩
      obtain ⟨g,c,rfl,hnc,hwg⟩:=hshape
      have HC:=ζa (ζg ho).2.2
      have HO:=ζa ho
      have HB:=ζa hb
      have HN:=ζa hnc
      have HG:=ζa hwg
      clear ho hb hnc hwg
      go_wp2_with fail
      refine (impl_pairAt.calls k (some ⟨g,0,none⟩) c l0 a1 i τ _ HC.out HN.out H1.out).mono ?_
      rintro e w2 ⟨rfl,hb2⟩
      have HO2:=ζa (ζh HO.out hb2)
      have HB2:=ζa (δr HB.out hb2)
      clear hb2
      have p0:0≤(i:Int):=by omega
      have q0:(i:Int)<(l0.length:Int):=G3.out
      obtain ⟨ce,hcl,hM,hcc,hfr⟩:=Kd.R_elem HO2.out z51 (i:Int) p0 q0
      obtain rfl:=k51_openM hM
      have HP:=ζa (Kd.R_seg HO2.out (i:Int) p0 q0 (seg:=[.string a2]) (j:=1) hcl hcc (show 2≤2 from by decide) (x':=(⟨(rd_T51 l0 (i:Int)).f0,a2⟩:S51)) (k51_mkM _ _ _ (⟨(rd_T51 l0 (i:Int)).f0,a2⟩:S51)) (fun _ hk=>hk))
      have hx1:w2.cell? ⟨g,i * 2+1,none⟩=some (.string ((rd_T51 l0 (i:Int)).f1)):=hcc 1 _ rfl
      have hf1:w2.frozen? ⟨g,i * 2+1,none⟩=φ:=hfr 1
      clear hcl hcc hfr hM
      go_wp2_with (((with_reducible refine gate_store (t:=9) (p:=32) rfl ?_);refine store_event (t:=9) (p:=32) (v:=?vo) (w1:=(w2.setCell ⟨g,i * 2+1,none⟩ (.string a2))) ?hg ?ho ?hn ?hr ?_;(case ho=>rfl);(case hg=>rfl);(case hn=>rfl);(case hr=>(go_simp;done));intro w3 hw;have HO3:Aside0 (Kd.R k51 51 w3 w.heap.size (fun _=>True) (.slice (some ⟨g,0,none⟩) l0.length c) (l0.set (i:Int).toNat ⟨(rd_T51 l0 (i:Int)).f0,a2⟩)):=⟨by rw [hw];exact HP.out.1⟩;have HB3:Aside0 (Below w.heap.size w w3):=⟨by rw [hw];exact δq HB2.out HG.out⟩;clear hw))
      go_ret2
      exact ⟨_,rfl,HO3.out,HB3.out⟩
     · rw [if_neg g3] at h;cases h
    | false =>
     simp only [Bool.false_eq_true,if_false] at h
     by_cases g3:(l0.length:Int)=400
     ·
      rw [if_pos g3] at h
      simp only [Option.some.injEq,Prod.mk.injEq] at h
      obtain ⟨rfl,rfl⟩:=h
      have c3:((l0.length:Int) == 400)=τ:=beq_iff_eq.mpr g3
      clear g3
      go_enter Tryz.func165,Tryz.ntmps165
      go_wp2_with fail
      refine (slices_Clone_impl_Pair_impl_Pair.calls A0 c0 l0 l0 _ HR0.out HC0.out HCL.out).mono ?_
      rintro e w' ⟨v,rfl,ho,hb⟩
      obtain ⟨A,c,rfl,hnc,hrc⟩:=Kd.R_reads ho
      have HO:=ζa ho
      have HB:=ζa hb
      have HC:=ζa hrc
      have HN:=ζa hnc
      clear ho hb hrc hnc
      go_wp2_with fail
      refine (impl_pairAt.calls k A c l0 a1 i φ _ HC.out HN.out H1.out).mono ?_
      rintro e w2 ⟨rfl,hb2⟩
      have HO2:=ζa (ζh HO.out hb2)
      have HB2:=ζa (δr HB.out hb2)
      clear hb2
      go_wp2
      go_ret2
      exact ⟨_,rfl,HO2.out,HB2.out⟩
     ·
      rw [if_neg g3] at h
      simp only [Option.some.injEq,Prod.mk.injEq] at h
      obtain ⟨rfl,rfl⟩:=h
      have c3:((l0.length:Int) == 400)=φ:=beq_eq_false_iff_ne.mpr g3
      clear g3
      go_enter Tryz.func165,Tryz.ntmps165
      go_wp2_with fail
      refine (slices_Clone_impl_Pair_impl_Pair.calls A0 c0 l0 l0 _ HR0.out HC0.out HCL.out).mono ?_
      rintro e w' ⟨v,rfl,ho,hb⟩
      have hmx : ∀ A n c,v = .slice A n c→c≤9223372036854775807:=by
       rintro A n c rfl
       obtain ⟨_,inner,hown,_⟩:=ho
       rcases hown.2 with ⟨hv,_⟩|⟨g,cap,cur,hv,_,_,_,hm,_⟩
       · simp only [Value.slice.injEq] at hv;omega
       ·
        simp only [Value.slice.injEq] at hv
        have:maxLen=9223372036854775807:=rfl
        omega
      obtain ⟨A,c,rfl,hnc,hrc⟩:=Kd.R_reads ho
      have HM:=ζa (hmx A _ c rfl)
      have HO:=ζa ho
      have HB:=ζa hb
      have HC:=ζa hrc
      have HN:=ζa hnc
      clear ho hb hrc hnc hmx
      go_wp2_with fail
      refine (impl_pairAt.calls k A c l0 a1 i φ _ HC.out HN.out H1.out).mono ?_
      rintro e w2 ⟨rfl,hb2⟩
      have HO2:=ζa (ζh HO.out hb2)
      have HB2:=ζa (δr HB.out hb2)
      clear hb2
      go_wp2_with fail
      have hA : ∀ a,A=some a→w2.heap.size≠a.block:=by
       rintro a rfl
       have:=Kd.R_lt HO2.out a.block (by
        obtain ⟨_,inner,hown,_⟩:=HO2.out
        rcases hown.2 with ⟨hv,_⟩|⟨g,cap,cur,hv,_⟩
        · simp at hv
        ·
         simp only [Value.slice.injEq,Option.some.injEq] at hv;rw [hv.1];rfl)
       omega
      refine (slices_Insert_impl_Pair_impl_Pair.calls w.heap.size l0.length c i _ A l0 ⟨a1,a2⟩ w _ ?_ HI.out HN.out HM.out HL.out ?_ hA ?_ ?_).mono ?_
      · repeat (first|exact HO2.out|apply ζd)
      ·
       exact heap_alloc_new _ _
      · repeat (first|exact HB2.out|apply δk)
      ·
       have:=HB2.out.size;simp;omega
      rintro e w3 ⟨v3,rfl,ho3,hb3⟩
      have HO3:=ζa ho3
      have HB3:=ζa hb3
      clear ho3 hb3 hA
      go_wp2
      go_ret2
      exact ⟨_,rfl,HO3.out,HB3.out⟩
   · rw [if_neg g2] at h;cases h
  ·
   rw [if_neg g1] at h;cases h
 · rw [if_neg hl] at h;cases h


open Go.Proofs.YtabmfhnhmoiljaaGreatDoorW.PrintWords renaming gate_callee → δv, below_step → δr, below_size → δs

/-! ### impl_putAmount: function 187 -/
def impl_putAmount.f (k:Nat) (l0:List (S51)) (a1:ByteArray) (a2:Int):Option ((List (S51)) × Int):=if a2 > 0 then ((impl_amountText.f a2).bind fun t229=>((impl_put.f k l0 a1 t229).bind fun bt230=>(some (bt230.1,bt230.2)))) else ((impl_drop.f k l0 a1).bind fun bt234=>(some (bt234.1,0)))
set_option maxHeartbeats 8000000 in
set_option maxRecDepth 100000 in
theorem impl_putAmount.calls (k:Nat) (A0:Option Addr) (c0:Nat) (l0:List (S51)) (a1:ByteArray) (a2:Int) (r1:List (S51)) (r2:Int) (w:World) (hr0:Kd.C k51 w A0 l0.length l0) (hc0:l0.length≤c0) (hT0:TabsOK w) (h:impl_putAmount.f k l0 a1 a2=some (r1,r2)) :
  Calls Tryz.prog 187 #[.slice A0 l0.length c0,.string a1,.int .i64 a2] w fun e w' => ∃ v0_:Value,e = .returned (.tuple #[v0_,.int .i64 r2])∧Kd.R k51 51 w' w.heap.size (fun _=>True) v0_ r1∧Below w.heap.size w w':=by
 have HT0:=ζa hT0
 clear hT0
 have HR0:=ζa hr0
 have HC0:=ζa hc0
 clear hr0 hc0
 have HB:=ζa (Below.refl w.heap.size w)
 have H:(if a2 > 0 then ((impl_amountText.f a2).bind fun t229=>((impl_put.f k l0 a1 t229).bind fun bt230=>(some (bt230.1,bt230.2)))) else ((impl_drop.f k l0 a1).bind fun bt234=>(some (bt234.1,0))))=some (r1,r2):=h
 clear h
 by_cases c4:a2 > 0
 ·
  rw [if_pos c4] at H
  have c4b0:decide (0<a2)=τ:=decide_eq_true c4
  clear c4
  replace H:=Option.bind_eq_some_iff.mp H
  obtain ⟨t229,A50,H⟩:=H
  replace H:((impl_put.f k l0 a1 t229).bind fun bt230=>(some (bt230.1,bt230.2)))=some (r1,r2):=H
  have A5:=ζa A50
  clear A50
  replace H:=Option.bind_eq_some_iff.mp H
  obtain ⟨⟨t230,t231⟩,A60,H⟩:=H
  replace H:(some (t230,t231))=some (r1,r2):=H
  have A6:=ζa A60
  clear A60
  simp only [Option.some.injEq,Prod.mk.injEq] at H
  obtain ⟨rfl,rfl⟩:=H
  go_enter Tryz.func187,Tryz.ntmps187
  go_wp2_with (first|((with_reducible refine δv (f:=147) rfl ?_);refine goesL_ (some 15) rfl rfl Tryz.func147 (by kernel_rfl) rfl #[.int .i64 a2] rfl (by (try simp only [δd,δe,δf]);rfl) ?_;(with_reducible refine (impl_amountText.calls a2 t229 _ (HT0.out.below (by exact HB.out)) A5.out).mono ?_);rintro e w7 ⟨rfl,hb⟩;refine ⟨_,rfl,?_⟩;replace HB:=ζa (δr (by exact HB.out) hb);(try clear hb);(try clear hb2);(try clear hk);(try clear hi))|((with_reducible refine δv (f:=165) rfl ?_);refine goesL_ (some 16) rfl rfl Tryz.func165 (by kernel_rfl) rfl #[.slice A0 l0.length c0,.string a1,.string t229] rfl (by (try simp only [δd,δe,δf]);rfl) ?_;(with_reducible refine (impl_put.calls k _ _ l0 a1 t229 t230 t231 _ ?side1 ?side2 A6.out).mono ?_);(case side1=>repeat (exact (Kd.C_below HR0.out HB.out)));(case side2=>exact HC0.out);rintro e w8 ⟨v232,rfl,ho0,hb⟩;refine ⟨_,rfl,?_⟩;have HO233:=ζa (Kd.R_lower ho0 (δs (by exact HB.out)));replace HB:=ζa (δr (by exact HB.out) hb);(try clear hb);(try clear hb2);(try clear hk);(try clear hi);(try clear ho0)))
  go_ret2
  exact ⟨_,by rfl,by exact HO233.out,by repeat ((with_reducible exact HB.out))⟩
 ·
  rw [if_neg c4] at H
  have c4b0:decide (0<a2)=φ:=decide_eq_false c4
  clear c4
  replace H:=Option.bind_eq_some_iff.mp H
  obtain ⟨⟨t234,t235⟩,A90,H⟩:=H
  replace H:(some (t234,0))=some (r1,r2):=H
  have A9:=ζa A90
  clear A90
  simp only [Option.some.injEq,Prod.mk.injEq] at H
  obtain ⟨rfl,rfl⟩:=H
  go_enter Tryz.func187,Tryz.ntmps187
  go_wp2_with (((with_reducible refine δv (f:=163) rfl ?_);refine goesL_ (some 22) rfl rfl Tryz.func163 (by kernel_rfl) rfl #[.slice A0 l0.length c0,.string a1] rfl (by (try simp only [δd,δe,δf]);rfl) ?_;(with_reducible refine (impl_drop.calls k _ _ l0 a1 t234 t235 _ ?side1 ?side2 A9.out).mono ?_);(case side1=>repeat (exact HR0.out));(case side2=>exact HC0.out);rintro e w10 ⟨v236,rfl,ho0,hb⟩;refine ⟨_,rfl,?_⟩;have HO237:=ζa (Kd.R_lower ho0 (δs (by exact HB.out)));replace HB:=ζa (δr (by exact HB.out) hb);(try clear hb);(try clear hb2);(try clear hk);(try clear hi);(try clear ho0)))
  go_ret2
  exact ⟨_,by rfl,by exact HO237.out,by repeat ((with_reducible exact HB.out))⟩



/-! ### impl_fewer: function 142 -/
def impl_fewer.f (k:Nat) (l0:List S51) (a1:ByteArray) (a2:Int):Option (List S51 × Int) :=
 (impl_amountAt.f k l0 a1).bind fun a=>(impl_SubAmount.f k a a2).bind fun s=>if s.2=0 then impl_putAmount.f k l0 a1 s.1 else some (l0,s.2)
set_option maxHeartbeats 2000000 in
set_option maxRecDepth 100000 in
theorem impl_fewer.calls (k:Nat) (A0:Option Addr) (c0:Nat) (l0:List S51) (a1:ByteArray) (a2:Int) (r1:List S51) (r2:Int) (w:World) (hr0:Kd.C k51 w A0 l0.length l0) (hc0:l0.length≤c0) (hT0:TabsOK w) (h:impl_fewer.f k l0 a1 a2=some (r1,r2)) :
  Calls Tryz.prog 142 #[.slice A0 l0.length c0,.string a1,.int .i64 a2] w fun e w' => ∃ v0_:Value,e = .returned (.tuple #[v0_,.int .i64 r2])∧(r2=0→Kd.R k51 51 w' w.heap.size (fun _=>True) v0_ r1)∧Below w.heap.size w w':=by
 obtain ⟨a,h1,h⟩:=Option.bind_eq_some_iff.mp h
 obtain ⟨⟨s1,s2⟩,h2,h⟩:=Option.bind_eq_some_iff.mp h
 have H1:=ζa h1
 have H2:=ζa h2
 have HR0:=ζa hr0
 have HC0:=ζa hc0
 have HT0:=ζa hT0
 clear h1 h2 hr0 hc0 hT0
 go_enter Tryz.func142,Tryz.ntmps142
 go_wp2_with fail
 refine (impl_amountAt.calls k A0 c0 l0 a1 a _ HR0.out HC0.out HT0.out H1.out).mono ?_
 rintro e w1 ⟨rfl,hb⟩
 have HB1:=ζa hb
 clear hb
 go_wp2_with fail
 refine (impl_SubAmount.calls k a a2 s1 s2 _ H2.out).mono ?_
 rintro e w2 ⟨rfl,hd⟩
 have HB2:=ζa (δr HB1.out hd.below)
 clear hd
 by_cases c2:s2=0
 ·
  subst c2
  rw [if_pos rfl] at h
  have H3:=ζa h
  clear h
  go_wp2_with fail
  refine (impl_putAmount.calls k A0 c0 l0 a1 s1 r1 r2 _ (Kd.C_below HR0.out HB2.out) HC0.out (HT0.out.below HB2.out) H3.out).mono ?_
  rintro e w3 ⟨v3,rfl,ho,hb⟩
  have HO3:=ζa (Kd.R_lower ho HB2.out.size)
  have HB3:=ζa (δr HB2.out hb)
  clear ho hb
  go_wp2
  go_ret2
  exact ⟨_,rfl,fun _=>HO3.out,HB3.out⟩
 ·
  rw [if_neg c2] at h
  simp only [Option.some.injEq,Prod.mk.injEq] at h
  obtain ⟨rfl,rfl⟩:=h
  have C2:=ζa c2
  have c2b:(s2 != 0)=τ:=bne_iff_ne.mpr c2
  clear c2
  go_wp2
  go_ret2
  exact ⟨_,rfl,fun h0=>absurd h0 C2.out,HB2.out⟩



/-! ### impl_balanceKey: function 143 -/
def impl_balanceKey.f (a0:ByteArray) (a1:ByteArray):Option (ByteArray):=if a0.size+a1.size≤1000000000000 then some ((((⟨#[98,47]⟩:ByteArray) ++ a0) ++ (⟨#[47]⟩:ByteArray)) ++ a1) else none
set_option maxHeartbeats 1000000 in
theorem impl_balanceKey.calls (a0:ByteArray) (a1:ByteArray) (r:ByteArray) (w:World) (h:impl_balanceKey.f a0 a1=some r) :
  Calls Tryz.prog 143 #[.string a0,.string a1] w fun e w'=>e = .returned (.string r)∧Drawn0 w w':=by
 unfold impl_balanceKey.f at h
 by_cases c:a0.size+a1.size≤1000000000000
 ·
  rw [if_pos c] at h
  obtain rfl:=Option.some.inj h
  have c1:(2+a0.size≤9223372036854775807)=True:=eq_true (by omega)
  have c2:(9223372036854775807<2+a0.size)=False:=eq_false (by omega)
  have c3:(2+a0.size+1≤9223372036854775807)=True:=eq_true (by omega)
  have c4:(9223372036854775807<2+a0.size+1)=False:=eq_false (by omega)
  have c5:(2+a0.size+1+a1.size≤9223372036854775807)=True:=eq_true (by omega)
  have c6:(9223372036854775807<2+a0.size+1+a1.size)=False:=eq_false (by omega)
  clear c
  go_enter Tryz.func143,Tryz.ntmps143
  go_wp2
  go_ret
  exact ⟨by rfl,by repeat (exact Drawn0.refl _)⟩
 · rw [if_neg c] at h;cases h


open Go.Proofs.YtabmfhnhmoiljaaGreatDoorW.PrintWords renaming below_drew1 → δj, pw_below_drewN → δi, below_step → δr

/-! ### impl_move_1_1: function 141 -/
theorem cell_keep {w w':World} {p:Addr} {v:Value} (hb:Below w.heap.size w w') (h:w.cell? p=some v):w'.cell? p=some v:=(hb.cell (World.block_lt_of_cell? w _ h)).trans h
set_option maxHeartbeats 2000000 in
set_option maxRecDepth 100000 in
theorem impl_move_1_1.calls (k:Nat) (A0:Option Addr) (c0:Nat) (l0:List S51) (pd pf pn_:Addr) (d f:ByteArray) (n_:Int) (r1:List S51) (r2:Int) (w:World) (hr0:Kd.C k51 w A0 l0.length l0) (hc0:l0.length≤c0) (hT0:TabsOK w) (hd:w.cell? pd=some (.string d)) (hf:w.cell? pf=some (.string f)) (hn_:w.cell? pn_=some (.int .i64 n_))
  (h:((impl_balanceKey.f d f).bind fun key=>impl_fewer.f k l0 key n_)=some (r1,r2)) :
  Calls Tryz.prog 141 #[.slice A0 l0.length c0,.pointer (some pd),.pointer (some pf),.pointer (some pn_)] w fun e w' => ∃ v0_:Value,e = .returned (.tuple #[v0_,.int .i64 r2])∧(r2=0→Kd.R k51 51 w' w.heap.size (fun _=>True) v0_ r1)∧Below w.heap.size w w':=by
 obtain ⟨key,hk,h⟩:=Option.bind_eq_some_iff.mp h
 have HK:=ζa hk
 have HF:=ζa h
 have HR0:=ζa hr0
 have HC0:=ζa hc0
 have HT0:=ζa hT0
 have HB0:=ζa (Below.refl w.heap.size w)
 have Hd:=ζa hd
 have Hf:=ζa hf
 have Hn_:=ζa hn_
 clear hk h hr0 hc0 hT0
 go_enter Tryz.func141,Tryz.ntmps141
 go_wp2_with fail
 go_region_held3 (fun w'=>w'.cell? pd=some (.string d)∧w'.cell? pf=some (.string f)∧w'.cell? pn_=some (.int .i64 n_)) (first|go_keep|exact ⟨cell_keep HB3.out Hd.out,cell_keep HB3.out Hf.out,cell_keep HB3.out Hn_.out⟩)
  (first
   | (go_at_call 143;refine (impl_balanceKey.calls d f key _ HK.out).mono ?_;rintro e w' ⟨rfl,⟨q',rfl⟩⟩)
   | (go_at_call 142;refine (impl_fewer.calls k A0 c0 l0 key n_ r1 r2 _ (by repeat (first|exact HR0.out|apply Kd.C_drew|apply Kd.C_drewN)) HC0.out (by first|exact HT0.out|exact HT0.out.below (by repeat (first|exact HB0.out|apply δj|apply δi))) HF.out).mono ?_;rintro e w3 ⟨v3,rfl,ho,hb⟩;have HO3:=ζa ho;have HB3:Aside0 (Below w.heap.size w w3):=⟨δr (by repeat (first|exact HB0.out|apply δj|apply δi)) hb⟩;clear ho hb))
 all_goals go_wp2
 all_goals (go_ret2;exact ⟨_,rfl,fun h0=>HO3.out h0,HB3.out⟩)

end Go.Proofs.YtabmfhnhmoiljaaGreatDoor.Q
