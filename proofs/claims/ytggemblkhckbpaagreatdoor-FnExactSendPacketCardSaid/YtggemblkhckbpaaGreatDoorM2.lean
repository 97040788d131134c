/- Parts of the proof: what single Go functions compute, each with its walk, and plain laws over these. -/
import Derived.Test.YtggemblkhckbpaaGreatDoorVMac
import Derived.Test.YtggemblkhckbpaaGreatDoorM0
import Derived.Test.YtggemblkhckbpaaGreatDoorM1
namespace Go.Proofs.YtggemblkhckbpaaGreatDoor.Q
open Go.RowKit Go.Proofs.YtggemblkhckbpaaGreatDoorW.PrintWords Go.Proofs.YtggemblkhckbpaaGreatDoorW.PrintLast Go.Proofs.YtggemblkhckbpaaGreatDoorW.PrintMore
open Go.RowKit renaming wrap64 → ζm
open Go.Proofs.YtggemblkhckbpaaGreatDoorW.PrintWords.Aside0 renaming mk → ζa
open Go.Proofs.YtggemblkhckbpaaGreatDoorW.PrintWords renaming gate_callee → δv
open Bool renaming true → τ, false → φ
attribute [local go_sem] max2_int min2_int max_two min_two max_three min_three max_four min_four   -- for this text's walks alone
set_option linter.unusedVariables false
set_option linter.unusedSimpArgs false
set_option maxHeartbeats 8000000
set_option maxRecDepth 100000

/-! ### spec_l02Of: function 116 -/
mutual
def spec_l02Of.j0:Nat→ByteArray→Bool→Option (Int)
 | 0,_,_=>none
 | k+1,x0,x19=>if x19=τ then (some (-1)) else (spec_l02Of.l0 k x0 0 0)
def spec_l02Of.l0:Nat→ByteArray→Int→Int→Option (Int)
 | 0,_,_,_=>none
 | k+1,x0,x3,x4=>if x4<(x0.size:Int) then (if 0≤x4 then (if (bt x0 x4)<48 then (spec_l02Of.j2 k x0 x3 x4 τ) else (spec_l02Of.j2 k x0 x3 x4 (decide ((bt x0 x4) > 57)))) else (none)) else (some x3)
def spec_l02Of.j2:Nat→ByteArray→Int→Int→Bool→Option (Int)
 | 0,_,_,_,_=>none
 | k+1,x0,x3,x4,x35=>if x35=τ then (some (-1)) else (if 0≤x4 then (if x4<(x0.size:Int) then (if x3 > ((1000000000000000000 - (((bt x0 x4) - 48) % 256)) / 10) then (some (-1)) else (spec_l02Of.l0 k x0 (ζm ((ζm (x3 * 10))+(((bt x0 x4) - 48) % 256))) (ζm (x4+1)))) else (none)) else (none))
end
def spec_l02Of.f (k:Nat) (a0:ByteArray):Option (Int):=(spec_l01In.f (a0.size:Int) 1 19).bind fun t221=>(if t221=τ then (if (a0.size:Int) > 1 then (if 0<(a0.size:Int) then (spec_l02Of.j0 k a0 ((bt a0 0) == 48)) else (none)) else (spec_l02Of.j0 k a0 φ)) else (spec_l02Of.j0 k a0 τ))
theorem spec_l02Of.calls (k:Nat) (a0:ByteArray) (r:Int) (w:World) (h:spec_l02Of.f k a0=some r) :
  Calls Tryz.prog 116 #[.string a0] w fun e w'=>e = .returned (.int .i64 r)∧Drawn0 w w':=by
 have H:((spec_l01In.f (a0.size:Int) 1 19).bind fun t221=>(if t221=τ then (if (a0.size:Int) > 1 then (if 0<(a0.size:Int) then (spec_l02Of.j0 k a0 ((bt a0 0) == 48)) else (none)) else (spec_l02Of.j0 k a0 φ)) else (spec_l02Of.j0 k a0 τ)))=some r:=h
 clear h
 have HC2:=ζa H
 clear H
 go_enter Tryz.func116,Tryz.ntmps116
 go_upto_region 1 with (fail)
 go_cut [19] (fun v19 wc => ∃ (kq:Nat) (x19_1:Bool),v19 = .bool x19_1∧Aside0 (spec_l02Of.j0 kq a0 x19_1=some r)∧Aside0 (kq≤k)∧Drawn0 w wc)
 case first =>
  have H:=HC2.out
  clear HC2
  obtain ⟨t221,A3,H⟩:=bsm H
  by_cases c4:t221=τ
  ·
   subst c4
   rw [ifT] at H
   by_cases c5:(a0.size:Int) > 1
   ·
    rw [if_pos c5] at H
    have c5b0:decide (1<(a0.size:Int))=τ:=decide_eq_true c5
    have c5b1:decide (1<a0.size)=τ:=decide_eq_true (by omega)
    clear c5
    by_cases c6:0<(a0.size:Int)
    ·
     rw [if_pos c6] at H
     have c6b0:=decide_eq_true c6
     have c6b1:decide (0<a0.size)=τ:=decide_eq_true (by omega)
     clear c6
     have H':=ζa H
     clear H
     go_wp2_with (((with_reducible refine δv (f:=36) rfl ?_);refine gl 8 Tryz.func36 #[.int .i64 (a0.size:Int),.int .i64 1,.int .i64 19] ?_;(with_reducible refine (spec_l01In.calls (a0.size:Int) 1 19 τ _ A3.out).mono ?_);rintro e w' ⟨rfl,⟨nd,rfl⟩⟩;refine ⟨_,rfl,?_⟩;have p7:0≤(0:Int):=(by omega);have q7:0<a0.size:=(by have:(0:Int)<(a0.size:Int):=of_decide_eq_true (by (with_reducible assumption));omega);have hx7 : ∀ h:0<a0.size,((a0[0]'h).toNat:Int)=bt a0 0:=bt_at a0 0;clear p7;have qi7:(0<(a0.size:Int))=True:=eq_true (of_decide_eq_true (by (with_reducible assumption)));replace q7:=eq_true q7))
     go_meet
     case rel=>exact ⟨_,(((bt a0 0) == 48)),(by rfl),H',⟨by omega⟩,by repeat (first|exact Drawn0.refl _|apply Drawn0.step)⟩
    ·
     rw [if_neg c6] at H
     exact absurd H (by simp)
   ·
    rw [if_neg c5] at H
    have c5b0:decide (1<(a0.size:Int))=φ:=decide_eq_false c5
    have c5b1:decide (1<a0.size)=φ:=decide_eq_false (by omega)
    clear c5
    have H':=ζa H
    clear H
    go_wp2_with (((with_reducible refine δv (f:=36) rfl ?_);refine gl 8 Tryz.func36 #[.int .i64 (a0.size:Int),.int .i64 1,.int .i64 19] ?_;(with_reducible refine (spec_l01In.calls (a0.size:Int) 1 19 τ _ A3.out).mono ?_);rintro e w' ⟨rfl,⟨nd,rfl⟩⟩;refine ⟨_,rfl,?_⟩))
    go_meet
    case rel=>exact ⟨_,(φ),(by rfl),H',⟨by omega⟩,by repeat (first|exact Drawn0.refl _|apply Drawn0.step)⟩
  ·
   replace c4:=Bool.eq_false_iff.mpr c4
   subst c4
   rw [ifF] at H
   have H':=ζa H
   clear H
   go_wp2_with (((with_reducible refine δv (f:=36) rfl ?_);refine gl 8 Tryz.func36 #[.int .i64 (a0.size:Int),.int .i64 1,.int .i64 19] ?_;(with_reducible refine (spec_l01In.calls (a0.size:Int) 1 19 φ _ A3.out).mono ?_);rintro e w' ⟨rfl,⟨nd,rfl⟩⟩;refine ⟨_,rfl,?_⟩))
   go_meet
   case rel=>exact ⟨_,(τ),(by rfl),H',⟨by omega⟩,by repeat (first|exact Drawn0.refl _|apply Drawn0.step)⟩
 case rest =>
  clear HC2
  try clear c1
  try clear p2
  try clear c3
  try clear c4
  try clear c5
  try clear c5b0
  try clear c5b1
  try clear c6
  try clear c6b0
  try clear c6b1
  try clear p7
  try clear q7
  try clear hx7
  try clear qi7
  try clear p7
  try clear q7
  obtain ⟨kq,x19_1,rfl,HA,HJ1,⟨mc1,rfl⟩⟩:=hcut
  cases kq with
  | zero=>exact absurd HA.out (by simp [spec_l02Of.j0])
  | succ kj1 =>
   have H:=HA.out
   clear HA
   simp only [spec_l02Of.j0] at H
   by_cases c8:x19_1=τ
   ·
    subst c8
    rw [ifT] at H
    obtain rfl:=Option.some.inj H
    go_wp2
    go_ret
    exact ⟨by rfl,by repeat (first|exact Drawn0.refl _|apply Drawn0.step)⟩
   ·
    replace c8:=Bool.eq_false_iff.mpr c8
    subst c8
    rw [ifF] at H
    have H':=ζa H
    clear H
    go_wp2
    go_loopg [3,4] kj1 (fun kq v3 v4 w' => ∃ (x3_2:Int) (x4_2:Int),v3 = .int .i64 x3_2∧v4 = .int .i64 x4_2∧Aside0 (spec_l02Of.l0 kq a0 x3_2 x4_2=some r)∧Aside0 (kq≤kj1)∧Drawn0 w w')
    case atStart=>exact ⟨(0),(0),(by rfl),(by rfl),H',⟨Nat.le_refl _⟩,by repeat (first|exact Drawn0.refl _|apply Drawn0.step)⟩
    case round =>
     clear H'
     try clear c1
     try clear p2
     try clear c3
     try clear c4
     try clear c5
     try clear c5b0
     try clear c5b1
     try clear c6
     try clear c6b0
     try clear c6b1
     try clear p7
     try clear q7
     try clear hx7
     try clear qi7
     try clear c8
     try clear p2
     try clear p7
     try clear q7
     obtain ⟨x3_2,x4_2,rfl,rfl,HA,HK2,⟨m2,rfl⟩⟩:=hrel
     cases gk with
     | zero=>exact absurd HA.out (by simp [spec_l02Of.l0])
     | succ k2 =>
      have H:=HA.out
      clear HA
      simp only [spec_l02Of.l0] at H
      by_cases c9:x4_2<(a0.size:Int)
      ·
       rw [if_pos c9] at H
       have c9b0:=decide_eq_true c9
       clear c9
       have HC10:=ζa H
       clear H
       go_upto_region 7 with (fail)
       go_cut [35] (fun v35 wc => ∃ (kq:Nat) (x35_9:Bool),v35 = .bool x35_9∧Aside0 (spec_l02Of.j2 kq a0 x3_2 x4_2 x35_9=some r)∧Aside0 (kq≤k2)∧Drawn0 w wc)
       case first =>
        have H:=HC10.out
        clear HC10
        by_cases c11:0≤x4_2
        ·
         rw [if_pos c11] at H
         have c11b0:=decide_eq_true c11
         clear c11
         by_cases c13:(bt a0 x4_2)<48
         ·
          rw [if_pos c13] at H
          have c13b0:=decide_eq_true c13
          clear c13
          have H':=ζa H
          clear H
          have p12:0≤(x4_2:Int):=of_decide_eq_true (by (with_reducible assumption))
          have q12:x4_2<(a0.size:Int):=of_decide_eq_true (by (with_reducible assumption))
          have hx12:=bt_at a0 x4_2
          replace p12:=eq_true p12
          replace q12:=eq_true q12
          go_wp2
          go_meet
          case rel=>exact ⟨_,(τ),(by rfl),H',⟨by have:=HJ1.out;have:=HK2.out;omega⟩,by repeat (first|exact Drawn0.refl _|apply Drawn0.step)⟩
         ·
          rw [if_neg c13] at H
          have c13b0:=decide_eq_false c13
          clear c13
          have H':=ζa H
          clear H
          have p12:0≤(x4_2:Int):=of_decide_eq_true (by (with_reducible assumption))
          have q12:x4_2<(a0.size:Int):=of_decide_eq_true (by (with_reducible assumption))
          have hx12:=bt_at a0 x4_2
          replace p12:=eq_true p12
          replace q12:=eq_true q12
          have p14:0≤(x4_2:Int):=of_decide_eq_true (by (with_reducible assumption))
          have q14:x4_2<(a0.size:Int):=of_decide_eq_true (by (with_reducible assumption))
          have hx14:=bt_at a0 x4_2
          replace p14:=eq_true p14
          replace q14:=eq_true q14
          go_wp2
          go_meet
          case rel=>exact ⟨_,(decide ((bt a0 x4_2) > 57)),(by rfl),H',⟨by have:=HJ1.out;have:=HK2.out;omega⟩,by repeat (first|exact Drawn0.refl _|apply Drawn0.step)⟩
        ·
         rw [if_neg c11] at H
         exact absurd H (by simp)
       case rest =>
        clear HC10
        try clear c1
        try clear p1
        try clear q1
        try clear hx1
        try clear p2
        try clear c3
        try clear c4
        try clear c5
        try clear c5b0
        try clear c5b1
        try clear c6
        try clear c6b0
        try clear c6b1
        try clear p7
        try clear q7
        try clear hx7
        try clear qi7
        try clear c8
        try clear c9
        try clear c9b0
        try clear c11
        try clear c11b0
        try clear p12
        try clear q12
        try clear hx12
        try clear c13
        try clear c13b0
        try clear p14
        try clear q14
        try clear hx14
        try clear p12
        try clear p14
        try clear p2
        try clear p7
        try clear q12
        try clear q14
        try clear q7
        obtain ⟨kq,x35_9,rfl,HA,HJ9,⟨mc9,rfl⟩⟩:=hcut
        cases kq with
        | zero=>exact absurd HA.out (by simp [spec_l02Of.j2])
        | succ kj9 =>
         have H:=HA.out
         clear HA
         simp only [spec_l02Of.j2] at H
         by_cases c15:x35_9=τ
         ·
          subst c15
          rw [ifT] at H
          obtain rfl:=Option.some.inj H
          go_wp2
          go_ret
          exact ⟨by rfl,by repeat (first|exact Drawn0.refl _|apply Drawn0.step)⟩
         ·
          replace c15:=Bool.eq_false_iff.mpr c15
          subst c15
          rw [ifF] at H
          by_cases c16:0≤x4_2
          ·
           rw [if_pos c16] at H
           have c16b0:=decide_eq_true c16
           clear c16
           by_cases c17:x4_2<(a0.size:Int)
           ·
            rw [if_pos c17] at H
            have c17b0:=decide_eq_true c17
            clear c17
            by_cases c19:x3_2 > ((1000000000000000000 - (((bt a0 x4_2) - 48) % 256)) / 10)
            ·
             rw [if_pos c19] at H
             have c19b0:decide (((1000000000000000000 - (((bt a0 x4_2) - 48) % 256)) / 10)<x3_2)=τ:=decide_eq_true c19
             clear c19
             obtain rfl:=Option.some.inj H
             have p18:0≤(x4_2:Int):=of_decide_eq_true (by (with_reducible assumption))
             have q18:x4_2<(a0.size:Int):=of_decide_eq_true (by (with_reducible assumption))
             have hx18:=bt_at a0 x4_2
             replace p18:=eq_true p18
             replace q18:=eq_true q18
             go_wp2
             go_ret
             exact ⟨by rfl,by repeat (first|exact Drawn0.refl _|apply Drawn0.step)⟩
            ·
             rw [if_neg c19] at H
             have c19b0:decide (((1000000000000000000 - (((bt a0 x4_2) - 48) % 256)) / 10)<x3_2)=φ:=decide_eq_false c19
             clear c19
             have H':=ζa H
             clear H
             have p18:0≤(x4_2:Int):=of_decide_eq_true (by (with_reducible assumption))
             have q18:x4_2<(a0.size:Int):=of_decide_eq_true (by (with_reducible assumption))
             have hx18:=bt_at a0 x4_2
             replace p18:=eq_true p18
             replace q18:=eq_true q18
             go_wp2
             go_roundg kj9
             case measure=>have:=HJ1.out;have:=HK2.out;have:=HJ9.out;omega
             case rel=>exact ⟨(ζm ((ζm (x3_2 * 10))+(((bt a0 x4_2) - 48) % 256))),(ζm (x4_2+1)),(by rfl),(by rfl),H',⟨by have:=HJ1.out;have:=HK2.out;have:=HJ9.out;omega⟩,by repeat (first|exact Drawn0.refl _|apply Drawn0.step)⟩
           ·
            rw [if_neg c17] at H
            exact absurd H (by simp)
          ·
           rw [if_neg c16] at H
           exact absurd H (by simp)
      ·
       rw [if_neg c9] at H
       have c9b0:=decide_eq_false c9
       clear c9
       obtain rfl:=Option.some.inj H
       go_wp2
       go_ret
       exact ⟨by rfl,by repeat (first|exact Drawn0.refl _|apply Drawn0.step)⟩


open Go.Proofs.YtggemblkhckbpaaGreatDoorW.PrintWords renaming gate_callee → δv, pw_below_drewN → δi
set_option maxHeartbeats 8000000
set_option maxRecDepth 100000

/-! ### spec_l05Read: function 76 -/
def spec_l05Read.f (k:Nat) (l0:List (S61)) (a1:ByteArray):Option (Int):=(spec_l03Get.f k l0 a1).bind fun bt222=>(if bt222.2=τ then ((spec_l02Of.f k bt222.1).bind fun t224=>(some (mx 0 t224))) else (some 0))
theorem spec_l05Read.calls (k:Nat) (A0:Option Addr) (c0:Nat) (l0:List (S61)) (a1:ByteArray) (r:Int) (w:World) (hr0:Kd.C k61 w A0 l0.length l0) (hc0:l0.length≤c0) (h:spec_l05Read.f k l0 a1=some r) :
  Calls Tryz.prog 76 #[.slice A0 l0.length c0,.string a1] w fun e w'=>e = .returned (.int .i64 r)∧Below w.heap.size w w':=by
 have HR0:=ζa hr0
 have HC0:=ζa hc0
 clear hr0 hc0
 have HB:=ζa (Below.refl w.heap.size w)
 have H:((spec_l03Get.f k l0 a1).bind fun bt222=>(if bt222.2=τ then ((spec_l02Of.f k bt222.1).bind fun t224=>(some (mx 0 t224))) else (some 0)))=some r:=h
 clear h
 obtain ⟨⟨t222,t223⟩,A3,H⟩:=bsm H
 dsimp only at H
 by_cases c4:t223=τ
 ·
  subst c4
  rw [ifT] at H
  obtain ⟨t224,A5,H⟩:=bsm H
  obtain ⟨ji6,hji6⟩ : ∃ j_:Int,(mx 0 t224)=j_:=⟨_,rfl⟩
  replace H:(some ji6)=some r:=by (rw [hji6] at H;exact H)
  (try rw [hji6] at A3)
  (try rw [hji6] at A5)
  (try (have hji6l:0≤ji6:=by (rw [← hji6];unfold mx;(repeat' split) <;> omega)))
  (try (have hji6m:0≤ji6:=by omega))
  have hji6_:(if 0<t224 then t224 else 0)=ji6:=hji6
  obtain rfl:=Option.some.inj H
  go_enter Tryz.func76,Tryz.ntmps76
  go_wp2_with (first|((with_reducible refine δv (f:=115) rfl ?_);refine gl 10 Tryz.func115 #[.slice A0 l0.length c0,.string a1] ?_;(with_reducible refine (spec_l03Get.calls k _ _ l0 a1 t222 τ _ ?side1 ?side2 A3.out).mono ?_);(case side1=>repeat (exact HR0.out));(case side2=>exact HC0.out);rintro e w' ⟨rfl,⟨nd,rfl⟩⟩;refine ⟨_,rfl,?_⟩)|((with_reducible refine δv (f:=116) rfl ?_);refine gl 16 Tryz.func116 #[.string t222] ?_;(with_reducible refine (spec_l02Of.calls k t222 t224 _ A5.out).mono ?_);rintro e w' ⟨rfl,⟨nd,rfl⟩⟩;refine ⟨_,rfl,?_⟩))
  go_ret
  exact ⟨by rfl,by repeat ((with_reducible first|exact HB.out|apply δi))⟩
 ·
  replace c4:=Bool.eq_false_iff.mpr c4
  subst c4
  rw [ifF] at H
  obtain rfl:=Option.some.inj H
  go_enter Tryz.func76,Tryz.ntmps76
  go_wp2_with (((with_reducible refine δv (f:=115) rfl ?_);refine gl 10 Tryz.func115 #[.slice A0 l0.length c0,.string a1] ?_;(with_reducible refine (spec_l03Get.calls k _ _ l0 a1 t222 φ _ ?side1 ?side2 A3.out).mono ?_);(case side1=>repeat (exact HR0.out));(case side2=>exact HC0.out);rintro e w' ⟨rfl,⟨nd,rfl⟩⟩;refine ⟨_,rfl,?_⟩))
  go_ret
  exact ⟨by rfl,by repeat ((with_reducible first|exact HB.out|apply δi))⟩


open Go.Proofs.YtggemblkhckbpaaGreatDoorW.PrintWords renaming gate_callee → δv, below_step → δr, gate_dst → δx, below_size → δs, below_drew1 → δj
open Go.Act renaming put → ζl
open List renaming setIfInBounds_toArray → δa, set_cons_zero → δb, set_cons_succ → δc
open Go.Proofs.YtggemblkhckbpaaGreatDoorW.PrintWords.Kd renaming R_below → ζh
set_option maxHeartbeats 8000000
set_option maxRecDepth 100000

/-! ### spec_l00Digits: function 77 -/
def spec_l00Digits.f:Nat→Int→Option (ByteArray)
 | 0,_=>none
 | k+1,a0=>if a0=(-9223372036854775808) then (some (⟨#[45,57,50,50,51,51,55,50,48,51,54,56,53,52,55,55,53,56,48,56]⟩:ByteArray)) else (if a0<0 then ((spec_l00Digits.f k (ζm (-a0))).bind fun t225=>(if 1+t225.size≤9223372036854775807 then (some ((⟨#[45]⟩:ByteArray) ++ t225)) else (none))) else (if a0<10 then (some (strOfNums (([(ζm (48+a0)) % 256]:List Int)))) else ((spec_l00Digits.f k (ζm (Int.tdiv a0 10))).bind fun t229=>((some (([(ζm (48+(Int.tmod a0 10))) % 256]:List Int):List Int)).bind fun y230=>(if t229.size+(strOfNums y230).size≤9223372036854775807 then (some (t229 ++ (strOfNums y230))) else (none))))))
def spec_l00Digits.T7:Bool × List (List Nat × List Nat):=(τ,[([],[]),([0],[0]),([1],[1]),([],[]),([3],[3]),([4],[4]),([5],[5]),([6],[6]),([7],[7]),([2,8],[2,8]),([9,2,0,1,2,3,4,5,6,7,8,9],[9])])
def spec_l00Digits.B7:List Nat:=[0,1,3,0,8,24,56,120,248,511,1023]
theorem spec_l00Digits.tab7:rtab .any (opsOf Tryz.f77 7)=spec_l00Digits.T7:=by kernel_rfl
theorem spec_l00Digits.bits7:waitsOk spec_l00Digits.T7.2 spec_l00Digits.B7=τ:=by kernel_rfl
theorem spec_l00Digits.calls (k:Nat) : ∀ (a0:Int) (r:ByteArray) (w:World) (h:spec_l00Digits.f k a0=some r),
  Calls Tryz.prog 77 #[.int .i64 a0] w fun e w'=>e = .returned (.string r)∧Below w.heap.size w w':=by
 induction k using Nat.strongRecOn with
 | _ k ih =>
 intro a0 r w h
 cases k with
 | zero=>exact absurd h (by simp [spec_l00Digits.f])
 | succ k =>
 simp only [spec_l00Digits.f] at h
 have HB:=ζa (Below.refl w.heap.size w)
 have H:(if a0=(-9223372036854775808) then (some (⟨#[45,57,50,50,51,51,55,50,48,51,54,56,53,52,55,55,53,56,48,56]⟩:ByteArray)) else (if a0<0 then ((spec_l00Digits.f k (ζm (-a0))).bind fun t225=>(if 1+t225.size≤9223372036854775807 then (some ((⟨#[45]⟩:ByteArray) ++ t225)) else (none))) else (if a0<10 then (some (strOfNums (([(ζm (48+a0)) % 256]:List Int)))) else ((spec_l00Digits.f k (ζm (Int.tdiv a0 10))).bind fun t229=>((some (([(ζm (48+(Int.tmod a0 10))) % 256]:List Int):List Int)).bind fun y230=>(if t229.size+(strOfNums y230).size≤9223372036854775807 then (some (t229 ++ (strOfNums y230))) else (none)))))))=some r:=h
 clear h
 by_cases c2:a0=(-9223372036854775808)
 ·
  rw [if_pos c2] at H
  have c2b0:=beq_iff_eq.mpr c2
  have c2b1:=bne_eq_false_iff_eq.mpr c2
  clear c2
  obtain rfl:=Option.some.inj H
  go_enter Tryz.func77,Tryz.ntmps77
  go_wp2
  go_ret
  exact ⟨by rfl,by repeat ((with_reducible exact HB.out))⟩
 ·
  rw [if_neg c2] at H
  have c2b0:=beq_eq_false_iff_ne.mpr c2
  have c2b1:=bne_iff_ne.mpr c2
  by_cases c3:a0<0
  ·
   rw [if_pos c3] at H
   have c3b0:=decide_eq_true c3
   clear c3
   obtain ⟨t225,A4,H⟩:=bsm H
   by_cases c5:1+t225.size≤9223372036854775807
   ·
    rw [if_pos c5] at H
    have c5b0:=eq_true c5
    have c5b1:=decide_eq_true c5
    try have c5b2:(9223372036854775807<1+t225.size)=False:=eq_false (Nat.not_lt.2 c5)
    obtain rfl:=Option.some.inj H
    go_enter Tryz.func77,Tryz.ntmps77
    go_wp2_with (((with_reducible refine δv (f:=77) rfl ?_);refine gl 9 Tryz.func77 #[.int .i64 (ζm (-a0))] ?_;(with_reducible refine (ih k (by omega) (ζm (-a0)) t225 _ A4.out).mono ?_);rintro e w6 ⟨rfl,hb⟩;refine ⟨_,rfl,?_⟩;replace HB:=ζa (δr (by exact HB.out) hb);(try clear hb);(try clear hb2);(try clear hk);(try clear hi)))
    go_ret
    exact ⟨by rfl,by repeat ((with_reducible exact HB.out))⟩
   ·
    rw [if_neg c5] at H
    exact absurd H (by simp)
  ·
   rw [if_neg c3] at H
   have c3b0:=decide_eq_false c3
   clear c3
   by_cases c7:a0<10
   ·
    rw [if_pos c7] at H
    have c7b0:=decide_eq_true c7
    clear c7
    obtain ⟨y226,hy226⟩ : ∃ y_:List Int,y_=(([(ζm (48+a0)) % 256]:List Int)):=⟨_,rfl⟩
    replace H:(some (strOfNums y226))=some r:=by (rw [hy226];with_reducible exact H)
    have Ny226:=ζa hy226
    clear hy226
    obtain rfl:=Option.some.inj H
    go_enter Tryz.func77,Tryz.ntmps77
    go_wp2_with (((with_reducible refine δx (N:=16) rfl ?_);refine Kd.R_lit (Kd.int .u8) _ 5 ?hg (N:=16) ?hd (xs:=([(ζm (48+a0)) % 256]:List Int)) (inner:=[.int .u8 ((ζm (48+a0)) % 256)]) (ok:=fun _=>True) (okp:=fun _=>True) ?hr ?hp (fun _ hk=>hk) trivial (Below.refl _ _) (Nat.le_refl _) (by simp) ?_;(case hd=>rfl);(case hg=>rfl);(case hr=>(go_simp;done));(case hp=>exact (Reps.one (show Kd.M (Kd.int .u8) _ _ _ ((ζm (48+a0)) % 256) [.int .u8 ((ζm (48+a0)) % 256)] from rfl) (Reps.none _ _)));intro v227 w8 ho9 hb hg_ hnew_;clear hg_ hnew_;(rw [← Ny226.out] at ho9);have HO228:=ζa (Kd.R_lower ho9 (δs (by exact HB.out)));replace HB:=ζa (δr (by exact HB.out) hb);clear hb ho9;have hcv10:=own_string (P:=Tryz.prog) Tryz.underlying22 Tryz.underlying5 Tryz.underlying9 (Kd.own_of_R HO228.out)))
    go_ret
    exact ⟨by rfl,by repeat ((with_reducible exact HB.out))⟩
   ·
    rw [if_neg c7] at H
    have c7b0:=decide_eq_false c7
    clear c7
    obtain ⟨t229,A11,H⟩:=bsm H
    obtain ⟨y230,hy230⟩ : ∃ y_:List Int,y_=(([(ζm (48+(Int.tmod a0 10))) % 256]:List Int)):=⟨_,rfl⟩
    replace H:(if t229.size+(strOfNums y230).size≤9223372036854775807 then (some (t229 ++ (strOfNums y230))) else (none))=some r:=by (have H2_:=(Option.bind_some _ _).symm.trans H;rw [hy230];with_reducible exact H2_)
    have Ny230:=ζa hy230
    clear hy230
    by_cases c12:t229.size+(strOfNums y230).size≤9223372036854775807
    ·
     rw [if_pos c12] at H
     have c12b0:=eq_true c12
     have c12b1:=decide_eq_true c12
     try have c12b2:(9223372036854775807<t229.size+(strOfNums y230).size)=False:=eq_false (Nat.not_lt.2 c12)
     obtain rfl:=Option.some.inj H
     go_enter Tryz.func77,Tryz.ntmps77
     try go_wp2
     replace HB:=ζa (δj HB.out)
     refine sta 11 (fun w'=>True) [] spec_l00Digits.tab7 spec_l00Digits.bits7 trivial (fun hHeld HT_ HW_ => ?_)
     generalize w.drew=w13 at HB hHeld ⊢
     refine pu 0 18 ?_
     refine pu 1 19 ?_
     refine pu 3 21 ?_
     refine pu 4 22 ?_
     refine pu 5 23 ?_
     refine pu 6 24 ?_
     refine join_ (σ:=Value) 2 #[τ,τ,τ,τ,τ,τ,τ,τ,τ,φ,φ] (fun s_ => [(20,.string t229),(25,s_),(26,.string (strOfNums y230))]) (fun s_ w'=>(Kd.R (Kd.int .u8) 5 w' w.heap.size (fun _=>True) s_ y230)∧(Below w.heap.size w w')) ?_ ?_
     rotate_left
     ·
      intro hCont
      refine tw 2 7 20 25 (fun K hK => ?_) (fun K hK => ?_)
      ·
       skip
       refine gs Tryz.func77 #[.int .i64 (ζm (Int.tdiv a0 10))] ?_
       with_reducible refine (ih k (by omega) (ζm (Int.tdiv a0 10)) t229 _ A11.out).mono ?_
       rintro e w14 ⟨rfl,hb⟩
       refine ⟨_,rfl,?_⟩
       replace HB:=ζa (δr (by exact HB.out) hb)
       (try clear hb)
       (try clear hb2)
       (try clear hk)
       (try clear hi)
       refine hK.out _ _ trivial (fun hHeld => ?_)
       clear hK K
       refine nm 20 ?_
       refine on 7 25 (fun K hK => ?_)
       refine Kd.R_lit_step (Kd.int .u8) _ 5 ?hg (N:=25) ?hd (xs:=([(ζm (48+(Int.tmod a0 10))) % 256]:List Int)) (inner:=[.int .u8 ((ζm (48+(Int.tmod a0 10))) % 256)]) (ok:=fun _=>True) (okp:=fun _=>True) ?hr ?hp (fun _ hk=>hk) trivial (Below.refl _ _) (Nat.le_refl _) (by simp) ?_;(case hd=>rfl);(case hg=>rfl);(case hr=>(go_simp;rfl));(case hp=>exact (Reps.one (show Kd.M (Kd.int .u8) _ _ _ ((ζm (48+(Int.tmod a0 10))) % 256) [.int .u8 ((ζm (48+(Int.tmod a0 10))) % 256)] from rfl) (Reps.none _ _)))
       intro v231 w15 ho16 hb hg_ hnew_
       clear hg_ hnew_
       (rw [← Ny230.out] at ho16)
       have HO232:=ζa (Kd.R_lower ho16 (δs (by exact HB.out)))
       replace HB:=ζa (δr (by exact HB.out) hb)
       clear hb ho16
       refine hK.out _ _ trivial (fun hHeld => ?_)
       clear hK K
       refine nm 25 ?_
       refine on 8 26 (fun K hK => ?_)
       have hcv17:=own_string (P:=Tryz.prog) Tryz.underlying22 Tryz.underlying5 Tryz.underlying9 (Kd.own_of_R HO232.out)
       refine value_ (w1:=?_) (v:=?_) (by rfl) rfl ?_ ?_
       rotate_left 2
       ·
        go_simp
        constructor
        · rfl
        ·
         rfl
       clear hcv17
       refine hK.out _ _ trivial (fun hHeld => ?_)
       clear hK K
       refine nm 26 ?_
       exact norm_ (by simp only [putAll,ζl,δa,δb,δc]) (hCont (v231) _ ⟨(by exact HO232.out),(by exact HB.out)⟩)
      ·
       skip
       refine Kd.R_lit_step (Kd.int .u8) _ 5 ?hg (N:=25) ?hd (xs:=([(ζm (48+(Int.tmod a0 10))) % 256]:List Int)) (inner:=[.int .u8 ((ζm (48+(Int.tmod a0 10))) % 256)]) (ok:=fun _=>True) (okp:=fun _=>True) ?hr ?hp (fun _ hk=>hk) trivial (Below.refl _ _) (Nat.le_refl _) (by simp) ?_;(case hd=>rfl);(case hg=>rfl);(case hr=>(go_simp;rfl));(case hp=>exact (Reps.one (show Kd.M (Kd.int .u8) _ _ _ ((ζm (48+(Int.tmod a0 10))) % 256) [.int .u8 ((ζm (48+(Int.tmod a0 10))) % 256)] from rfl) (Reps.none _ _)))
       intro v231 w14 ho15 hb hg_ hnew_
       clear hg_ hnew_
       (rw [← Ny230.out] at ho15)
       have HO232:=ζa (Kd.R_lower ho15 (δs (by exact HB.out)))
       replace HB:=ζa (δr (by exact HB.out) hb)
       clear hb ho15
       refine hK.out _ _ trivial (fun hHeld => ?_)
       clear hK K
       refine nm 25 ?_
       refine tw 2 8 20 26 (fun K hK => ?_) (fun K hK => ?_)
       ·
        skip
        refine gs Tryz.func77 #[.int .i64 (ζm (Int.tdiv a0 10))] ?_
        with_reducible refine (ih k (by omega) (ζm (Int.tdiv a0 10)) t229 _ A11.out).mono ?_
        rintro e w16 ⟨rfl,hb⟩
        refine ⟨_,rfl,?_⟩
        replace HO232:=ζa (ζh (by exact HO232.out) hb)
        replace HB:=ζa (δr (by exact HB.out) hb)
        (try clear hb)
        (try clear hb2)
        (try clear hk)
        (try clear hi)
        refine hK.out _ _ trivial (fun hHeld => ?_)
        clear hK K
        refine nm 20 ?_
        refine on 8 26 (fun K hK => ?_)
        have hcv17:=own_string (P:=Tryz.prog) Tryz.underlying22 Tryz.underlying5 Tryz.underlying9 (Kd.own_of_R HO232.out)
        refine value_ (w1:=?_) (v:=?_) (by rfl) rfl ?_ ?_
        rotate_left 2
        ·
         go_simp
         constructor
         · rfl
         ·
          rfl
        clear hcv17
        refine hK.out _ _ trivial (fun hHeld => ?_)
        clear hK K
        refine nm 26 ?_
        exact norm_ (by simp only [putAll,ζl,δa,δb,δc]) (hCont (v231) _ ⟨(by exact HO232.out),(by exact HB.out)⟩)
       ·
        skip
        have hcv16:=own_string (P:=Tryz.prog) Tryz.underlying22 Tryz.underlying5 Tryz.underlying9 (Kd.own_of_R HO232.out)
        refine value_ (w1:=?_) (v:=?_) (by rfl) rfl ?_ ?_
        rotate_left 2
        ·
         go_simp
         constructor
         · rfl
         ·
          rfl
        clear hcv16
        refine hK.out _ _ trivial (fun hHeld => ?_)
        clear hK K
        refine nm 26 ?_
        refine on 2 20 (fun K hK => ?_)
        refine gs Tryz.func77 #[.int .i64 (ζm (Int.tdiv a0 10))] ?_
        with_reducible refine (ih k (by omega) (ζm (Int.tdiv a0 10)) t229 _ A11.out).mono ?_
        rintro e w17 ⟨rfl,hb⟩
        refine ⟨_,rfl,?_⟩
        replace HO232:=ζa (ζh (by exact HO232.out) hb)
        replace HB:=ζa (δr (by exact HB.out) hb)
        (try clear hb)
        (try clear hb2)
        (try clear hk)
        (try clear hi)
        refine hK.out _ _ trivial (fun hHeld => ?_)
        clear hK K
        refine nm 20 ?_
        exact norm_ (by simp only [putAll,ζl,δa,δb,δc]) (hCont (v231) _ ⟨(by exact HO232.out),(by exact HB.out)⟩)
     rintro v231 w18 ⟨h0_,h1_⟩
     have n0_:Aside0 (Kd.R (Kd.int .u8) 5 w18 w.heap.size (fun _=>True) v231 y230):=⟨h0_⟩
     have n1_:Aside0 (Below w.heap.size w w18):=⟨h1_⟩
     clear HB
     clear h0_ h1_
     have HO232:=n0_
     have HB:=n1_
     clear n0_ n1_
     have hHeld:=trivial
     refine norm_ (a':=?_) ?_ ?_
     rotate_left
     · simp only [putAll,ζl,δa,δb,δc];rfl
     refine pu 9 27 ?_
     refine pu 10 2 ?_
     refine done_ (done_of HT_.out (by kernel_rfl)) ?_
     try go_wp2
     go_ret
     exact ⟨by rfl,by repeat ((with_reducible exact HB.out))⟩
    ·
     rw [if_neg c12] at H
     exact absurd H (by simp)


open Go.Proofs.YtggemblkhckbpaaGreatDoorW.PrintWords renaming gate_dst → δx, below_size → δs, below_step → δr
set_option maxHeartbeats 8000000
set_option maxRecDepth 100000

/-! ### spec_l07Key: function 78 -/
def spec_l07Key.f (a0:ByteArray) (a1:Int):Option (ByteArray):=if a0.size+1≤9223372036854775807 then ((some (([(ζm (48+(ζm (Int.tdiv a1 10)))) % 256,(ζm (48+(Int.tmod a1 10))) % 256]:List Int):List Int)).bind fun y233=>(if (a0 ++ (⟨#[47]⟩:ByteArray)).size+(strOfNums y233).size≤9223372036854775807 then (some ((a0 ++ (⟨#[47]⟩:ByteArray)) ++ (strOfNums y233))) else (none))) else (none)
theorem spec_l07Key.calls (a0:ByteArray) (a1:Int) (r:ByteArray) (w:World) (h:spec_l07Key.f a0 a1=some r) :
  Calls Tryz.prog 78 #[.string a0,.int .i64 a1] w fun e w'=>e = .returned (.string r)∧Below w.heap.size w w':=by
 have HB:=ζa (Below.refl w.heap.size w)
 have H:(if a0.size+1≤9223372036854775807 then ((some (([(ζm (48+(ζm (Int.tdiv a1 10)))) % 256,(ζm (48+(Int.tmod a1 10))) % 256]:List Int):List Int)).bind fun y233=>(if (a0 ++ (⟨#[47]⟩:ByteArray)).size+(strOfNums y233).size≤9223372036854775807 then (some ((a0 ++ (⟨#[47]⟩:ByteArray)) ++ (strOfNums y233))) else (none))) else (none))=some r:=h
 clear h
 by_cases c3:a0.size+1≤9223372036854775807
 ·
  rw [if_pos c3] at H
  have c3b0:=eq_true c3
  have c3b1:=decide_eq_true c3
  try have c3b2:(9223372036854775807<a0.size+1)=False:=eq_false (Nat.not_lt.2 c3)
  obtain ⟨y233,hy233⟩ : ∃ y_:List Int,y_=(([(ζm (48+(ζm (Int.tdiv a1 10)))) % 256,(ζm (48+(Int.tmod a1 10))) % 256]:List Int)):=⟨_,rfl⟩
  replace H:(if (a0 ++ (⟨#[47]⟩:ByteArray)).size+(strOfNums y233).size≤9223372036854775807 then (some ((a0 ++ (⟨#[47]⟩:ByteArray)) ++ (strOfNums y233))) else (none))=some r:=by (have H2_:=(Option.bind_some _ _).symm.trans H;rw [hy233];with_reducible exact H2_)
  have Ny233:=ζa hy233
  clear hy233
  by_cases c4:(a0 ++ (⟨#[47]⟩:ByteArray)).size+(strOfNums y233).size≤9223372036854775807
  ·
   rw [if_pos c4] at H
   have c4b0:=eq_true c4
   have c4b1:=decide_eq_true c4
   try have c4b2:(9223372036854775807<(a0 ++ (⟨#[47]⟩:ByteArray)).size+(strOfNums y233).size)=False:=eq_false (Nat.not_lt.2 c4)
   obtain rfl:=Option.some.inj H
   go_enter Tryz.func78,Tryz.ntmps78
   go_wp2_with (((with_reducible refine δx (N:=15) rfl ?_);refine Kd.R_lit (Kd.int .u8) _ 5 ?hg (N:=15) ?hd (xs:=([(ζm (48+(ζm (Int.tdiv a1 10)))) % 256,(ζm (48+(Int.tmod a1 10))) % 256]:List Int)) (inner:=[.int .u8 ((ζm (48+(ζm (Int.tdiv a1 10)))) % 256),.int .u8 ((ζm (48+(Int.tmod a1 10))) % 256)]) (ok:=fun _=>True) (okp:=fun _=>True) ?hr ?hp (fun _ hk=>hk) trivial (Below.refl _ _) (Nat.le_refl _) (by simp) ?_;(case hd=>rfl);(case hg=>rfl);(case hr=>(go_simp;done));(case hp=>exact (Reps.one (show Kd.M (Kd.int .u8) _ _ _ ((ζm (48+(ζm (Int.tdiv a1 10)))) % 256) [.int .u8 ((ζm (48+(ζm (Int.tdiv a1 10)))) % 256)] from rfl) (Reps.one (show Kd.M (Kd.int .u8) _ _ _ ((ζm (48+(Int.tmod a1 10))) % 256) [.int .u8 ((ζm (48+(Int.tmod a1 10))) % 256)] from rfl) (Reps.none _ _))));intro v234 w5 ho6 hb hg_ hnew_;clear hg_ hnew_;(rw [← Ny233.out] at ho6);have HO235:=ζa (Kd.R_lower ho6 (δs (by exact HB.out)));replace HB:=ζa (δr (by exact HB.out) hb);clear hb ho6;have hcv7:=own_string (P:=Tryz.prog) Tryz.underlying22 Tryz.underlying5 Tryz.underlying9 (Kd.own_of_R HO235.out)))
   go_ret
   exact ⟨by rfl,by repeat ((with_reducible exact HB.out))⟩
  ·
   rw [if_neg c4] at H
   exact absurd H (by simp)
 ·
  rw [if_neg c3] at H
  exact absurd H (by simp)


open Go.Proofs.YtggemblkhckbpaaGreatDoorW.PrintWords renaming below_step → δr, below_alloc → δk, gate_dst → δx, blk_cell → δl, blk_frozen → δm, blk_put → δw, below_set → δq, blk_drew → δp, below_drew1 → δj
set_option maxHeartbeats 8000000
set_option maxRecDepth 100000


/-! ### spec_l07Send: function 37 -/
theorem spec_l07Send.gn {P:Program} {c:Code} {K:Exit→Act→World→Prop} {a:Act} {W:World} (S:World→Prop) (hW:S W) (h : ∀ w',S w'→Code.wp P c K a w'):Code.wp P c K a W:=h W hW
theorem spec_l07Send.bx2 {P:Program} {ops:Array Oper} {rest:List Oper} {o:Oper} {a:Act} {Q:Exit→Act→World→Prop} (w:World) {W:World} (N:Tmp) (cs:Array Value) (t:TypeId)
  (h : ∀ g w1,Aside0 (w1.heap[g]? = some (.cells cs t (0,0)))→Aside0 (w.heap.size≤g)→Aside0 (Below w.heap.size w w1)→Below W.heap.size W w1→W.heap.size≤g→wpList P ops Q rest (a.put o.dst (.pointer (some ⟨g,0,none⟩))) w1)
  (hN:o.dst=some N:=by exact rfl) (hgd:o.guard=none:=by exact rfl)
  (hrun:(execOp a.eval o).run P W = .ok (.value (.pointer (some ⟨W.heap.size,0,none⟩))) (W.alloc (.cells cs t (0,0))):=by (go_simp;done))
  (HB:Below w.heap.size w W:=by exact blw):wpList P ops Q (o :: rest) a W :=
 Kd.event_run hgd hrun (h _ _ ⟨blk_new W _⟩ ⟨HB.size⟩ ⟨δr HB (δk (Below.refl _ _) _)⟩ (δk (Below.refl _ _) _) (Nat.le_refl _))
theorem spec_l07Send.ls {P:Program} {ops:Array Oper} {Q:Exit→Act→World→Prop} {S:World→Prop} {ds:List Nat} {md:Region.Mode} {fuel:Nat} {l:Array Bool} {a:Act} {w:World} {oi:Oper} (i:Nat)
  (h : ∀ K:Act→World→Prop,Shut (∀ a' w',wpAnyLast P md ops Q S ds fuel (l.setIfInBounds i τ) a' w'→K a' w')→if Region.wanted oi (yielded ops a.tmps)=τ then Oper.wp P oi a w K Q else K (a.put none undef) w)
  (hi:ops[i]? = some oi:=by exact rfl) (hN:oi.dst=none:=by exact rfl) (hc:readyB md ops l (l.setIfInBounds i τ) i=τ:=by exact one_of HT_.out (by kernel_rfl)) (hd:i ∈ ds:=by decide):wpAnyLast P md ops Q S ds (fuel+1) l a w :=
 last_ _ hi hN hc hd h
def spec_l07Send.T7:Bool × List (List Nat × List Nat):=(τ,[([],[]),([],[]),([1],[1]),([2],[2]),([],[]),([4,3],[4]),([0,3,5,5],[0,3,5]),([6],[6]),([7],[7]),([7],[7]),([8,6,0,1,2,3,4,5,6,7,8],[0,8]),([9,10,0,1,2,3,4,5,6,7,8,9,10],[9])])
def spec_l07Send.B7:List Nat:=[0,0,2,6,0,30,63,127,255,255,511,2047]
theorem spec_l07Send.tab7:rtab .any (opsOf Tryz.f37 7)=spec_l07Send.T7:=by kernel_rfl
theorem spec_l07Send.bits7:waitsOk spec_l07Send.T7.2 spec_l07Send.B7=τ:=by kernel_rfl
def spec_l07Send.T10:Bool × List (List Nat × List Nat):=(τ,[([],[]),([],[]),([0,0],[0]),([1,2,0,1,2],[1]),([3,0,1,2,3],[])])
def spec_l07Send.B10:List Nat:=[0,0,1,7,15]
theorem spec_l07Send.tab10:rtab .any (opsOf Tryz.f37 10)=spec_l07Send.T10:=by kernel_rfl
theorem spec_l07Send.bits10:waitsOk spec_l07Send.T10.2 spec_l07Send.B10=τ:=by kernel_rfl
def spec_l07Send.f (k:Nat) (l0:List S61) (a1:ByteArray) (a2:Int):Option (List S61 × Int × Int × ByteArray × Int) :=
 (spec_l05Read.f k l0 (⟨#[110,47,115,101,110,100]⟩:ByteArray)).bind fun x=>if ζm (x+1) > 99 then some (l0,0,0,(⟨#[]⟩:ByteArray),7) else (spec_l00Digits.f k (ζm (x+1))).bind fun dg=>(spec_l03Put.f k l0 (⟨#[110,47,115,101,110,100]⟩:ByteArray) dg).bind fun p=>if p.2=0 then ((spec_l07Key.f (⟨#[99]⟩:ByteArray) (ζm (x+1))).bind fun ky=>(spec_l07Hash.f (ζm (x+1)) a2 a1).bind fun hh=>(spec_l03Put.f k p.1 ky hh).bind fun p2=>if p2.2=0 then some (p2.1,ζm (x+1),a2,a1,0) else some (l0,0,0,(⟨#[]⟩:ByteArray),p2.2)) else some (l0,0,0,(⟨#[]⟩:ByteArray),p.2)
theorem spec_l07Send.calls (k:Nat) (A0:Option Addr) (c0:Nat) (l0:List S61) (a1:ByteArray) (a2:Int) (r1:List S61) (r2 r3:Int) (r4:ByteArray) (r5:Int) (w:World) (hr0:Kd.C k61 w A0 l0.length l0) (hc0:l0.length≤c0) (h:spec_l07Send.f k l0 a1 a2=some (r1,r2,r3,r4,r5)) :
  Calls Tryz.prog 37 #[.slice A0 l0.length c0,.string a1,.int .i64 a2] w fun e w' => ∃ v0_:Value,e = .returned (.tuple #[v0_,.agg #[.int .i64 r2,.int .i64 r3,.string r4],.int .i64 r5])∧Sf w w' (.slice A0 l0.length c0) l0 v0_ r1∧Below w.heap.size w w':=by
 obtain ⟨x,H1,h⟩:=bsm h
 have HR0:=ζa hr0
 have HC0:=ζa hc0
 have HB:=ζa (Below.refl w.heap.size w)
 have HH:=ζa h
 clear h hr0 hc0
 go_enter Tryz.func37,Tryz.ntmps37
 go_wp2_with (first
  | ((with_reducible refine δx (N:=7) rfl ?_);refine bx w 7 #[.int .i64 0,.int .i64 0,.string (⟨#[]⟩:ByteArray)] 36 ?_;intro g7 w7 B7 G7 HB hb;clear hb))
 refine (spec_l05Read.calls k A0 c0 l0 _ x _ (Kd.C_below HR0.out HB.out) HC0.out H1.out).mono ?_
 rintro e w1 ⟨rfl,hb⟩
 replace B7:=ζa (blk_below B7.out hb)
 replace HB:=ζa (δr HB.out hb)
 clear hb
 go_upto_region 2 with (first
  | ((with_reducible refine δx (N:=9) rfl ?_);refine spec_l07Send.bx2 w 9 #[.int .i64 0,.int .i64 0,.string (⟨#[]⟩:ByteArray)] 36 ?_;intro g9 w9 B9 G9 HB hb hn;have E79:=ζa (show g7≠g9 from fun e=>by have:=blk_lt B7.out;omega);replace B7:=ζa (blk_below B7.out hb);have hv0:=(δl B9.out 0).trans rfl;have hv1:=(δl B9.out 1).trans rfl;have hv2:=(δl B9.out 2).trans rfl;have hg0:=δm B9.out 0;have hg1:=δm B9.out 1;have hg2:=δm B9.out 2;clear hb hn))
 refine spec_l07Send.gn (fun w'=>w'.heap[g7]? = some (.cells #[.int .i64 0,.int .i64 0,.string (⟨#[]⟩:ByteArray)] 36 (0,0))∧w'.heap[g9]? = some (.cells #[.int .i64 (ζm (x+1)),.int .i64 a2,.string a1] 36 (0,0))∧Below w.heap.size w w') ⟨blk_far (blk_far (blk_far B7.out E79.out _) E79.out _) E79.out _,(δw (cs':=#[.int .i64 (ζm (x+1)),.int .i64 a2,.string a1]) (δw (cs':=#[.int .i64 (ζm (x+1)),.int .i64 a2,.string (⟨#[]⟩:ByteArray)]) (δw (cs':=#[.int .i64 (ζm (x+1)),.int .i64 0,.string (⟨#[]⟩:ByteArray)]) B9.out 0 (.int .i64 (ζm (x+1))) rfl) 1 (.int .i64 a2) rfl) 2 (.string a1) rfl),δq (δq (δq HB.out G9.out) G9.out) G9.out⟩ ?_
 clear B7 B9 hv0 hv1 hv2 hg0 hg1 hg2 HB
 rintro w2 ⟨b7,b9,hb⟩
 have B7:=ζa b7;have B9:=ζa b9;have HB:=ζa hb
 clear b7 b9 hb
 have hv0:=(δl B9.out 0).trans rfl;have hv1:=(δl B9.out 1).trans rfl;have hv2:=(δl B9.out 2).trans rfl
 generalize ζm (x+1)=q at *
 have h:=HH.out
 clear HH
 by_cases c1:q > 99
 ·
  rw [if_pos c1] at h
  simp only [Option.some.injEq,Prod.mk.injEq] at h
  obtain ⟨rfl,rfl,rfl,rfl,rfl⟩:=h
  have b1:decide (q > 99)=τ:=decide_eq_true c1
  clear c1
  have hx0:=(δl B7.out 0).trans rfl;have hx1:=(δl B7.out 1).trans rfl;have hx2:=(δl B7.out 2).trans rfl;have hf0:=δm B7.out 0;have hf1:=δm B7.out 1;have hf2:=δm B7.out 2
  go_wp2
  refine bodyPost_ret (results_list (rs:=[.tmp 6,.cell 7 36,.tmp 8]) rfl (by simp) (.tmp (.cell g7 36 #[.int .i64 0,.int .i64 0,.string (⟨#[]⟩:ByteArray)] (0,0) _ rfl (δw (cs':=#[.int .i64 0,.int .i64 0,.string (⟨#[]⟩:ByteArray)]) (δw (cs':=#[.int .i64 0,.int .i64 0,.string (⟨#[]⟩:ByteArray)]) (δw (cs':=#[.int .i64 0,.int .i64 0,.string (⟨#[]⟩:ByteArray)]) B7.out 0 (.int .i64 0) rfl) 1 (.int .i64 0) rfl) 2 (.string (⟨#[]⟩:ByteArray)) rfl) Tryz.underlying36 rfl (by kernel_rfl) (.tmp .nil)))) rfl ?_
  exact ⟨_,rfl,⟨Or.inl ⟨rfl,rfl⟩⟩,δq (δq (δq HB.out G7.out) G7.out) G7.out⟩
 rw [if_neg c1] at h
 obtain ⟨dg,H2,h⟩:=bsm h
 obtain ⟨⟨y,yc⟩,H3,h⟩:=bsm h
 have HH:=ζa h
 have b1:decide (q > 99)=φ:=decide_eq_false c1
 clear c1 h
 go_wp2_with fail
 refine (spec_l00Digits.calls k q dg _ H2.out).mono ?_
 rintro e w3 ⟨rfl,hb⟩
 replace B7:=ζa (blk_below B7.out hb)
 replace B9:=ζa (blk_below B9.out hb)
 replace HB:=ζa (δr HB.out hb)
 clear hb hv0 hv1 hv2
 go_wp2_with fail
 refine (spec_l03Put.calls k A0 c0 l0 _ dg y yc _ (Kd.C_below HR0.out HB.out) HC0.out H3.out).mono ?_
 rintro e w4 ⟨v4,rfl,ho,hb⟩
 have HS:=ζa (Sf.trans (by exact ⟨Or.inl ⟨rfl,rfl⟩⟩) ho hb HB.out.size)
 replace B7:=ζa (blk_below B7.out hb)
 replace B9:=ζa (blk_below B9.out hb)
 replace HB:=ζa (δr HB.out hb)
 obtain ⟨A4,k4,rfl,hl4,hq4⟩:=Sf.reads ho (Kd.C_below HR0.out HB.out) HC0.out
 have HC4:=ζa hl4
 have HR4:=ζa hq4
 clear ho hb hl4 hq4
 have h:=HH.out
 clear HH
 by_cases c2:yc=0
 rotate_left
 ·
  rw [if_neg c2] at h
  simp only [Option.some.injEq,Prod.mk.injEq] at h
  obtain ⟨rfl,rfl,rfl,rfl,rfl⟩:=h
  have b2:(yc != 0)=τ:=bne_iff_ne.mpr c2
  clear c2
  have hx0:=(δl B7.out 0).trans rfl;have hx1:=(δl B7.out 1).trans rfl;have hx2:=(δl B7.out 2).trans rfl;have hf0:=δm B7.out 0;have hf1:=δm B7.out 1;have hf2:=δm B7.out 2
  go_wp2
  refine bodyPost_ret (results_list (rs:=[.tmp 6,.cell 7 36,.tmp 8]) rfl (by simp) (.tmp (.cell g7 36 #[.int .i64 0,.int .i64 0,.string (⟨#[]⟩:ByteArray)] (0,0) _ rfl (δw (cs':=#[.int .i64 0,.int .i64 0,.string (⟨#[]⟩:ByteArray)]) (δw (cs':=#[.int .i64 0,.int .i64 0,.string (⟨#[]⟩:ByteArray)]) (δw (cs':=#[.int .i64 0,.int .i64 0,.string (⟨#[]⟩:ByteArray)]) B7.out 0 (.int .i64 0) rfl) 1 (.int .i64 0) rfl) 2 (.string (⟨#[]⟩:ByteArray)) rfl) Tryz.underlying36 rfl (by kernel_rfl) (.tmp .nil)))) rfl ?_
  exact ⟨_,rfl,⟨Or.inl ⟨rfl,rfl⟩⟩,δq (δq (δq HB.out G7.out) G7.out) G7.out⟩
 rw [if_pos c2] at h
 have b2:(yc != 0)=φ:=bne_eq_false_iff_eq.mpr c2
 clear c2
 obtain ⟨ky,H4,h⟩:=bsm h
 obtain ⟨hh,H5,h⟩:=bsm h
 obtain ⟨⟨z,zc⟩,H6,h⟩:=bsm h
 have HH:=ζa h
 clear h
 go_wp2_with fail
 refine sta 12 (fun w'=>w'.cell? ⟨g9,0,none⟩=some (.int .i64 q)∧w'.cell? ⟨g9,1,none⟩=some (.int .i64 a2)∧w'.cell? ⟨g9,2,none⟩=some (.string a1)) [] spec_l07Send.tab7 spec_l07Send.bits7 ⟨(δl B9.out 0).trans rfl,(δl B9.out 1).trans rfl,(δl B9.out 2).trans rfl⟩ (fun hHeld HT_ HW_ => ?_)
 replace B7:=ζa (δp B7.out)
 replace B9:=ζa (δp B9.out)
 replace HR4:=ζa (Kd.C_drew HR4.out)
 replace HB:=ζa (δj HB.out)
 replace HS:=ζa (Sf.drew HS.out)
 generalize w4.drew=w5 at HB hHeld B7 B9 HS HR4 ⊢
 have HR5:=ζa HR4.out
 have HBb:=ζa (Below.refl w5.heap.size w5)
 refine pu 0 37 ?_
 refine pu 1 38 ?_
 refine ta 2 39 ?_
 refine ta 4 41 ?_
 refine on 3 40 (fun K hK => ?_)
 refine gs Tryz.func78 #[.string (⟨#[99]⟩:ByteArray),.int .i64 q] ?_
 refine (spec_l07Key.calls (⟨#[99]⟩:ByteArray) q ky _ H4.out).mono ?_
 rintro e w_ ⟨rfl,hb⟩
 refine ⟨_,rfl,?_⟩
 replace HBb:=ζa (δr HBb.out hb)
 replace B7:=ζa (blk_below B7.out hb)
 replace B9:=ζa (blk_below B9.out hb)
 replace HB:=ζa (δr HB.out hb)
 clear hb
 refine hK.out _ _ ⟨(δl B9.out 0).trans rfl,(δl B9.out 1).trans rfl,(δl B9.out 2).trans rfl⟩ (fun hHeld=>nm 40 ?_)
 clear hK K
 refine on 5 42 (fun K hK => ?_)
 refine gs Tryz.func40 #[.agg #[.int .i64 q,.int .i64 a2,.string a1]] ?_
 refine (spec_l07Hash.calls q a2 a1 hh _ H5.out).mono ?_
 rintro e w_ ⟨rfl,hb⟩
 refine ⟨_,rfl,?_⟩
 replace HBb:=ζa (δr HBb.out hb)
 replace B7:=ζa (blk_below B7.out hb)
 replace B9:=ζa (blk_below B9.out hb)
 replace HB:=ζa (δr HB.out hb)
 clear hb
 refine hK.out _ _ ⟨(δl B9.out 0).trans rfl,(δl B9.out 1).trans rfl,(δl B9.out 2).trans rfl⟩ (fun hHeld=>nm 42 ?_)
 clear hK K
 refine on 6 43 (fun K hK => ?_)
 refine gs Tryz.func66 #[.slice A4 y.length k4,.string ky,.string hh] ?_
 refine (spec_l03Put.calls k A4 k4 y ky hh z zc _ (Kd.C_below HR4.out HBb.out) HC4.out H6.out).mono ?_
 rintro e w_ ⟨v6,rfl,ho,hb⟩
 refine ⟨_,rfl,?_⟩
 have HS2:=ζa (Sf.trans (Sf.below HS.out HBb.out) ho hb HB.out.size)
 clear ho
 replace B7:=ζa (blk_below B7.out hb)
 replace B9:=ζa (blk_below B9.out hb)
 replace HB:=ζa (δr HB.out hb)
 clear hb
 refine hK.out _ _ ⟨(δl B9.out 0).trans rfl,(δl B9.out 1).trans rfl,(δl B9.out 2).trans rfl⟩ (fun hHeld=>nm 43 ?_)
 clear hK K
 refine pu 7 36 ?_
 refine pu 8 44 ?_
 refine pu 9 45 ?_
 refine pu 10 10 ?_
 refine pu 11 11 ?_
 refine done_ (done_of HT_.out (by kernel_rfl)) ?_
 clear hHeld HT_ HW_
 have h:=HH.out
 clear HH
 by_cases c3:zc=0
 rotate_left
 ·
  rw [if_neg c3] at h
  simp only [Option.some.injEq,Prod.mk.injEq] at h
  obtain ⟨rfl,rfl,rfl,rfl,rfl⟩:=h
  have b3:(zc != 0)=τ:=bne_iff_ne.mpr c3
  clear c3
  have hx0:=(δl B7.out 0).trans rfl;have hx1:=(δl B7.out 1).trans rfl;have hx2:=(δl B7.out 2).trans rfl;have hf0:=δm B7.out 0;have hf1:=δm B7.out 1;have hf2:=δm B7.out 2
  go_wp2
  refine bodyPost_ret (results_list (rs:=[.tmp 6,.cell 7 36,.tmp 8]) rfl (by simp) (.tmp (.cell g7 36 #[.int .i64 0,.int .i64 0,.string (⟨#[]⟩:ByteArray)] (0,0) _ rfl (δw (cs':=#[.int .i64 0,.int .i64 0,.string (⟨#[]⟩:ByteArray)]) (δw (cs':=#[.int .i64 0,.int .i64 0,.string (⟨#[]⟩:ByteArray)]) (δw (cs':=#[.int .i64 0,.int .i64 0,.string (⟨#[]⟩:ByteArray)]) B7.out 0 (.int .i64 0) rfl) 1 (.int .i64 0) rfl) 2 (.string (⟨#[]⟩:ByteArray)) rfl) Tryz.underlying36 rfl (by kernel_rfl) (.tmp .nil)))) rfl ?_
  exact ⟨_,rfl,⟨Or.inl ⟨rfl,rfl⟩⟩,δq (δq (δq HB.out G7.out) G7.out) G7.out⟩
 rw [if_pos c3] at h
 simp only [Option.some.injEq,Prod.mk.injEq] at h
 obtain ⟨rfl,rfl,rfl,rfl,rfl⟩:=h
 have b3:(zc != 0)=φ:=bne_eq_false_iff_eq.mpr c3
 clear c3
 go_wp2_with fail
 refine sta 5 (fun w'=>w'.cell? ⟨g9,0,none⟩=some (.int .i64 q)∧w'.cell? ⟨g9,1,none⟩=some (.int .i64 a2)∧w'.cell? ⟨g9,2,none⟩=some (.string a1)) [3] spec_l07Send.tab10 spec_l07Send.bits10 ⟨(δl B9.out 0).trans rfl,(δl B9.out 1).trans rfl,(δl B9.out 2).trans rfl⟩ (fun hHeld HT_ HW_ => ?_)
 replace B7:=ζa (δp B7.out)
 replace HB:=ζa (δj HB.out)
 replace HS2:=ζa (Sf.drew HS2.out)
 clear B9
 generalize w_.drew=w8 at HB hHeld B7 HS2 ⊢
 refine pu 0 51 ?_
 refine ta 1 52 ?_
 refine pu 2 6 ?_
 have hx0:=(δl B7.out 0).trans rfl;have hx1:=(δl B7.out 1).trans rfl;have hx2:=(δl B7.out 2).trans rfl;have hf0:=δm B7.out 0;have hf1:=δm B7.out 1;have hf2:=δm B7.out 2
 refine spec_l07Send.ls 3 (fun K hK => ?_)
 refine skip_ (w1:=?_) (by rfl) rfl ?_ ?_
 rotate_left
 ·
  go_simp
  rfl
 refine hK.out _ _ ?_
 clear hK K
 refine pu 4 8 ?_
 refine done_ (done_of HT_.out (by kernel_rfl)) ?_
 go_wp2
 refine bodyPost_ret (results_list (rs:=[.tmp 6,.cell 7 36,.tmp 8]) rfl (by simp) (.tmp (.cell g7 36 #[.int .i64 q,.int .i64 a2,.string a1] (0,0) _ rfl (δw (cs':=#[.int .i64 q,.int .i64 a2,.string a1]) (δw (cs':=#[.int .i64 q,.int .i64 a2,.string (⟨#[]⟩:ByteArray)]) (δw (cs':=#[.int .i64 q,.int .i64 0,.string (⟨#[]⟩:ByteArray)]) B7.out 0 (.int .i64 q) rfl) 1 (.int .i64 a2) rfl) 2 (.string a1) rfl) Tryz.underlying36 rfl (by kernel_rfl) (.tmp .nil)))) rfl ?_
 exact ⟨_,rfl,Sf.set (Sf.set (Sf.set HS2.out B7.out (by decide) _ _) (δw (cs':=#[.int .i64 q,.int .i64 0,.string (⟨#[]⟩:ByteArray)]) B7.out 0 (.int .i64 q) rfl) (by decide) _ _) (δw (cs':=#[.int .i64 q,.int .i64 a2,.string (⟨#[]⟩:ByteArray)]) (δw (cs':=#[.int .i64 q,.int .i64 0,.string (⟨#[]⟩:ByteArray)]) B7.out 0 (.int .i64 q) rfl) 1 (.int .i64 a2) rfl) (by decide) _ _,δq (δq (δq HB.out G7.out) G7.out) G7.out⟩


open Go.Proofs.YtggemblkhckbpaaGreatDoorW.PrintWords.Kd renaming R_ne → ζf
set_option maxHeartbeats 8000000
set_option maxRecDepth 100000


/-! ### spec_SendPacket: function 14 -/
theorem spec_SendPacket.lis {P:Program} {ops:Array Oper} {Q:Exit→Act→World→Prop} {a:Act} {o:Oper} {Kc:Act→World→Prop} (w:World) {W:World} (n:Nat) (cs:Array Value) (t:TypeId)
  (h : ∀ g w1,Aside0 (w1.heap[g]? = some (.cells cs t (0,0)))→Aside0 (w.heap.size≤g)→Aside0 (Below w.heap.size w w1)→Below W.heap.size W w1→Kc (a.put o.dst (.slice (some ⟨g,0,none⟩) n n)) w1)
  (hw:Region.wanted o (yielded ops a.tmps)=τ:=by rfl) (hrun:(execOp a.eval o).run P W = .ok (.value (.slice (some ⟨W.heap.size,0,none⟩) n n)) (W.alloc (.cells cs t)):=by (go_simp;done))
  (HB:Below w.heap.size w W:=by exact blw):if Region.wanted o (yielded ops a.tmps)=τ then Oper.wp P o a W Kc Q else Kc (a.put o.dst undef) W :=
 event_step hw hrun (h _ _ ⟨blk_new W _⟩ ⟨HB.size⟩ ⟨δr HB (δk (Below.refl _ _) _)⟩ (δk (Below.refl _ _) _))
def spec_SendPacket.T8:Bool × List (List Nat × List Nat):=(τ,[([],[]),([],[]),([0,1],[0,1]),([],[]),([],[]),([2,2,0,1,2],[2]),([3,5,0,1,2,3,5],[3]),([4,6,0,1,2,3,4,5,6],[4])])
def spec_SendPacket.B8:List Nat:=[0,0,3,0,0,7,47,127]
theorem spec_SendPacket.tab8:rtab .any (opsOf Tryz.f14 8)=spec_SendPacket.T8:=by kernel_rfl
theorem spec_SendPacket.bits8:waitsOk spec_SendPacket.T8.2 spec_SendPacket.B8=τ:=by kernel_rfl
def spec_SendPacket.f (k:Nat) (l0:List S61) (a1:ByteArray) (a2:Int):Option (List S61 × Int × Int × ByteArray × Int) :=
 if (4096:Int)<(l0.length:Int) then some (([]:List S61),0,0,(⟨#[]⟩:ByteArray),2) else if (65536:Int)<(a1.size:Int) then some (([]:List S61),0,0,(⟨#[]⟩:ByteArray),2) else (spec_StoreOK.f k l0).bind fun b1=>if b1=τ then ((spec_l01In.f (a1.size:Int) 1 500).bind fun b2=>if b2=τ then ((spec_l01In.f a2 1 60).bind fun b3=>if b3=τ then ((spec_l07Send.f k l0 a1 a2).bind fun p=>if p.1.length≤1000000 then some p else none) else some (([]:List S61),0,0,(⟨#[]⟩:ByteArray),4)) else some (([]:List S61),0,0,(⟨#[]⟩:ByteArray),4)) else some (([]:List S61),0,0,(⟨#[]⟩:ByteArray),1)
theorem spec_SendPacket.calls (k:Nat) (A0:Option Addr) (c0:Nat) (l0:List S61) (a1:ByteArray) (a2:Int) (r1:List S61) (r2 r3:Int) (r4:ByteArray) (r5:Int) (w:World) (hr0:Kd.C k61 w A0 l0.length l0) (hc0:l0.length≤c0) (h:spec_SendPacket.f k l0 a1 a2=some (r1,r2,r3,r4,r5)) :
  Calls Tryz.prog 14 #[.slice A0 l0.length c0,.string a1,.int .i64 a2] w fun e w' => ∃ v0_:Value,e = .returned (.tuple #[v0_,.agg #[.int .i64 r2,.int .i64 r3,.string r4],.int .i64 r5])∧Kd.R k61 61 w' w.heap.size (fun _=>True) v0_ r1∧Below w.heap.size w w':=by
 have HR0:=ζa hr0
 have HC0:=ζa hc0
 have HB:=ζa (Below.refl w.heap.size w)
 have HH:=ζa h
 clear h hr0 hc0
 go_enter Tryz.func14,Tryz.ntmps14
 go_upto_region 1 with (first
  | ((with_reducible refine δx (N:=7) rfl ?_);refine bx w 7 #[.int .i64 0,.int .i64 0,.string (⟨#[]⟩:ByteArray)] 36 ?_;intro g7 w7 B7 G7 HB hb;clear hb))
 have h:=HH.out
 clear HH
 unfold spec_SendPacket.f at h
 by_cases c1:(4096:Int)<(l0.length:Int)
 ·
  rw [if_pos c1] at h
  have f1a:decide ((4096:Int)<(l0.length:Int))=τ:=decide_eq_true c1
  have f1b:decide (4096<l0.length)=τ:=decide_eq_true (by omega)
  clear c1
  simp only [Option.some.injEq,Prod.mk.injEq] at h
  obtain ⟨rfl,rfl,rfl,rfl,rfl⟩:=h
  go_wp2_with (((with_reducible refine δx (N:=20) rfl ?_);refine Kd.R_lit k61 w7.heap.size 61 ?hg (N:=20) ?hd (w0:=w7) (xs:=([]:List S61)) (inner:=[]) (ok:=fun _=>True) (okp:=fun _=>True) ?hr ?hp (fun _ hk=>hk) trivial (Below.refl _ _) (Nat.le_refl _) (by simp) ?_;(case hd=>rfl);(case hg=>rfl);(case hr=>(go_simp;done));(case hp=>exact (Reps.none _ _));intro vL wL hoL hbL hg_ hnew_;have HO:=ζa (Kd.R_lower hoL HB.out.size);replace B7:=ζa (blk_below B7.out hbL);replace HB:=ζa (δr HB.out hbL);clear hg_ hnew_ hoL hbL;have hx0:=(δl B7.out 0).trans rfl;have hx1:=(δl B7.out 1).trans rfl;have hx2:=(δl B7.out 2).trans rfl;have hf0:=δm B7.out 0;have hf1:=δm B7.out 1;have hf2:=δm B7.out 2))
  refine bodyPost_ret (results_list (rs:=[.tmp 6,.cell 7 36,.tmp 8]) rfl (by simp) (.tmp (.cell g7 36 #[.int .i64 0,.int .i64 0,.string (⟨#[]⟩:ByteArray)] (0,0) _ rfl (δw (cs':=#[.int .i64 0,.int .i64 0,.string (⟨#[]⟩:ByteArray)]) (δw (cs':=#[.int .i64 0,.int .i64 0,.string (⟨#[]⟩:ByteArray)]) (δw (cs':=#[.int .i64 0,.int .i64 0,.string (⟨#[]⟩:ByteArray)]) B7.out 0 (.int .i64 0) rfl) 1 (.int .i64 0) rfl) 2 (.string (⟨#[]⟩:ByteArray)) rfl) Tryz.underlying36 rfl (by kernel_rfl) (.tmp .nil)))) rfl ?_
  exact ⟨_,rfl,Kd.R_set (Kd.R_set (Kd.R_set HO.out B7.out (by decide) _ _) (δw (cs':=#[.int .i64 0,.int .i64 0,.string (⟨#[]⟩:ByteArray)]) B7.out 0 (.int .i64 0) rfl) (by decide) _ _) (δw (cs':=#[.int .i64 0,.int .i64 0,.string (⟨#[]⟩:ByteArray)]) (δw (cs':=#[.int .i64 0,.int .i64 0,.string (⟨#[]⟩:ByteArray)]) B7.out 0 (.int .i64 0) rfl) 1 (.int .i64 0) rfl) (by decide) _ _,δq (δq (δq HB.out G7.out) G7.out) G7.out⟩
 rw [if_neg c1] at h
 have f1a:decide ((4096:Int)<(l0.length:Int))=φ:=decide_eq_false c1
 have f1b:decide (4096<l0.length)=φ:=decide_eq_false (by omega)
 clear c1
 by_cases c2:(65536:Int)<(a1.size:Int)
 ·
  rw [if_pos c2] at h
  have f2a:decide ((65536:Int)<(a1.size:Int))=τ:=decide_eq_true c2
  have f2b:decide (65536<a1.size)=τ:=decide_eq_true (by omega)
  clear c2
  simp only [Option.some.injEq,Prod.mk.injEq] at h
  obtain ⟨rfl,rfl,rfl,rfl,rfl⟩:=h
  go_wp2_with (((with_reducible refine δx (N:=20) rfl ?_);refine Kd.R_lit k61 w7.heap.size 61 ?hg (N:=20) ?hd (w0:=w7) (xs:=([]:List S61)) (inner:=[]) (ok:=fun _=>True) (okp:=fun _=>True) ?hr ?hp (fun _ hk=>hk) trivial (Below.refl _ _) (Nat.le_refl _) (by simp) ?_;(case hd=>rfl);(case hg=>rfl);(case hr=>(go_simp;done));(case hp=>exact (Reps.none _ _));intro vL wL hoL hbL hg_ hnew_;have HO:=ζa (Kd.R_lower hoL HB.out.size);replace B7:=ζa (blk_below B7.out hbL);replace HB:=ζa (δr HB.out hbL);clear hg_ hnew_ hoL hbL;have hx0:=(δl B7.out 0).trans rfl;have hx1:=(δl B7.out 1).trans rfl;have hx2:=(δl B7.out 2).trans rfl;have hf0:=δm B7.out 0;have hf1:=δm B7.out 1;have hf2:=δm B7.out 2))
  refine bodyPost_ret (results_list (rs:=[.tmp 6,.cell 7 36,.tmp 8]) rfl (by simp) (.tmp (.cell g7 36 #[.int .i64 0,.int .i64 0,.string (⟨#[]⟩:ByteArray)] (0,0) _ rfl (δw (cs':=#[.int .i64 0,.int .i64 0,.string (⟨#[]⟩:ByteArray)]) (δw (cs':=#[.int .i64 0,.int .i64 0,.string (⟨#[]⟩:ByteArray)]) (δw (cs':=#[.int .i64 0,.int .i64 0,.string (⟨#[]⟩:ByteArray)]) B7.out 0 (.int .i64 0) rfl) 1 (.int .i64 0) rfl) 2 (.string (⟨#[]⟩:ByteArray)) rfl) Tryz.underlying36 rfl (by kernel_rfl) (.tmp .nil)))) rfl ?_
  exact ⟨_,rfl,Kd.R_set (Kd.R_set (Kd.R_set HO.out B7.out (by decide) _ _) (δw (cs':=#[.int .i64 0,.int .i64 0,.string (⟨#[]⟩:ByteArray)]) B7.out 0 (.int .i64 0) rfl) (by decide) _ _) (δw (cs':=#[.int .i64 0,.int .i64 0,.string (⟨#[]⟩:ByteArray)]) (δw (cs':=#[.int .i64 0,.int .i64 0,.string (⟨#[]⟩:ByteArray)]) B7.out 0 (.int .i64 0) rfl) 1 (.int .i64 0) rfl) (by decide) _ _,δq (δq (δq HB.out G7.out) G7.out) G7.out⟩
 rw [if_neg c2] at h
 have f2a:decide ((65536:Int)<(a1.size:Int))=φ:=decide_eq_false c2
 have f2b:decide (65536<a1.size)=φ:=decide_eq_false (by omega)
 clear c2
 obtain ⟨b1,H3,h⟩:=bsm h
 have HH:=ζa h
 clear h
 go_wp2_with fail
 refine (spec_StoreOK.calls k A0 c0 l0 b1 _ (Kd.C_below HR0.out HB.out) HC0.out H3.out).mono ?_
 rintro e w1 ⟨rfl,hb⟩
 replace B7:=ζa (blk_below B7.out hb)
 replace HB:=ζa (δr HB.out hb)
 clear hb
 have h:=HH.out
 clear HH
 cases b1 with
 | false =>
  rw [ifF] at h
  simp only [Option.some.injEq,Prod.mk.injEq] at h
  obtain ⟨rfl,rfl,rfl,rfl,rfl⟩:=h
  go_wp2_with (((with_reducible refine δx (N:=25) rfl ?_);refine Kd.R_lit k61 w1.heap.size 61 ?hg (N:=25) ?hd (w0:=w1) (xs:=([]:List S61)) (inner:=[]) (ok:=fun _=>True) (okp:=fun _=>True) ?hr ?hp (fun _ hk=>hk) trivial (Below.refl _ _) (Nat.le_refl _) (by simp) ?_;(case hd=>rfl);(case hg=>rfl);(case hr=>(go_simp;done));(case hp=>exact (Reps.none _ _));intro vL wL hoL hbL hg_ hnew_;have HO:=ζa (Kd.R_lower hoL HB.out.size);replace B7:=ζa (blk_below B7.out hbL);replace HB:=ζa (δr HB.out hbL);clear hg_ hnew_ hoL hbL;have hx0:=(δl B7.out 0).trans rfl;have hx1:=(δl B7.out 1).trans rfl;have hx2:=(δl B7.out 2).trans rfl;have hf0:=δm B7.out 0;have hf1:=δm B7.out 1;have hf2:=δm B7.out 2))
  refine bodyPost_ret (results_list (rs:=[.tmp 6,.cell 7 36,.tmp 8]) rfl (by simp) (.tmp (.cell g7 36 #[.int .i64 0,.int .i64 0,.string (⟨#[]⟩:ByteArray)] (0,0) _ rfl (δw (cs':=#[.int .i64 0,.int .i64 0,.string (⟨#[]⟩:ByteArray)]) (δw (cs':=#[.int .i64 0,.int .i64 0,.string (⟨#[]⟩:ByteArray)]) (δw (cs':=#[.int .i64 0,.int .i64 0,.string (⟨#[]⟩:ByteArray)]) B7.out 0 (.int .i64 0) rfl) 1 (.int .i64 0) rfl) 2 (.string (⟨#[]⟩:ByteArray)) rfl) Tryz.underlying36 rfl (by kernel_rfl) (.tmp .nil)))) rfl ?_
  exact ⟨_,rfl,Kd.R_set (Kd.R_set (Kd.R_set HO.out B7.out (by decide) _ _) (δw (cs':=#[.int .i64 0,.int .i64 0,.string (⟨#[]⟩:ByteArray)]) B7.out 0 (.int .i64 0) rfl) (by decide) _ _) (δw (cs':=#[.int .i64 0,.int .i64 0,.string (⟨#[]⟩:ByteArray)]) (δw (cs':=#[.int .i64 0,.int .i64 0,.string (⟨#[]⟩:ByteArray)]) B7.out 0 (.int .i64 0) rfl) 1 (.int .i64 0) rfl) (by decide) _ _,δq (δq (δq HB.out G7.out) G7.out) G7.out⟩
 | true =>
  rw [ifT] at h
  obtain ⟨b2,H4,h⟩:=bsm h
  have HH:=ζa h
  clear h
  go_wp2_with fail
  refine (spec_l01In.calls (a1.size:Int) 1 500 b2 _ H4.out).mono ?_
  rintro e w2 ⟨rfl,hb⟩
  replace hb:=hb.below
  replace B7:=ζa (blk_below B7.out hb)
  replace HB:=ζa (δr HB.out hb)
  clear hb
  have h:=HH.out
  clear HH
  cases b2 with
  | false =>
   rw [ifF] at h
   simp only [Option.some.injEq,Prod.mk.injEq] at h
   obtain ⟨rfl,rfl,rfl,rfl,rfl⟩:=h
   go_wp2_with (((with_reducible refine δx (N:=36) rfl ?_);refine Kd.R_lit k61 w2.heap.size 61 ?hg (N:=36) ?hd (w0:=w2) (xs:=([]:List S61)) (inner:=[]) (ok:=fun _=>True) (okp:=fun _=>True) ?hr ?hp (fun _ hk=>hk) trivial (Below.refl _ _) (Nat.le_refl _) (by simp) ?_;(case hd=>rfl);(case hg=>rfl);(case hr=>(go_simp;done));(case hp=>exact (Reps.none _ _));intro vL wL hoL hbL hg_ hnew_;have HO:=ζa (Kd.R_lower hoL HB.out.size);replace B7:=ζa (blk_below B7.out hbL);replace HB:=ζa (δr HB.out hbL);clear hg_ hnew_ hoL hbL;have hx0:=(δl B7.out 0).trans rfl;have hx1:=(δl B7.out 1).trans rfl;have hx2:=(δl B7.out 2).trans rfl;have hf0:=δm B7.out 0;have hf1:=δm B7.out 1;have hf2:=δm B7.out 2))
   refine bodyPost_ret (results_list (rs:=[.tmp 6,.cell 7 36,.tmp 8]) rfl (by simp) (.tmp (.cell g7 36 #[.int .i64 0,.int .i64 0,.string (⟨#[]⟩:ByteArray)] (0,0) _ rfl (δw (cs':=#[.int .i64 0,.int .i64 0,.string (⟨#[]⟩:ByteArray)]) (δw (cs':=#[.int .i64 0,.int .i64 0,.string (⟨#[]⟩:ByteArray)]) (δw (cs':=#[.int .i64 0,.int .i64 0,.string (⟨#[]⟩:ByteArray)]) B7.out 0 (.int .i64 0) rfl) 1 (.int .i64 0) rfl) 2 (.string (⟨#[]⟩:ByteArray)) rfl) Tryz.underlying36 rfl (by kernel_rfl) (.tmp .nil)))) rfl ?_
   exact ⟨_,rfl,Kd.R_set (Kd.R_set (Kd.R_set HO.out B7.out (by decide) _ _) (δw (cs':=#[.int .i64 0,.int .i64 0,.string (⟨#[]⟩:ByteArray)]) B7.out 0 (.int .i64 0) rfl) (by decide) _ _) (δw (cs':=#[.int .i64 0,.int .i64 0,.string (⟨#[]⟩:ByteArray)]) (δw (cs':=#[.int .i64 0,.int .i64 0,.string (⟨#[]⟩:ByteArray)]) B7.out 0 (.int .i64 0) rfl) 1 (.int .i64 0) rfl) (by decide) _ _,δq (δq (δq HB.out G7.out) G7.out) G7.out⟩
  | true =>
   rw [ifT] at h
   obtain ⟨b3,H5,h⟩:=bsm h
   have HH:=ζa h
   clear h
   go_wp2_with fail
   refine (spec_l01In.calls a2 1 60 b3 _ H5.out).mono ?_
   rintro e w3 ⟨rfl,hb⟩
   replace hb:=hb.below
   replace B7:=ζa (blk_below B7.out hb)
   replace HB:=ζa (δr HB.out hb)
   clear hb
   have h:=HH.out
   clear HH
   cases b3 with
   | false =>
    rw [ifF] at h
    simp only [Option.some.injEq,Prod.mk.injEq] at h
    obtain ⟨rfl,rfl,rfl,rfl,rfl⟩:=h
    go_wp2_with (((with_reducible refine δx (N:=36) rfl ?_);refine Kd.R_lit k61 w3.heap.size 61 ?hg (N:=36) ?hd (w0:=w3) (xs:=([]:List S61)) (inner:=[]) (ok:=fun _=>True) (okp:=fun _=>True) ?hr ?hp (fun _ hk=>hk) trivial (Below.refl _ _) (Nat.le_refl _) (by simp) ?_;(case hd=>rfl);(case hg=>rfl);(case hr=>(go_simp;done));(case hp=>exact (Reps.none _ _));intro vL wL hoL hbL hg_ hnew_;have HO:=ζa (Kd.R_lower hoL HB.out.size);replace B7:=ζa (blk_below B7.out hbL);replace HB:=ζa (δr HB.out hbL);clear hg_ hnew_ hoL hbL;have hx0:=(δl B7.out 0).trans rfl;have hx1:=(δl B7.out 1).trans rfl;have hx2:=(δl B7.out 2).trans rfl;have hf0:=δm B7.out 0;have hf1:=δm B7.out 1;have hf2:=δm B7.out 2))
    refine bodyPost_ret (results_list (rs:=[.tmp 6,.cell 7 36,.tmp 8]) rfl (by simp) (.tmp (.cell g7 36 #[.int .i64 0,.int .i64 0,.string (⟨#[]⟩:ByteArray)] (0,0) _ rfl (δw (cs':=#[.int .i64 0,.int .i64 0,.string (⟨#[]⟩:ByteArray)]) (δw (cs':=#[.int .i64 0,.int .i64 0,.string (⟨#[]⟩:ByteArray)]) (δw (cs':=#[.int .i64 0,.int .i64 0,.string (⟨#[]⟩:ByteArray)]) B7.out 0 (.int .i64 0) rfl) 1 (.int .i64 0) rfl) 2 (.string (⟨#[]⟩:ByteArray)) rfl) Tryz.underlying36 rfl (by kernel_rfl) (.tmp .nil)))) rfl ?_
    exact ⟨_,rfl,Kd.R_set (Kd.R_set (Kd.R_set HO.out B7.out (by decide) _ _) (δw (cs':=#[.int .i64 0,.int .i64 0,.string (⟨#[]⟩:ByteArray)]) B7.out 0 (.int .i64 0) rfl) (by decide) _ _) (δw (cs':=#[.int .i64 0,.int .i64 0,.string (⟨#[]⟩:ByteArray)]) (δw (cs':=#[.int .i64 0,.int .i64 0,.string (⟨#[]⟩:ByteArray)]) B7.out 0 (.int .i64 0) rfl) 1 (.int .i64 0) rfl) (by decide) _ _,δq (δq (δq HB.out G7.out) G7.out) G7.out⟩
   | true =>
    rw [ifT] at h
    obtain ⟨⟨y,q1,q2,q3,q4⟩,H6,h⟩:=bsm h
    have HH:=ζa h
    clear h
    go_wp2_with fail
    refine (spec_l07Send.calls k A0 c0 l0 a1 a2 y q1 q2 q3 q4 _ (Kd.C_below HR0.out HB.out) HC0.out H6.out).mono ?_
    rintro e w4 ⟨v4,rfl,ho,hb⟩
    replace B7:=ζa (blk_below B7.out hb)
    replace HB:=ζa (δr HB.out hb)
    obtain ⟨A4,k4,rfl,hl4,hq4⟩:=Sf.reads ho (Kd.C_below HR0.out HB.out) HC0.out
    have HC4:=ζa hl4
    have HR4:=ζa hq4
    clear ho hb hl4 hq4
    have h:=HH.out
    clear HH
    by_cases c8:y.length≤1000000
    rotate_left
    ·
     rw [if_neg c8] at h
     cases h
    rw [if_pos c8] at h
    have HL:=ζa c8
    simp only [Option.some.injEq,Prod.mk.injEq] at h
    obtain ⟨rfl,rfl,rfl,rfl,rfl⟩:=h
    clear c8
    go_upto_region 8 with (first
     | ((with_reducible refine δx (N:=10) rfl ?_);refine spec_l07Send.bx2 w 10 #[.int .i64 0,.int .i64 0,.string (⟨#[]⟩:ByteArray)] 36 ?_;intro ga wa BA GA HB hb hn;have EA7:=ζa (show g7≠ga from fun e=>by have:=blk_lt B7.out;omega);replace B7:=ζa (blk_below B7.out hb);have HB4:=ζa hb;have GN:=ζa hn;have hy0:=(δl BA.out 0).trans rfl;have hy1:=(δl BA.out 1).trans rfl;have hy2:=(δl BA.out 2).trans rfl;have hg0:=δm BA.out 0;have hg1:=δm BA.out 1;have hg2:=δm BA.out 2;clear hb hn))
    refine spec_l07Send.gn (fun w'=>w'.heap[g7]? = some (.cells #[.int .i64 0,.int .i64 0,.string (⟨#[]⟩:ByteArray)] 36 (0,0))∧w'.heap[ga]? = some (.cells #[.int .i64 q1,.int .i64 q2,.string q3] 36 (0,0))∧Below w4.heap.size w4 w'∧Below w.heap.size w w') ⟨blk_far (blk_far (blk_far B7.out EA7.out _) EA7.out _) EA7.out _,(δw (cs':=#[.int .i64 q1,.int .i64 q2,.string q3]) (δw (cs':=#[.int .i64 q1,.int .i64 q2,.string (⟨#[]⟩:ByteArray)]) (δw (cs':=#[.int .i64 q1,.int .i64 0,.string (⟨#[]⟩:ByteArray)]) BA.out 0 (.int .i64 q1) rfl) 1 (.int .i64 q2) rfl) 2 (.string q3) rfl),δq (δq (δq HB4.out GN.out) GN.out) GN.out,δq (δq (δq HB.out GA.out) GA.out) GA.out⟩ ?_
    clear B7 BA hy0 hy1 hy2 hg0 hg1 hg2 HB HB4 GN
    rintro w5 ⟨b7,ba,hb4,hb⟩
    have B7:=ζa b7;have BA:=ζa ba;have HB:=ζa hb
    replace HR4:=ζa (Kd.C_below HR4.out hb4)
    clear b7 ba hb hb4
    refine sta 8 (fun w'=>w'.cell? ⟨ga,0,none⟩=some (.int .i64 q1)∧w'.cell? ⟨ga,1,none⟩=some (.int .i64 q2)∧w'.cell? ⟨ga,2,none⟩=some (.string q3)) [6] spec_SendPacket.tab8 spec_SendPacket.bits8 ⟨(δl BA.out 0).trans rfl,(δl BA.out 1).trans rfl,(δl BA.out 2).trans rfl⟩ (fun hHeld HT_ HW_ => ?_)
    replace B7:=ζa (δp B7.out)
    replace BA:=ζa (δp BA.out)
    replace HR4:=ζa (Kd.C_drew HR4.out)
    replace HB:=ζa (δj HB.out)
    generalize w5.drew=w6 at HB hHeld B7 BA HR4 ⊢
    refine pu 1 47 ?_
    refine ta 3 49 ?_
    refine pu 4 50 ?_
    refine on 0 46 (fun K hK => ?_)
    refine spec_SendPacket.lis w 0 #[] 61 ?_
    intro gl wl BL GL HB hb
    replace B7:=ζa (blk_below B7.out hb)
    replace BA:=ζa (blk_below BA.out hb)
    replace HR4:=ζa (Kd.C_below HR4.out hb)
    clear hb
    refine hK.out _ _ ⟨(δl BA.out 0).trans rfl,(δl BA.out 1).trans rfl,(δl BA.out 2).trans rfl⟩ (fun hHeld=>nm 46 ?_)
    clear hK K
    refine on 2 48 (fun K hK => ?_)
    have HO:=ζa (R_empty GL.out BL.out)
    refine Kd.R_append_rows_step k61 (w0:=w) (Rr:=k61.K _) w.heap.size (by rfl) (.tmp 46) (.tmp 47) 25 61 (.agg #[(.string ⟨#[]⟩),(.string ⟨#[]⟩)]) 32 rfl Tryz.underlying25 info61 rfl (by decide) (by decide) _ [] y A4 y.length k4 (fun _=>True) (fun _=>False) rfl rfl HO.out HR4.out (fun x cs h=>by rw [k61_open h];exact k61_mkM _ _ _ x) (fun _ h=>h.elim) (fun _ _=>trivial) HB.out HB.out.size (by have:=HL.out;simp only [List.length_nil];omega) ?_
    intro v7 wz ho hb hg hn
    replace B7:=ζa (blk_grown B7.out hg (ζf HO.out B7.out (by decide)))
    replace BA:=ζa (blk_grown BA.out hg (ζf HO.out BA.out (by decide)))
    replace HO:=ζa ho
    replace HB:=ζa hb
    clear ho hb hg hn
    refine hK.out _ _ ⟨(δl BA.out 0).trans rfl,(δl BA.out 1).trans rfl,(δl BA.out 2).trans rfl⟩ (fun hHeld=>nm 48 ?_)
    clear hK K
    refine pu 5 6 ?_
    have hx0:=(δl B7.out 0).trans rfl;have hx1:=(δl B7.out 1).trans rfl;have hx2:=(δl B7.out 2).trans rfl;have hf0:=δm B7.out 0;have hf1:=δm B7.out 1;have hf2:=δm B7.out 2
    refine spec_l07Send.ls 6 (fun K hK => ?_)
    refine skip_ (w1:=?_) (by rfl) rfl ?_ ?_
    rotate_left
    ·
     go_simp
     rfl
    refine hK.out _ _ ?_
    clear hK K
    refine pu 7 8 ?_
    refine done_ (done_of HT_.out (by kernel_rfl)) ?_
    go_wp2
    refine bodyPost_ret (results_list (rs:=[.tmp 6,.cell 7 36,.tmp 8]) rfl (by simp) (.tmp (.cell g7 36 #[.int .i64 q1,.int .i64 q2,.string q3] (0,0) _ rfl (δw (cs':=#[.int .i64 q1,.int .i64 q2,.string q3]) (δw (cs':=#[.int .i64 q1,.int .i64 q2,.string (⟨#[]⟩:ByteArray)]) (δw (cs':=#[.int .i64 q1,.int .i64 0,.string (⟨#[]⟩:ByteArray)]) B7.out 0 (.int .i64 q1) rfl) 1 (.int .i64 q2) rfl) 2 (.string q3) rfl) Tryz.underlying36 rfl (by kernel_rfl) (.tmp .nil)))) rfl ?_
    exact ⟨_,rfl,Kd.R_set (Kd.R_set (Kd.R_set HO.out B7.out (by decide) _ _) (δw (cs':=#[.int .i64 q1,.int .i64 0,.string (⟨#[]⟩:ByteArray)]) B7.out 0 (.int .i64 q1) rfl) (by decide) _ _) (δw (cs':=#[.int .i64 q1,.int .i64 q2,.string (⟨#[]⟩:ByteArray)]) (δw (cs':=#[.int .i64 q1,.int .i64 0,.string (⟨#[]⟩:ByteArray)]) B7.out 0 (.int .i64 q1) rfl) 1 (.int .i64 q2) rfl) (by decide) _ _,δq (δq (δq HB.out G7.out) G7.out) G7.out⟩


open Go.Proofs.YtggemblkhckbpaaGreatDoorW.PrintWords renaming gate_dst → δx, below_step → δr, blk_cell → δl, blk_frozen → δm
set_option maxHeartbeats 8000000
set_option maxRecDepth 100000

/-! ### laws_szPair: function 45 -/
def laws_szPair.f (a0_0:ByteArray) (a0_1:ByteArray) (a1:Int):Option (Int):=if (ζm (a1 - (a0_0.size:Int)))<0 then (some (-1)) else (if (ζm ((ζm (a1 - (a0_0.size:Int))) - (a0_1.size:Int)))<0 then (some (-1)) else (some (ζm ((ζm (a1 - (a0_0.size:Int))) - (a0_1.size:Int)))))
theorem laws_szPair.calls (a0_0:ByteArray) (a0_1:ByteArray) (a1:Int) (r:Int) (w:World) (h:laws_szPair.f a0_0 a0_1 a1=some r) :
  Calls Tryz.prog 45 #[.agg #[.string a0_0,.string a0_1],.int .i64 a1] w fun e w'=>e = .returned (.int .i64 r)∧Below w.heap.size w w':=by
 have hu71:=Tryz.underlying71
 have HB:=ζa (Below.refl w.heap.size w)
 have H:(if (ζm (a1 - (a0_0.size:Int)))<0 then (some (-1)) else (if (ζm ((ζm (a1 - (a0_0.size:Int))) - (a0_1.size:Int)))<0 then (some (-1)) else (some (ζm ((ζm (a1 - (a0_0.size:Int))) - (a0_1.size:Int))))))=some r:=h
 clear h
 by_cases c3:(ζm (a1 - (a0_0.size:Int)))<0
 ·
  rw [if_pos c3] at H
  have c3b0:=decide_eq_true c3
  clear c3
  obtain rfl:=Option.some.inj H
  go_enter Tryz.func45,Tryz.ntmps45
  go_wp2_with (((with_reducible refine δx (N:=2) rfl ?_);refine bev 2 #[.string a0_0,.string a0_1] 71 ?_;intro gb236 hg w4 hbox hb;have BK236:=ζa (hbox);have GW236:=ζa (gbw hg (by exact HB.out));have GE236:=ζa (gbw hg (by exact HB.out));replace HB:=ζa (δr (by exact HB.out) hb);clear hb hbox hg;have hcz5_0:w4.cell? ⟨gb236,0,none⟩=some (.string a0_0):=(δl BK236.out 0).trans rfl;have hcz5_1:w4.cell? ⟨gb236,1,none⟩=some (.string a0_1):=(δl BK236.out 1).trans rfl;have hfz5_0:=δm BK236.out 0;have hfz5_1:=δm BK236.out 1))
  go_ret
  exact ⟨by rfl,by repeat ((with_reducible exact HB.out))⟩
 ·
  rw [if_neg c3] at H
  have c3b0:=decide_eq_false c3
  clear c3
  by_cases c6:(ζm ((ζm (a1 - (a0_0.size:Int))) - (a0_1.size:Int)))<0
  ·
   rw [if_pos c6] at H
   have c6b0:=decide_eq_true c6
   clear c6
   obtain rfl:=Option.some.inj H
   go_enter Tryz.func45,Tryz.ntmps45
   go_wp2_with (((with_reducible refine δx (N:=2) rfl ?_);refine bev 2 #[.string a0_0,.string a0_1] 71 ?_;intro gb236 hg w7 hbox hb;have BK236:=ζa (hbox);have GW236:=ζa (gbw hg (by exact HB.out));have GE236:=ζa (gbw hg (by exact HB.out));replace HB:=ζa (δr (by exact HB.out) hb);clear hb hbox hg;have hcz8_0:w7.cell? ⟨gb236,0,none⟩=some (.string a0_0):=(δl BK236.out 0).trans rfl;have hcz8_1:w7.cell? ⟨gb236,1,none⟩=some (.string a0_1):=(δl BK236.out 1).trans rfl;have hfz8_0:=δm BK236.out 0;have hfz8_1:=δm BK236.out 1))
   go_ret
   exact ⟨by rfl,by repeat ((with_reducible exact HB.out))⟩
  ·
   rw [if_neg c6] at H
   have c6b0:=decide_eq_false c6
   clear c6
   obtain rfl:=Option.some.inj H
   go_enter Tryz.func45,Tryz.ntmps45
   go_wp2_with (((with_reducible refine δx (N:=2) rfl ?_);refine bev 2 #[.string a0_0,.string a0_1] 71 ?_;intro gb236 hg w9 hbox hb;have BK236:=ζa (hbox);have GW236:=ζa (gbw hg (by exact HB.out));have GE236:=ζa (gbw hg (by exact HB.out));replace HB:=ζa (δr (by exact HB.out) hb);clear hb hbox hg;have hcz10_0:w9.cell? ⟨gb236,0,none⟩=some (.string a0_0):=(δl BK236.out 0).trans rfl;have hcz10_1:w9.cell? ⟨gb236,1,none⟩=some (.string a0_1):=(δl BK236.out 1).trans rfl;have hfz10_0:=δm BK236.out 0;have hfz10_1:=δm BK236.out 1))
   go_ret
   exact ⟨by rfl,by repeat ((with_reducible exact HB.out))⟩


open Go.Proofs.YtggemblkhckbpaaGreatDoorW.PrintWords renaming gate_callee → δv, below_step → δr
set_option maxHeartbeats 8000000
set_option maxRecDepth 100000

/-! ### laws_szPairS: function 20 -/
def laws_szPairS.l0:Nat→List (S71)→Int→Int→Option (Int)
 | 0,_,_,_=>none
 | k+1,x0,x1,x5=>if x5<(x0.length:Int) then (if 0≤x5 then ((laws_szPair.f ((rd_T71 x0 x5).f0) ((rd_T71 x0 x5).f1) x1).bind fun t238=>(if t238<0 then (some (-1)) else (laws_szPairS.l0 k x0 t238 (ζm (x5+1))))) else (none)) else (some x1)
def laws_szPairS.f (k:Nat) (l0:List (S71)) (a1:Int):Option (Int):=if (ζm (a1 - (l0.length:Int)))<0 then (some (-1)) else (laws_szPairS.l0 k l0 (ζm (a1 - (l0.length:Int))) 0)
theorem laws_szPairS.calls (k:Nat) (A0:Option Addr) (c0:Nat) (l0:List (S71)) (a1:Int) (r:Int) (w:World) (hr0:Kd.C k71 w A0 l0.length l0) (hc0:l0.length≤c0) (h:laws_szPairS.f k l0 a1=some r) :
  Calls Tryz.prog 20 #[.slice A0 l0.length c0,.int .i64 a1] w fun e w'=>e = .returned (.int .i64 r)∧Below w.heap.size w w':=by
 have hu71:=Tryz.underlying71
 have HR0:=ζa hr0
 have HC0:=ζa hc0
 clear hr0 hc0
 have HB:=ζa (Below.refl w.heap.size w)
 have H:(if (ζm (a1 - (l0.length:Int)))<0 then (some (-1)) else (laws_szPairS.l0 k l0 (ζm (a1 - (l0.length:Int))) 0))=some r:=h
 clear h
 by_cases c3:(ζm (a1 - (l0.length:Int)))<0
 ·
  rw [if_pos c3] at H
  have c3b0:=decide_eq_true c3
  clear c3
  obtain rfl:=Option.some.inj H
  go_enter Tryz.func20,Tryz.ntmps20
  go_wp2
  go_ret
  exact ⟨by rfl,by repeat ((with_reducible exact HB.out))⟩
 ·
  rw [if_neg c3] at H
  have c3b0:=decide_eq_false c3
  clear c3
  have H':=ζa H
  clear H
  go_enter Tryz.func20,Tryz.ntmps20
  go_wp2
  go_loopg [1,5] k (fun kq v1 v5 w' => ∃ (x1_1:Int) (x5_1:Int),v1 = .int .i64 x1_1∧v5 = .int .i64 x5_1∧Aside0 (laws_szPairS.l0 kq l0 x1_1 x5_1=some r)∧Aside0 (kq≤k)∧Aside0 (Below w.heap.size w w'))
  case atStart=>exact ⟨(ζm (a1 - (l0.length:Int))),(0),(by rfl),(by rfl),H',⟨Nat.le_refl _⟩,⟨by repeat ((with_reducible exact HB.out))⟩⟩
  case round =>
   clear H'
   try clear c2
   try clear p2
   try clear c3
   try clear c3b0
   obtain ⟨x1_1,x5_1,rfl,rfl,HA,HK1,HB⟩:=hrel
   cases gk with
   | zero=>exact absurd HA.out (by simp [laws_szPairS.l0])
   | succ k1 =>
    have H:=HA.out
    clear HA
    simp only [laws_szPairS.l0] at H
    by_cases c4:x5_1<(l0.length:Int)
    ·
     rw [if_pos c4] at H
     have c4b0:=decide_eq_true c4
     clear c4
     by_cases c5:0≤x5_1
     ·
      rw [if_pos c5] at H
      have c5b0:=decide_eq_true c5
      clear c5
      obtain ⟨t238,A6,H⟩:=bsm H
      by_cases c7:t238<0
      ·
       rw [if_pos c7] at H
       have c7b0:=decide_eq_true c7
       clear c7
       obtain rfl:=Option.some.inj H
       have p237:0≤(x5_1:Int):=of_decide_eq_true (by (with_reducible assumption))
       have q237:x5_1<(l0.length:Int):=of_decide_eq_true (by (with_reducible assumption))
       obtain ⟨ad237,e237,hx237_0,hx237_1⟩:=at_T71 HR0.out x5_1 p237 q237
       cases e237
       replace hx237_0:=(HB.out.cell (World.block_lt_of_cell? w _ hx237_0)).trans hx237_0
       replace hx237_1:=(HB.out.cell (World.block_lt_of_cell? w _ hx237_1)).trans hx237_1
       replace p237:=eq_true p237
       replace q237:=eq_true q237
       go_wp2_with (((with_reducible refine δv (f:=45) rfl ?_);refine gl 23 Tryz.func45 #[.agg #[.string ((rd_T71 l0 x5_1).f0),.string ((rd_T71 l0 x5_1).f1)],.int .i64 x1_1] ?_;(with_reducible refine (laws_szPair.calls ((rd_T71 l0 x5_1).f0) ((rd_T71 l0 x5_1).f1) x1_1 t238 _ A6.out).mono ?_);rintro e w8 ⟨rfl,hb⟩;refine ⟨_,rfl,?_⟩;replace HB:=ζa (δr (by exact HB.out) hb);(try clear hb);(try clear hb2);(try clear hk);(try clear hi)))
       go_ret
       exact ⟨by rfl,by repeat ((with_reducible exact HB.out))⟩
      ·
       rw [if_neg c7] at H
       have c7b0:=decide_eq_false c7
       clear c7
       have H':=ζa H
       clear H
       have p237:0≤(x5_1:Int):=of_decide_eq_true (by (with_reducible assumption))
       have q237:x5_1<(l0.length:Int):=of_decide_eq_true (by (with_reducible assumption))
       obtain ⟨ad237,e237,hx237_0,hx237_1⟩:=at_T71 HR0.out x5_1 p237 q237
       cases e237
       replace hx237_0:=(HB.out.cell (World.block_lt_of_cell? w _ hx237_0)).trans hx237_0
       replace hx237_1:=(HB.out.cell (World.block_lt_of_cell? w _ hx237_1)).trans hx237_1
       replace p237:=eq_true p237
       replace q237:=eq_true q237
       go_wp2_with (((with_reducible refine δv (f:=45) rfl ?_);refine gl 23 Tryz.func45 #[.agg #[.string ((rd_T71 l0 x5_1).f0),.string ((rd_T71 l0 x5_1).f1)],.int .i64 x1_1] ?_;(with_reducible refine (laws_szPair.calls ((rd_T71 l0 x5_1).f0) ((rd_T71 l0 x5_1).f1) x1_1 t238 _ A6.out).mono ?_);rintro e w9 ⟨rfl,hb⟩;refine ⟨_,rfl,?_⟩;replace HB:=ζa (δr (by exact HB.out) hb);(try clear hb);(try clear hb2);(try clear hk);(try clear hi)))
       go_roundg k1
       case measure=>have:=HK1.out;omega
       case rel=>exact ⟨(t238),(ζm (x5_1+1)),(by rfl),(by rfl),H',⟨by have:=HK1.out;omega⟩,⟨by repeat ((with_reducible exact HB.out))⟩⟩
     ·
      rw [if_neg c5] at H
      exact absurd H (by simp)
    ·
     rw [if_neg c4] at H
     have c4b0:=decide_eq_false c4
     clear c4
     obtain rfl:=Option.some.inj H
     go_wp2
     go_ret
     exact ⟨by rfl,by repeat ((with_reducible exact HB.out))⟩


open Go.Proofs.YtggemblkhckbpaaGreatDoorW.PrintWords renaming gate_dst → δx, below_step → δr, blk_cell → δl, blk_frozen → δm, blk_put → δw, below_set → δq
set_option maxHeartbeats 8000000
set_option maxRecDepth 100000

/-! ### laws_toPair: function 46 -/
def laws_toPair.f (a0_0:ByteArray) (a0_1:ByteArray):Option (ByteArray × ByteArray):=some (a0_0,a0_1)
theorem laws_toPair.calls (a0_0:ByteArray) (a0_1:ByteArray) (r1:ByteArray) (r2:ByteArray) (w:World) (h:laws_toPair.f a0_0 a0_1=some (r1,r2)) :
  Calls Tryz.prog 46 #[.agg #[.string a0_0,.string a0_1]] w fun e w'=>e = .returned (.agg #[.string r1,.string r2])∧Below w.heap.size w w':=by
 have hu71:=Tryz.underlying71
 have hu61:=Tryz.underlying61
 have HB:=ζa (Below.refl w.heap.size w)
 have H:(some (a0_0,a0_1))=some (r1,r2):=h
 clear h
 simp only [Option.some.injEq,Prod.mk.injEq] at H
 obtain ⟨rfl,rfl⟩:=H
 go_enter Tryz.func46,Tryz.ntmps46
 go_wp2_with (first|((with_reducible refine δx (N:=1) rfl ?_);refine bev 1 #[.string a0_0,.string a0_1] 71 ?_;intro gb239 hg w2 hbox hb;have BK239:=ζa (hbox);have GW239:=ζa (gbw hg (by exact HB.out));have GE239:=ζa (gbw hg (by exact HB.out));replace HB:=ζa (δr (by exact HB.out) hb);clear hb hbox hg)|((with_reducible refine δx (N:=2) rfl ?_);refine bev 2 #[.string (⟨#[]⟩:ByteArray),.string (⟨#[]⟩:ByteArray)] 61 ?_;intro gb240 hg w3 hbox hb;have BK240:=ζa (hbox);have GW240:=ζa (gbw hg (by exact HB.out));have GE240:=ζa (gbw hg (by exact HB.out));replace HB:=ζa (δr (by exact HB.out) hb);have NB239_240:=ζa ((by rw [hg];exact Nat.ne_of_lt (blk_lt (g:=gb239) (o:=.cells #[.string a0_0,.string a0_1] 71 (0,0)) (by exact BK239.out)):gb239≠gb240));have NB240_239:=ζa ((by rw [hg];exact Nat.ne_of_gt (blk_lt (g:=gb239) (o:=.cells #[.string a0_0,.string a0_1] 71 (0,0)) (by exact BK239.out)):gb240≠gb239));replace BK239:=ζa (blk_below (g:=gb239) (o:=.cells #[.string a0_0,.string a0_1] 71 (0,0)) (by exact BK239.out) hb);clear hb hbox hg)|((with_reducible refine δx (N:=3) rfl ?_);refine bev 3 #[.string (⟨#[]⟩:ByteArray),.string (⟨#[]⟩:ByteArray)] 61 ?_;intro gb241 hg w4 hbox hb;have BK241:=ζa (hbox);have GW241:=ζa (gbw hg (by exact HB.out));have GE241:=ζa (gbw hg (by exact HB.out));replace HB:=ζa (δr (by exact HB.out) hb);have NB239_241:=ζa ((by rw [hg];exact Nat.ne_of_lt (blk_lt (g:=gb239) (o:=.cells #[.string a0_0,.string a0_1] 71 (0,0)) (by exact BK239.out)):gb239≠gb241));have NB241_239:=ζa ((by rw [hg];exact Nat.ne_of_gt (blk_lt (g:=gb239) (o:=.cells #[.string a0_0,.string a0_1] 71 (0,0)) (by exact BK239.out)):gb241≠gb239));replace BK239:=ζa (blk_below (g:=gb239) (o:=.cells #[.string a0_0,.string a0_1] 71 (0,0)) (by exact BK239.out) hb);have NB240_241:=ζa ((by rw [hg];exact Nat.ne_of_lt (blk_lt (g:=gb240) (o:=.cells #[.string (⟨#[]⟩:ByteArray),.string (⟨#[]⟩:ByteArray)] 61 (0,0)) (by exact BK240.out)):gb240≠gb241));have NB241_240:=ζa ((by rw [hg];exact Nat.ne_of_gt (blk_lt (g:=gb240) (o:=.cells #[.string (⟨#[]⟩:ByteArray),.string (⟨#[]⟩:ByteArray)] 61 (0,0)) (by exact BK240.out)):gb241≠gb240));replace BK240:=ζa (blk_below (g:=gb240) (o:=.cells #[.string (⟨#[]⟩:ByteArray),.string (⟨#[]⟩:ByteArray)] 61 (0,0)) (by exact BK240.out) hb);clear hb hbox hg;have hnb5:=NB239_240.out;have hnc5:=NB240_239.out;have hnb6:=NB239_241.out;have hnc6:=NB241_239.out;have hcz7_0:w4.cell? ⟨gb239,0,none⟩=some (.string a0_0):=(δl BK239.out 0).trans rfl;have hcz7_1:w4.cell? ⟨gb239,1,none⟩=some (.string a0_1):=(δl BK239.out 1).trans rfl;have hfz7_0:=δm BK239.out 0;have hfz7_1:=δm BK239.out 1;have hnb8:=NB241_240.out;have hnc8:=NB240_241.out;have hcz9_0:w4.cell? ⟨gb241,0,none⟩=some (.string (⟨#[]⟩:ByteArray)):=(δl BK241.out 0).trans rfl;have hcz9_1:w4.cell? ⟨gb241,1,none⟩=some (.string (⟨#[]⟩:ByteArray)):=(δl BK241.out 1).trans rfl;have hfz9_0:=δm BK241.out 0;have hfz9_1:=δm BK241.out 1;have hcz10_0:w4.cell? ⟨gb240,0,none⟩=some (.string (⟨#[]⟩:ByteArray)):=(δl BK240.out 0).trans rfl;have hcz10_1:w4.cell? ⟨gb240,1,none⟩=some (.string (⟨#[]⟩:ByteArray)):=(δl BK240.out 1).trans rfl;have hfz10_0:=δm BK240.out 0;have hfz10_1:=δm BK240.out 1))
 refine bodyPost_ret (results_cell_row rfl _ _ gb240 61 #[.string a0_0,.string a0_1] (0,0) _ rfl (by refine δw (cs:=#[.string a0_0,.string (⟨#[]⟩:ByteArray)]) ?_ 1 _ rfl;refine δw (cs:=#[.string (⟨#[]⟩:ByteArray),.string (⟨#[]⟩:ByteArray)]) ?_ 0 _ rfl;refine blk_far ?_ NB240_241.out _;refine blk_far ?_ NB240_241.out _;exact BK240.out) Tryz.underlying61 rfl (by kernel_rfl)) rfl ?_
 exact ⟨by rfl,by repeat ((with_reducible first|exact HB.out|refine δq ?_ GE240.out|refine δq ?_ GE241.out))⟩


open Go.Proofs.YtggemblkhckbpaaGreatDoorW.PrintWords renaming gate_dst → δx, below_size → δs, below_step → δr, gate_callee → δv, below_set → δq
open Bool renaming false → φ
set_option maxHeartbeats 8000000
set_option maxRecDepth 100000

/-! ### laws_toPairS: function 21 -/
def laws_toPairS.l0:Nat→List (S71)→List (S61)→Int→Option ((List (S61)))
 | 0,_,_,_=>none
 | k+1,x0,x3,x4=>if x4<(x0.length:Int) then (if 0≤x4 then ((laws_toPair.f ((rd_T71 x0 x4).f0) ((rd_T71 x0 x4).f1)).bind fun bt246=>(if x4<(x3.length:Int) then (laws_toPairS.l0 k x0 (x3.set (x4:Int).toNat (⟨bt246.1,bt246.2⟩:S61)) (ζm (x4+1))) else (none))) else (none)) else (some x3)
def laws_toPairS.f (k:Nat) (l0:List (S71)):Option ((List (S61))):=if 0≤(l0.length:Int) then (if ((l0.length:Int):Int).toNat≤8796093022208 then (laws_toPairS.l0 k l0 (List.replicate ((l0.length:Int):Int).toNat z61) 0) else (none)) else (none)
theorem laws_toPairS.calls (k:Nat) (A0:Option Addr) (c0:Nat) (l0:List (S71)) (r:List (S61)) (w:World) (hr0:Kd.C k71 w A0 l0.length l0) (hc0:l0.length≤c0) (h:laws_toPairS.f k l0=some r) :
  Calls Tryz.prog 21 #[.slice A0 l0.length c0] w fun e w' => ∃ v0_:Value,e = .returned (v0_)∧Kd.R k61 61 w' w.heap.size (fun _=>True) v0_ r∧Below w.heap.size w w':=by
 have hu71:=Tryz.underlying71
 have hu61:=Tryz.underlying61
 have HR0:=ζa hr0
 have HC0:=ζa hc0
 clear hr0 hc0
 have HB:=ζa (Below.refl w.heap.size w)
 have H:(if 0≤(l0.length:Int) then (if ((l0.length:Int):Int).toNat≤8796093022208 then (laws_toPairS.l0 k l0 (List.replicate ((l0.length:Int):Int).toNat z61) 0) else (none)) else (none))=some r:=h
 clear h
 by_cases c2:0≤(l0.length:Int)
 ·
  rw [if_pos c2] at H
  have c2b0:=eq_true c2
  have c2b1:=decide_eq_true c2
  clear c2
  by_cases c3:((l0.length:Int):Int).toNat≤8796093022208
  ·
   rw [if_pos c3] at H
   have c3b0:=eq_true c3
   have c3b1:=decide_eq_true c3
   clear c3
   obtain ⟨y242,hy242⟩ : ∃ y_:List (S61),y_=(List.replicate ((l0.length:Int):Int).toNat z61):=⟨_,rfl⟩
   replace H:(laws_toPairS.l0 k l0 y242 0)=some r:=by (rw [hy242];with_reducible exact H)
   have Ny242:=ζa hy242
   clear hy242
   have H':=ζa H
   clear H
   go_enter Tryz.func21,Tryz.ntmps21
   go_wp2_with (((with_reducible refine δx (N:=7) rfl ?_);refine Kd.R_make k61 _ 61 rfl (N:=7) rfl 25 _ _ rfl (l0.length:Int) rfl rfl Tryz.underlying25 (.agg #[(.string ⟨#[]⟩),(.string ⟨#[]⟩)]) 32 info61 rfl (by decide) (by omega) z61 (ok:=fun _=>True) (okp:=fun _=>True) (k61_mkM _ _ _ z61 ) (fun _ hk=>hk) trivial (of_decide_eq_true (by (with_reducible assumption))) (Nat.le_trans (Nat.mul_le_mul_right _ (of_decide_eq_true (by (with_reducible assumption)):(l0.length:Int).toNat≤8796093022208)) (by omega)) (Below.refl _ _) (Nat.le_refl _) ?_;intro v243 w4 ho5 hb hg_ hnew_;clear hg_ hnew_;(rw [← Ny242.out] at ho5);have HO244:=ζa (Kd.R_lower ho5 (δs (by exact HB.out)));replace HB:=ζa (δr (by exact HB.out) hb);clear hb ho5))
   go_loopg [4] k (fun kq v4 w' => ∃ (x3_1:List (S61)) (x4_1:Int),v4 = .int .i64 x4_1∧Aside0 (laws_toPairS.l0 kq l0 x3_1 x4_1=some r)∧Aside0 (kq≤k)∧Aside0 (Kd.R k61 61 w' w.heap.size (fun _=>True) v243 x3_1)∧Aside0 (Below w.heap.size w w'))
   case atStart=>exact ⟨(y242),(0),(by rfl),H',⟨Nat.le_refl _⟩,⟨by exact HO244.out⟩,⟨by repeat ((with_reducible exact HB.out))⟩⟩
   case round =>
    clear H'
    try clear c2
    try clear c2b0
    try clear c2b1
    try clear p2
    try clear c3
    try clear c3b0
    try clear c3b1
    obtain ⟨x3_1,x4_1,rfl,HA,HK1,HO_3,HB⟩:=hrel
    cases gk with
    | zero=>exact absurd HA.out (by simp [laws_toPairS.l0])
    | succ k1 =>
     have H:=HA.out
     clear HA
     simp only [laws_toPairS.l0] at H
     by_cases c6:x4_1<(l0.length:Int)
     ·
      rw [if_pos c6] at H
      have c6b0:=decide_eq_true c6
      clear c6
      by_cases c7:0≤x4_1
      ·
       rw [if_pos c7] at H
       have c7b0:=decide_eq_true c7
       clear c7
       obtain ⟨⟨t246,t247⟩,A8,H⟩:=bsm H
       dsimp only at H
       by_cases c9:x4_1<(x3_1.length:Int)
       ·
        rw [if_pos c9] at H
        have c9b0:=decide_eq_true c9
        clear c9
        obtain ⟨y248,hy248⟩ : ∃ y_:List (S61),y_=(x3_1.set (x4_1:Int).toNat (⟨t246,t247⟩:S61)):=⟨_,rfl⟩
        replace H:(laws_toPairS.l0 k1 l0 y248 (ζm (x4_1+1)))=some r:=by (rw [hy248];with_reducible exact H)
        have Ny248:=ζa hy248
        clear hy248
        have H':=ζa H
        clear H
        have p245:0≤(x4_1:Int):=of_decide_eq_true (by (with_reducible assumption))
        have q245:x4_1<(l0.length:Int):=of_decide_eq_true (by (with_reducible assumption))
        obtain ⟨ad245,e245,hx245_0,hx245_1⟩:=at_T71 HR0.out x4_1 p245 q245
        cases e245
        replace hx245_0:=(HB.out.cell (World.block_lt_of_cell? w _ hx245_0)).trans hx245_0
        replace hx245_1:=(HB.out.cell (World.block_lt_of_cell? w _ hx245_1)).trans hx245_1
        replace p245:=eq_true p245
        replace q245:=eq_true q245
        go_wp2_with (first|((with_reducible refine δv (f:=46) rfl ?_);refine gl 20 Tryz.func46 #[.agg #[.string ((rd_T71 l0 x4_1).f0),.string ((rd_T71 l0 x4_1).f1)]] ?_;(with_reducible refine (laws_toPair.calls ((rd_T71 l0 x4_1).f0) ((rd_T71 l0 x4_1).f1) t246 t247 _ A8.out).mono ?_);rintro e w11 ⟨rfl,hb⟩;refine ⟨_,rfl,?_⟩;replace HO_3:=ζa (ζh (by exact HO_3.out) hb);replace HB:=ζa (δr (by exact HB.out) hb);(try clear hb);(try clear hb2);(try clear hk);(try clear hi);have p10:0≤(x4_1:Int):=of_decide_eq_true (by (with_reducible assumption));have q10:(x4_1:Int)<((x3_1.length:Int):Int):=of_decide_eq_true (by (with_reducible assumption));obtain ⟨go10,co10,eo10,gb10,gl10,cl10,HG10⟩:=Kd.R_form HO_3.out (by omega);(cases eo10);have GB10:=ζa gb10;have GG10:=ζa HG10;clear gb10 gl10 HG10;obtain ⟨ce10,hcl10,hM10,hcc10,hfr10⟩:=Kd.R_elem HO_3.out z61 (x4_1:Int) p10 q10;obtain rfl:=k61_openM hM10;have hx10_0:w11.cell? ⟨go10,(x4_1:Int).toNat * 2,none⟩=some (.string ((rd_T61 x3_1 x4_1).f0)):=hcc10 0 _ rfl;have hx10_1:w11.cell? ⟨go10,(x4_1:Int).toNat * 2+1,none⟩=some (.string ((rd_T61 x3_1 x4_1).f1)):=hcc10 1 _ rfl;have hf10_0:w11.frozen? ⟨go10,(x4_1:Int).toNat * 2,none⟩=φ:=hfr10 0;have hf10_1:w11.frozen? ⟨go10,(x4_1:Int).toNat * 2+1,none⟩=φ:=hfr10 1;clear hcl10 hcc10 hfr10 hM10;replace p10:=eq_true p10;replace q10:=eq_true q10;have HX12:=ζa (show Kd.R k61 61 w11 w.heap.size (fun _=>True) (.slice (some ⟨go10,0,none⟩) x3_1.length co10) x3_1 from (by exact HO_3.out));obtain ⟨ce12,hcl12,hM12,hcc12,hfr12⟩:=Kd.R_elem HX12.out z61 (x4_1:Int) (of_decide_eq_true (by (with_reducible assumption))) (by have h_:(x4_1:Int)<((x3_1.length:Int):Int):=of_decide_eq_true (by (with_reducible assumption));exact h_);obtain rfl:=k61_openM hM12;have HP12:=Kd.R_seg HX12.out (x4_1:Int) (of_decide_eq_true (by (with_reducible assumption))) (by have h_:(x4_1:Int)<((x3_1.length:Int):Int):=of_decide_eq_true (by (with_reducible assumption));exact h_) (seg:=[.string t246,.string t247]) (j:=0) hcl12 hcc12 (show 2≤2 from by decide) (x':=(⟨t246,t247⟩:S61)) (k61_mkM _ _ _ (⟨t246,t247⟩:S61) ) (fun _ hk=>hk);have hx12_0:=hcc12 0 _ rfl;(try simp only [show (k61).sz=2 from rfl,Nat.mul_one,Nat.add_zero] at hx12_0);have hf12_0:=hfr12 0;(try simp only [show (k61).sz=2 from rfl,Nat.mul_one,Nat.add_zero] at hf12_0);have hx12_1:=hcc12 1 _ rfl;(try simp only [show (k61).sz=2 from rfl,Nat.mul_one,Nat.add_zero] at hx12_1);have hf12_1:=hfr12 1;(try simp only [show (k61).sz=2 from rfl,Nat.mul_one,Nat.add_zero] at hf12_1);clear hcl12 hcc12 hfr12 hM12)|((with_reducible refine gate_store (t:=61) (p:=21) rfl ?_);refine store_event (t:=61) (p:=21) (v:=?vo_w13) (w1:=((w11.setCell ⟨go10,(x4_1:Int).toNat * 2,none⟩ (.string t246)).setCell ⟨go10,(x4_1:Int).toNat * 2+1,none⟩ (.string t247))) ?hg ?ho ?hn ?hr ?_;(case ho=>rfl);(case hg=>rfl);(case hn=>rfl);(case hr=>(go_simp;done));intro w13 hw;have hg:w11.grownBy w13 (some go10):=(by rw [hw];exact HP12.2);have hp_:Kd.R k61 61 w13 w.heap.size (fun _=>True) (.slice (some ⟨go10,0,none⟩) x3_1.length co10) y248:=(by rw [hw,Ny248.out];exact HP12.1);clear HP12;replace HO_3:=ζa (hp_);replace HB:=ζa ((by rw [hw];exact δq (δq (HB.out) GB10.out) GB10.out:Below w.heap.size w w13));clear hg hw hp_))
        go_roundg k1
        case measure=>have:=HK1.out;omega
        case rel=>exact ⟨(y248),(ζm (x4_1+1)),(by rfl),H',⟨by have:=HK1.out;omega⟩,⟨by exact HO_3.out⟩,⟨by repeat ((with_reducible exact HB.out))⟩⟩
       ·
        rw [if_neg c9] at H
        exact absurd H (by simp)
      ·
       rw [if_neg c7] at H
       exact absurd H (by simp)
     ·
      rw [if_neg c6] at H
      have c6b0:=decide_eq_false c6
      clear c6
      obtain rfl:=Option.some.inj H
      go_wp2
      go_ret
      exact ⟨_,by rfl,by exact HO_3.out,by repeat ((with_reducible exact HB.out))⟩
  ·
   rw [if_neg c3] at H
   exact absurd H (by simp)
 ·
  rw [if_neg c2] at H
  exact absurd H (by simp)


set_option maxHeartbeats 8000000
set_option maxRecDepth 100000

/-! ### laws_eqPair: function 47 -/
def laws_eqPair.f (a0_0:ByteArray) (a0_1:ByteArray) (a1_0:ByteArray) (a1_1:ByteArray):Option (Bool):=if a0_0.toList=a1_0.toList then (if a0_1.toList=a1_1.toList then (some τ) else (some φ)) else (some φ)
theorem laws_eqPair.calls (a0_0:ByteArray) (a0_1:ByteArray) (a1_0:ByteArray) (a1_1:ByteArray) (r:Bool) (w:World) (h:laws_eqPair.f a0_0 a0_1 a1_0 a1_1=some r) :
  Calls Tryz.prog 47 #[.agg #[.string a0_0,.string a0_1],.agg #[.string a1_0,.string a1_1]] w fun e w'=>e = .returned (.bool r)∧Below w.heap.size w w':=by
 have hu61:=Tryz.underlying61
 have HB:=ζa (Below.refl w.heap.size w)
 have H:(if a0_0.toList=a1_0.toList then (if a0_1.toList=a1_1.toList then (some τ) else (some φ)) else (some φ))=some r:=h
 clear h
 by_cases c3:a0_0.toList=a1_0.toList
 ·
  rw [if_pos c3] at H
  have c3b0:=beq_iff_eq.mpr c3
  have c3b1:=bne_eq_false_iff_eq.mpr c3
  clear c3
  by_cases c4:a0_1.toList=a1_1.toList
  ·
   rw [if_pos c4] at H
   have c4b0:=beq_iff_eq.mpr c4
   have c4b1:=bne_eq_false_iff_eq.mpr c4
   clear c4
   obtain rfl:=Option.some.inj H
   go_enter Tryz.func47,Tryz.ntmps47
   go_wp2_with (first|((with_reducible refine δx (N:=2) rfl ?_);refine bev 2 #[.string a0_0,.string a0_1] 61 ?_;intro gb249 hg w5 hbox hb;have BK249:=ζa (hbox);have GW249:=ζa (gbw hg (by exact HB.out));have GE249:=ζa (gbw hg (by exact HB.out));replace HB:=ζa (δr (by exact HB.out) hb);clear hb hbox hg)|((with_reducible refine δx (N:=3) rfl ?_);refine bev 3 #[.string a1_0,.string a1_1] 61 ?_;intro gb250 hg w6 hbox hb;have BK250:=ζa (hbox);have GW250:=ζa (gbw hg (by exact HB.out));have GE250:=ζa (gbw hg (by exact HB.out));replace HB:=ζa (δr (by exact HB.out) hb);have NB249_250:=ζa ((by rw [hg];exact Nat.ne_of_lt (blk_lt (g:=gb249) (o:=.cells #[.string a0_0,.string a0_1] 61 (0,0)) (by exact BK249.out)):gb249≠gb250));have NB250_249:=ζa ((by rw [hg];exact Nat.ne_of_gt (blk_lt (g:=gb249) (o:=.cells #[.string a0_0,.string a0_1] 61 (0,0)) (by exact BK249.out)):gb250≠gb249));replace BK249:=ζa (blk_below (g:=gb249) (o:=.cells #[.string a0_0,.string a0_1] 61 (0,0)) (by exact BK249.out) hb);clear hb hbox hg;have hnb7:=NB249_250.out;have hnc7:=NB250_249.out;have hcz8_0:w6.cell? ⟨gb249,0,none⟩=some (.string a0_0):=(δl BK249.out 0).trans rfl;have hcz8_1:w6.cell? ⟨gb249,1,none⟩=some (.string a0_1):=(δl BK249.out 1).trans rfl;have hfz8_0:=δm BK249.out 0;have hfz8_1:=δm BK249.out 1;have hcz9_0:w6.cell? ⟨gb250,0,none⟩=some (.string a1_0):=(δl BK250.out 0).trans rfl;have hcz9_1:w6.cell? ⟨gb250,1,none⟩=some (.string a1_1):=(δl BK250.out 1).trans rfl;have hfz9_0:=δm BK250.out 0;have hfz9_1:=δm BK250.out 1))
   go_ret
   exact ⟨by rfl,by repeat ((with_reducible exact HB.out))⟩
  ·
   rw [if_neg c4] at H
   have c4b0:=beq_eq_false_iff_ne.mpr c4
   have c4b1:=bne_iff_ne.mpr c4
   obtain rfl:=Option.some.inj H
   go_enter Tryz.func47,Tryz.ntmps47
   go_wp2_with (first|((with_reducible refine δx (N:=2) rfl ?_);refine bev 2 #[.string a0_0,.string a0_1] 61 ?_;intro gb249 hg w10 hbox hb;have BK249:=ζa (hbox);have GW249:=ζa (gbw hg (by exact HB.out));have GE249:=ζa (gbw hg (by exact HB.out));replace HB:=ζa (δr (by exact HB.out) hb);clear hb hbox hg)|((with_reducible refine δx (N:=3) rfl ?_);refine bev 3 #[.string a1_0,.string a1_1] 61 ?_;intro gb250 hg w11 hbox hb;have BK250:=ζa (hbox);have GW250:=ζa (gbw hg (by exact HB.out));have GE250:=ζa (gbw hg (by exact HB.out));replace HB:=ζa (δr (by exact HB.out) hb);have NB249_250:=ζa ((by rw [hg];exact Nat.ne_of_lt (blk_lt (g:=gb249) (o:=.cells #[.string a0_0,.string a0_1] 61 (0,0)) (by exact BK249.out)):gb249≠gb250));have NB250_249:=ζa ((by rw [hg];exact Nat.ne_of_gt (blk_lt (g:=gb249) (o:=.cells #[.string a0_0,.string a0_1] 61 (0,0)) (by exact BK249.out)):gb250≠gb249));replace BK249:=ζa (blk_below (g:=gb249) (o:=.cells #[.string a0_0,.string a0_1] 61 (0,0)) (by exact BK249.out) hb);clear hb hbox hg;have hnb12:=NB249_250.out;have hnc12:=NB250_249.out;have hcz13_0:w11.cell? ⟨gb249,0,none⟩=some (.string a0_0):=(δl BK249.out 0).trans rfl;have hcz13_1:w11.cell? ⟨gb249,1,none⟩=some (.string a0_1):=(δl BK249.out 1).trans rfl;have hfz13_0:=δm BK249.out 0;have hfz13_1:=δm BK249.out 1;have hcz14_0:w11.cell? ⟨gb250,0,none⟩=some (.string a1_0):=(δl BK250.out 0).trans rfl;have hcz14_1:w11.cell? ⟨gb250,1,none⟩=some (.string a1_1):=(δl BK250.out 1).trans rfl;have hfz14_0:=δm BK250.out 0;have hfz14_1:=δm BK250.out 1))
   go_ret
   exact ⟨by rfl,by repeat ((with_reducible exact HB.out))⟩
 ·
  rw [if_neg c3] at H
  have c3b0:=beq_eq_false_iff_ne.mpr c3
  have c3b1:=bne_iff_ne.mpr c3
  obtain rfl:=Option.some.inj H
  go_enter Tryz.func47,Tryz.ntmps47
  go_wp2_with (first|((with_reducible refine δx (N:=2) rfl ?_);refine bev 2 #[.string a0_0,.string a0_1] 61 ?_;intro gb249 hg w15 hbox hb;have BK249:=ζa (hbox);have GW249:=ζa (gbw hg (by exact HB.out));have GE249:=ζa (gbw hg (by exact HB.out));replace HB:=ζa (δr (by exact HB.out) hb);clear hb hbox hg)|((with_reducible refine δx (N:=3) rfl ?_);refine bev 3 #[.string a1_0,.string a1_1] 61 ?_;intro gb250 hg w16 hbox hb;have BK250:=ζa (hbox);have GW250:=ζa (gbw hg (by exact HB.out));have GE250:=ζa (gbw hg (by exact HB.out));replace HB:=ζa (δr (by exact HB.out) hb);have NB249_250:=ζa ((by rw [hg];exact Nat.ne_of_lt (blk_lt (g:=gb249) (o:=.cells #[.string a0_0,.string a0_1] 61 (0,0)) (by exact BK249.out)):gb249≠gb250));have NB250_249:=ζa ((by rw [hg];exact Nat.ne_of_gt (blk_lt (g:=gb249) (o:=.cells #[.string a0_0,.string a0_1] 61 (0,0)) (by exact BK249.out)):gb250≠gb249));replace BK249:=ζa (blk_below (g:=gb249) (o:=.cells #[.string a0_0,.string a0_1] 61 (0,0)) (by exact BK249.out) hb);clear hb hbox hg;have hnb17:=NB249_250.out;have hnc17:=NB250_249.out;have hcz18_0:w16.cell? ⟨gb249,0,none⟩=some (.string a0_0):=(δl BK249.out 0).trans rfl;have hcz18_1:w16.cell? ⟨gb249,1,none⟩=some (.string a0_1):=(δl BK249.out 1).trans rfl;have hfz18_0:=δm BK249.out 0;have hfz18_1:=δm BK249.out 1;have hcz19_0:w16.cell? ⟨gb250,0,none⟩=some (.string a1_0):=(δl BK250.out 0).trans rfl;have hcz19_1:w16.cell? ⟨gb250,1,none⟩=some (.string a1_1):=(δl BK250.out 1).trans rfl;have hfz19_0:=δm BK250.out 0;have hfz19_1:=δm BK250.out 1))
  go_ret
  exact ⟨by rfl,by repeat ((with_reducible exact HB.out))⟩


open Go.Proofs.YtggemblkhckbpaaGreatDoorW.PrintWords renaming below_drew1 → δj, below_step → δr
set_option maxHeartbeats 8000000
set_option maxRecDepth 100000

/-! ### laws_eqPairS: function 22 -/
def laws_eqPairS.l0:Nat→List (S61)→List (S61)→Int→Option (Bool)
 | 0,_,_,_=>none
 | k+1,x0,x1,x5=>if x5<(x0.length:Int) then (if 0≤x5 then (if x5<(x1.length:Int) then ((laws_eqPair.f ((rd_T61 x0 x5).f0) ((rd_T61 x0 x5).f1) ((rd_T61 x1 x5).f0) ((rd_T61 x1 x5).f1)).bind fun t253=>(if t253=τ then (laws_eqPairS.l0 k x0 x1 (ζm (x5+1))) else (some φ))) else (none)) else (none)) else (some τ)
def laws_eqPairS.f (k:Nat) (l0:List (S61)) (l1:List (S61)):Option (Bool):=if (l0.length:Int)=(l1.length:Int) then (laws_eqPairS.l0 k l0 l1 0) else (some φ)
def laws_eqPairS.T6:Bool × List (List Nat × List Nat):=(τ,[([],[]),([],[]),([0,1],[0,1]),([2],[2]),([],[]),([],[]),([4,5],[4,5]),([6],[6]),([3,7],[3,7]),([8],[8])])
def laws_eqPairS.B6:List Nat:=[0,0,3,7,0,0,48,112,255,511]
theorem laws_eqPairS.tab6:rtab .any (opsOf Tryz.f22 6)=laws_eqPairS.T6:=by kernel_rfl
theorem laws_eqPairS.bits6:waitsOk laws_eqPairS.T6.2 laws_eqPairS.B6=τ:=by kernel_rfl
theorem laws_eqPairS.calls (k:Nat) (A0:Option Addr) (c0:Nat) (l0:List (S61)) (A1:Option Addr) (c1:Nat) (l1:List (S61)) (r:Bool) (w:World) (hr0:Kd.C k61 w A0 l0.length l0) (hc0:l0.length≤c0) (hr1:Kd.C k61 w A1 l1.length l1) (hc1:l1.length≤c1) (h:laws_eqPairS.f k l0 l1=some r) :
  Calls Tryz.prog 22 #[.slice A0 l0.length c0,.slice A1 l1.length c1] w fun e w'=>e = .returned (.bool r)∧Below w.heap.size w w':=by
 have hu61:=Tryz.underlying61
 have HR0:=ζa hr0
 have HC0:=ζa hc0
 clear hr0 hc0
 have HR1:=ζa hr1
 have HC1:=ζa hc1
 clear hr1 hc1
 have HB:=ζa (Below.refl w.heap.size w)
 have H:(if (l0.length:Int)=(l1.length:Int) then (laws_eqPairS.l0 k l0 l1 0) else (some φ))=some r:=h
 clear h
 by_cases c3:(l0.length:Int)=(l1.length:Int)
 ·
  rw [if_pos c3] at H
  have c3b0:=beq_iff_eq.mpr c3
  have c3b1:=bne_eq_false_iff_eq.mpr c3
  have c3b2:(l0.length == l1.length)=τ:=by (simp at c3 ⊢;omega)
  clear c3
  have H':=ζa H
  clear H
  go_enter Tryz.func22,Tryz.ntmps22
  go_wp2
  go_loopg [5] k (fun kq v5 w' => ∃ (x5_1:Int),v5 = .int .i64 x5_1∧Aside0 (laws_eqPairS.l0 kq l0 l1 x5_1=some r)∧Aside0 (kq≤k)∧Aside0 (Below w.heap.size w w'))
  case atStart=>exact ⟨(0),(by rfl),H',⟨Nat.le_refl _⟩,⟨by repeat ((with_reducible exact HB.out))⟩⟩
  case round =>
   clear H'
   try clear c1
   try clear c2
   try clear p2
   try clear c3
   try clear c3b0
   try clear c3b1
   try clear c3b2
   obtain ⟨x5_1,rfl,HA,HK1,HB⟩:=hrel
   cases gk with
   | zero=>exact absurd HA.out (by simp [laws_eqPairS.l0])
   | succ k1 =>
    have H:=HA.out
    clear HA
    simp only [laws_eqPairS.l0] at H
    by_cases c4:x5_1<(l0.length:Int)
    ·
     rw [if_pos c4] at H
     have c4b0:=decide_eq_true c4
     clear c4
     by_cases c5:0≤x5_1
     ·
      rw [if_pos c5] at H
      have c5b0:=decide_eq_true c5
      clear c5
      by_cases c6:x5_1<(l1.length:Int)
      ·
       rw [if_pos c6] at H
       have c6b0:=decide_eq_true c6
       clear c6
       obtain ⟨t253,A7,H⟩:=bsm H
       by_cases c8:t253=τ
       ·
        subst c8
        rw [ifT] at H
        have H':=ζa H
        clear H
        try go_wp2
        replace HB:=ζa (δj HB.out)
        have p251:0≤(x5_1:Int):=of_decide_eq_true (by (with_reducible assumption))
        have q251:x5_1<(l0.length:Int):=of_decide_eq_true (by (with_reducible assumption))
        obtain ⟨ad251,e251,hx251_0,hx251_1⟩:=at_T61 HR0.out x5_1 p251 q251
        have hw251_1:=hx251_1
        have hw251_0:=hx251_0
        cases e251
        replace hx251_0:=(HB.out.cell (World.block_lt_of_cell? w _ hx251_0)).trans hx251_0
        replace hx251_1:=(HB.out.cell (World.block_lt_of_cell? w _ hx251_1)).trans hx251_1
        replace p251:=eq_true p251
        replace q251:=eq_true q251
        have p252:0≤(x5_1:Int):=of_decide_eq_true (by (with_reducible assumption))
        have q252:x5_1<(l1.length:Int):=of_decide_eq_true (by (with_reducible assumption))
        obtain ⟨ad252,e252,hx252_0,hx252_1⟩:=at_T61 HR1.out x5_1 p252 q252
        have hw252_1:=hx252_1
        have hw252_0:=hx252_0
        cases e252
        replace hx252_0:=(HB.out.cell (World.block_lt_of_cell? w _ hx252_0)).trans hx252_0
        replace hx252_1:=(HB.out.cell (World.block_lt_of_cell? w _ hx252_1)).trans hx252_1
        replace p252:=eq_true p252
        replace q252:=eq_true q252
        refine sta 10 (fun w'=>w'.cell? (ad251.add ((x5_1).toNat * 2))=some (.string ((rd_T61 l0 x5_1).f0))∧w'.cell? ⟨(ad251.add ((x5_1).toNat * 2)).block,(ad251.add ((x5_1).toNat * 2)).off+1,none⟩=some (.string ((rd_T61 l0 x5_1).f1))∧w'.cell? (ad252.add ((x5_1).toNat * 2))=some (.string ((rd_T61 l1 x5_1).f0))∧w'.cell? ⟨(ad252.add ((x5_1).toNat * 2)).block,(ad252.add ((x5_1).toNat * 2)).off+1,none⟩=some (.string ((rd_T61 l1 x5_1).f1))) [] laws_eqPairS.tab6 laws_eqPairS.bits6 ⟨((HB.out.cell (World.block_lt_of_cell? w _ hw251_0)).trans hw251_0),((HB.out.cell (World.block_lt_of_cell? w _ hw251_1)).trans hw251_1),((HB.out.cell (World.block_lt_of_cell? w _ hw252_0)).trans hw252_0),((HB.out.cell (World.block_lt_of_cell? w _ hw252_1)).trans hw252_1)⟩ (fun hHeld HT_ HW_ => ?_)
        generalize wr.drew=w9 at HB hx251_0 hx251_1 hx252_0 hx252_1 hHeld ⊢
        refine pu 0 17 ?_
        refine pu 1 18 ?_
        refine pu 2 19 ?_
        refine pu 4 21 ?_
        refine pu 5 22 ?_
        refine pu 6 23 ?_
        refine ta 3 20 ?_
        refine ta 7 24 ?_
        refine on 8 25 (fun K hK => ?_)
        refine gs Tryz.func47 #[.agg #[.string ((rd_T61 l0 x5_1).f0),.string ((rd_T61 l0 x5_1).f1)],.agg #[.string ((rd_T61 l1 x5_1).f0),.string ((rd_T61 l1 x5_1).f1)]] ?_
        with_reducible refine (laws_eqPair.calls ((rd_T61 l0 x5_1).f0) ((rd_T61 l0 x5_1).f1) ((rd_T61 l1 x5_1).f0) ((rd_T61 l1 x5_1).f1) τ _ A7.out).mono ?_
        rintro e w10 ⟨rfl,hb⟩
        refine ⟨_,rfl,?_⟩
        replace HB:=ζa (δr (by exact HB.out) hb)
        (try clear hb)
        (try clear hb2)
        (try clear hk)
        (try clear hi)
        refine hK.out _ _ ⟨((HB.out.cell (World.block_lt_of_cell? w _ hw251_0)).trans hw251_0),((HB.out.cell (World.block_lt_of_cell? w _ hw251_1)).trans hw251_1),((HB.out.cell (World.block_lt_of_cell? w _ hw252_0)).trans hw252_0),((HB.out.cell (World.block_lt_of_cell? w _ hw252_1)).trans hw252_1)⟩ (fun hHeld => ?_)
        clear hK K
        refine nm 25 ?_
        refine pu 9 26 ?_
        refine done_ (done_of HT_.out (by kernel_rfl)) ?_
        try go_wp2
        go_roundg k1
        case measure=>have:=HK1.out;omega
        case rel=>exact ⟨(ζm (x5_1+1)),(by rfl),H',⟨by have:=HK1.out;omega⟩,⟨by repeat ((with_reducible exact HB.out))⟩⟩
       ·
        replace c8:=Bool.eq_false_iff.mpr c8
        subst c8
        rw [ifF] at H
        obtain rfl:=Option.some.inj H
        try go_wp2
        replace HB:=ζa (δj HB.out)
        have p251:0≤(x5_1:Int):=of_decide_eq_true (by (with_reducible assumption))
        have q251:x5_1<(l0.length:Int):=of_decide_eq_true (by (with_reducible assumption))
        obtain ⟨ad251,e251,hx251_0,hx251_1⟩:=at_T61 HR0.out x5_1 p251 q251
        have hw251_1:=hx251_1
        have hw251_0:=hx251_0
        cases e251
        replace hx251_0:=(HB.out.cell (World.block_lt_of_cell? w _ hx251_0)).trans hx251_0
        replace hx251_1:=(HB.out.cell (World.block_lt_of_cell? w _ hx251_1)).trans hx251_1
        replace p251:=eq_true p251
        replace q251:=eq_true q251
        have p252:0≤(x5_1:Int):=of_decide_eq_true (by (with_reducible assumption))
        have q252:x5_1<(l1.length:Int):=of_decide_eq_true (by (with_reducible assumption))
        obtain ⟨ad252,e252,hx252_0,hx252_1⟩:=at_T61 HR1.out x5_1 p252 q252
        have hw252_1:=hx252_1
        have hw252_0:=hx252_0
        cases e252
        replace hx252_0:=(HB.out.cell (World.block_lt_of_cell? w _ hx252_0)).trans hx252_0
        replace hx252_1:=(HB.out.cell (World.block_lt_of_cell? w _ hx252_1)).trans hx252_1
        replace p252:=eq_true p252
        replace q252:=eq_true q252
        refine sta 10 (fun w'=>w'.cell? (ad251.add ((x5_1).toNat * 2))=some (.string ((rd_T61 l0 x5_1).f0))∧w'.cell? ⟨(ad251.add ((x5_1).toNat * 2)).block,(ad251.add ((x5_1).toNat * 2)).off+1,none⟩=some (.string ((rd_T61 l0 x5_1).f1))∧w'.cell? (ad252.add ((x5_1).toNat * 2))=some (.string ((rd_T61 l1 x5_1).f0))∧w'.cell? ⟨(ad252.add ((x5_1).toNat * 2)).block,(ad252.add ((x5_1).toNat * 2)).off+1,none⟩=some (.string ((rd_T61 l1 x5_1).f1))) [] laws_eqPairS.tab6 laws_eqPairS.bits6 ⟨((HB.out.cell (World.block_lt_of_cell? w _ hw251_0)).trans hw251_0),((HB.out.cell (World.block_lt_of_cell? w _ hw251_1)).trans hw251_1),((HB.out.cell (World.block_lt_of_cell? w _ hw252_0)).trans hw252_0),((HB.out.cell (World.block_lt_of_cell? w _ hw252_1)).trans hw252_1)⟩ (fun hHeld HT_ HW_ => ?_)
        generalize wr.drew=w11 at HB hx251_0 hx251_1 hx252_0 hx252_1 hHeld ⊢
        refine pu 0 17 ?_
        refine pu 1 18 ?_
        refine pu 2 19 ?_
        refine pu 4 21 ?_
        refine pu 5 22 ?_
        refine pu 6 23 ?_
        refine ta 3 20 ?_
        refine ta 7 24 ?_
        refine on 8 25 (fun K hK => ?_)
        refine gs Tryz.func47 #[.agg #[.string ((rd_T61 l0 x5_1).f0),.string ((rd_T61 l0 x5_1).f1)],.agg #[.string ((rd_T61 l1 x5_1).f0),.string ((rd_T61 l1 x5_1).f1)]] ?_
        with_reducible refine (laws_eqPair.calls ((rd_T61 l0 x5_1).f0) ((rd_T61 l0 x5_1).f1) ((rd_T61 l1 x5_1).f0) ((rd_T61 l1 x5_1).f1) φ _ A7.out).mono ?_
        rintro e w12 ⟨rfl,hb⟩
        refine ⟨_,rfl,?_⟩
        replace HB:=ζa (δr (by exact HB.out) hb)
        (try clear hb)
        (try clear hb2)
        (try clear hk)
        (try clear hi)
        refine hK.out _ _ ⟨((HB.out.cell (World.block_lt_of_cell? w _ hw251_0)).trans hw251_0),((HB.out.cell (World.block_lt_of_cell? w _ hw251_1)).trans hw251_1),((HB.out.cell (World.block_lt_of_cell? w _ hw252_0)).trans hw252_0),((HB.out.cell (World.block_lt_of_cell? w _ hw252_1)).trans hw252_1)⟩ (fun hHeld => ?_)
        clear hK K
        refine nm 25 ?_
        refine pu 9 26 ?_
        refine done_ (done_of HT_.out (by kernel_rfl)) ?_
        try go_wp2
        go_ret
        exact ⟨by rfl,by repeat ((with_reducible exact HB.out))⟩
      ·
       rw [if_neg c6] at H
       exact absurd H (by simp)
     ·
      rw [if_neg c5] at H
      exact absurd H (by simp)
    ·
     rw [if_neg c4] at H
     have c4b0:=decide_eq_false c4
     clear c4
     obtain rfl:=Option.some.inj H
     go_wp2
     go_ret
     exact ⟨by rfl,by repeat ((with_reducible exact HB.out))⟩
 ·
  rw [if_neg c3] at H
  have c3b0:=beq_eq_false_iff_ne.mpr c3
  have c3b1:=bne_iff_ne.mpr c3
  have c3b2:(l0.length == l1.length)=φ:=by (simp at c3 ⊢;omega)
  obtain rfl:=Option.some.inj H
  go_enter Tryz.func22,Tryz.ntmps22
  go_wp2
  go_ret
  exact ⟨by rfl,by repeat ((with_reducible exact HB.out))⟩


set_option maxHeartbeats 8000000
set_option maxRecDepth 100000

/-! ### laws_eqPacket: function 23 -/
def laws_eqPacket.f (a0_0:Int) (a0_1:Int) (a0_2:ByteArray) (a1_0:Int) (a1_1:Int) (a1_2:ByteArray):Option (Bool):=if a0_0=a1_0 then (if a0_1=a1_1 then (if a0_2.toList=a1_2.toList then (some τ) else (some φ)) else (some φ)) else (some φ)
theorem laws_eqPacket.calls (a0_0:Int) (a0_1:Int) (a0_2:ByteArray) (a1_0:Int) (a1_1:Int) (a1_2:ByteArray) (r:Bool) (w:World) (h:laws_eqPacket.f a0_0 a0_1 a0_2 a1_0 a1_1 a1_2=some r) :
  Calls Tryz.prog 23 #[.agg #[.int .i64 a0_0,.int .i64 a0_1,.string a0_2],.agg #[.int .i64 a1_0,.int .i64 a1_1,.string a1_2]] w fun e w'=>e = .returned (.bool r)∧Below w.heap.size w w':=by
 have hu36:=Tryz.underlying36
 have HB:=ζa (Below.refl w.heap.size w)
 have H:(if a0_0=a1_0 then (if a0_1=a1_1 then (if a0_2.toList=a1_2.toList then (some τ) else (some φ)) else (some φ)) else (some φ))=some r:=h
 clear h
 by_cases c3:a0_0=a1_0
 ·
  rw [if_pos c3] at H
  have c3b0:=beq_iff_eq.mpr c3
  have c3b1:=bne_eq_false_iff_eq.mpr c3
  clear c3
  by_cases c4:a0_1=a1_1
  ·
   rw [if_pos c4] at H
   have c4b0:=beq_iff_eq.mpr c4
   have c4b1:=bne_eq_false_iff_eq.mpr c4
   clear c4
   by_cases c5:a0_2.toList=a1_2.toList
   ·
    rw [if_pos c5] at H
    have c5b0:=beq_iff_eq.mpr c5
    have c5b1:=bne_eq_false_iff_eq.mpr c5
    clear c5
    obtain rfl:=Option.some.inj H
    go_enter Tryz.func23,Tryz.ntmps23
    go_wp2_with (first|((with_reducible refine δx (N:=2) rfl ?_);refine bev 2 #[.int .i64 a0_0,.int .i64 a0_1,.string a0_2] 36 ?_;intro gb254 hg w6 hbox hb;have BK254:=ζa (hbox);have GW254:=ζa (gbw hg (by exact HB.out));have GE254:=ζa (gbw hg (by exact HB.out));replace HB:=ζa (δr (by exact HB.out) hb);clear hb hbox hg)|((with_reducible refine δx (N:=3) rfl ?_);refine bev 3 #[.int .i64 a1_0,.int .i64 a1_1,.string a1_2] 36 ?_;intro gb255 hg w7 hbox hb;have BK255:=ζa (hbox);have GW255:=ζa (gbw hg (by exact HB.out));have GE255:=ζa (gbw hg (by exact HB.out));replace HB:=ζa (δr (by exact HB.out) hb);have NB254_255:=ζa ((by rw [hg];exact Nat.ne_of_lt (blk_lt (g:=gb254) (o:=.cells #[.int .i64 a0_0,.int .i64 a0_1,.string a0_2] 36 (0,0)) (by exact BK254.out)):gb254≠gb255));have NB255_254:=ζa ((by rw [hg];exact Nat.ne_of_gt (blk_lt (g:=gb254) (o:=.cells #[.int .i64 a0_0,.int .i64 a0_1,.string a0_2] 36 (0,0)) (by exact BK254.out)):gb255≠gb254));replace BK254:=ζa (blk_below (g:=gb254) (o:=.cells #[.int .i64 a0_0,.int .i64 a0_1,.string a0_2] 36 (0,0)) (by exact BK254.out) hb);clear hb hbox hg;have hnb8:=NB254_255.out;have hnc8:=NB255_254.out;have hcz9_0:w7.cell? ⟨gb254,0,none⟩=some (.int .i64 a0_0):=(δl BK254.out 0).trans rfl;have hcz9_1:w7.cell? ⟨gb254,1,none⟩=some (.int .i64 a0_1):=(δl BK254.out 1).trans rfl;have hcz9_2:w7.cell? ⟨gb254,2,none⟩=some (.string a0_2):=(δl BK254.out 2).trans rfl;have hfz9_0:=δm BK254.out 0;have hfz9_1:=δm BK254.out 1;have hfz9_2:=δm BK254.out 2;have hcz10_0:w7.cell? ⟨gb255,0,none⟩=some (.int .i64 a1_0):=(δl BK255.out 0).trans rfl;have hcz10_1:w7.cell? ⟨gb255,1,none⟩=some (.int .i64 a1_1):=(δl BK255.out 1).trans rfl;have hcz10_2:w7.cell? ⟨gb255,2,none⟩=some (.string a1_2):=(δl BK255.out 2).trans rfl;have hfz10_0:=δm BK255.out 0;have hfz10_1:=δm BK255.out 1;have hfz10_2:=δm BK255.out 2))
    go_ret
    exact ⟨by rfl,by repeat ((with_reducible exact HB.out))⟩
   ·
    rw [if_neg c5] at H
    have c5b0:=beq_eq_false_iff_ne.mpr c5
    have c5b1:=bne_iff_ne.mpr c5
    obtain rfl:=Option.some.inj H
    go_enter Tryz.func23,Tryz.ntmps23
    go_wp2_with (first|((with_reducible refine δx (N:=2) rfl ?_);refine bev 2 #[.int .i64 a0_0,.int .i64 a0_1,.string a0_2] 36 ?_;intro gb254 hg w11 hbox hb;have BK254:=ζa (hbox);have GW254:=ζa (gbw hg (by exact HB.out));have GE254:=ζa (gbw hg (by exact HB.out));replace HB:=ζa (δr (by exact HB.out) hb);clear hb hbox hg)|((with_reducible refine δx (N:=3) rfl ?_);refine bev 3 #[.int .i64 a1_0,.int .i64 a1_1,.string a1_2] 36 ?_;intro gb255 hg w12 hbox hb;have BK255:=ζa (hbox);have GW255:=ζa (gbw hg (by exact HB.out));have GE255:=ζa (gbw hg (by exact HB.out));replace HB:=ζa (δr (by exact HB.out) hb);have NB254_255:=ζa ((by rw [hg];exact Nat.ne_of_lt (blk_lt (g:=gb254) (o:=.cells #[.int .i64 a0_0,.int .i64 a0_1,.string a0_2] 36 (0,0)) (by exact BK254.out)):gb254≠gb255));have NB255_254:=ζa ((by rw [hg];exact Nat.ne_of_gt (blk_lt (g:=gb254) (o:=.cells #[.int .i64 a0_0,.int .i64 a0_1,.string a0_2] 36 (0,0)) (by exact BK254.out)):gb255≠gb254));replace BK254:=ζa (blk_below (g:=gb254) (o:=.cells #[.int .i64 a0_0,.int .i64 a0_1,.string a0_2] 36 (0,0)) (by exact BK254.out) hb);clear hb hbox hg;have hnb13:=NB254_255.out;have hnc13:=NB255_254.out;have hcz14_0:w12.cell? ⟨gb254,0,none⟩=some (.int .i64 a0_0):=(δl BK254.out 0).trans rfl;have hcz14_1:w12.cell? ⟨gb254,1,none⟩=some (.int .i64 a0_1):=(δl BK254.out 1).trans rfl;have hcz14_2:w12.cell? ⟨gb254,2,none⟩=some (.string a0_2):=(δl BK254.out 2).trans rfl;have hfz14_0:=δm BK254.out 0;have hfz14_1:=δm BK254.out 1;have hfz14_2:=δm BK254.out 2;have hcz15_0:w12.cell? ⟨gb255,0,none⟩=some (.int .i64 a1_0):=(δl BK255.out 0).trans rfl;have hcz15_1:w12.cell? ⟨gb255,1,none⟩=some (.int .i64 a1_1):=(δl BK255.out 1).trans rfl;have hcz15_2:w12.cell? ⟨gb255,2,none⟩=some (.string a1_2):=(δl BK255.out 2).trans rfl;have hfz15_0:=δm BK255.out 0;have hfz15_1:=δm BK255.out 1;have hfz15_2:=δm BK255.out 2))
    go_ret
    exact ⟨by rfl,by repeat ((with_reducible exact HB.out))⟩
  ·
   rw [if_neg c4] at H
   have c4b0:=beq_eq_false_iff_ne.mpr c4
   have c4b1:=bne_iff_ne.mpr c4
   obtain rfl:=Option.some.inj H
   go_enter Tryz.func23,Tryz.ntmps23
   go_wp2_with (first|((with_reducible refine δx (N:=2) rfl ?_);refine bev 2 #[.int .i64 a0_0,.int .i64 a0_1,.string a0_2] 36 ?_;intro gb254 hg w16 hbox hb;have BK254:=ζa (hbox);have GW254:=ζa (gbw hg (by exact HB.out));have GE254:=ζa (gbw hg (by exact HB.out));replace HB:=ζa (δr (by exact HB.out) hb);clear hb hbox hg)|((with_reducible refine δx (N:=3) rfl ?_);refine bev 3 #[.int .i64 a1_0,.int .i64 a1_1,.string a1_2] 36 ?_;intro gb255 hg w17 hbox hb;have BK255:=ζa (hbox);have GW255:=ζa (gbw hg (by exact HB.out));have GE255:=ζa (gbw hg (by exact HB.out));replace HB:=ζa (δr (by exact HB.out) hb);have NB254_255:=ζa ((by rw [hg];exact Nat.ne_of_lt (blk_lt (g:=gb254) (o:=.cells #[.int .i64 a0_0,.int .i64 a0_1,.string a0_2] 36 (0,0)) (by exact BK254.out)):gb254≠gb255));have NB255_254:=ζa ((by rw [hg];exact Nat.ne_of_gt (blk_lt (g:=gb254) (o:=.cells #[.int .i64 a0_0,.int .i64 a0_1,.string a0_2] 36 (0,0)) (by exact BK254.out)):gb255≠gb254));replace BK254:=ζa (blk_below (g:=gb254) (o:=.cells #[.int .i64 a0_0,.int .i64 a0_1,.string a0_2] 36 (0,0)) (by exact BK254.out) hb);clear hb hbox hg;have hnb18:=NB254_255.out;have hnc18:=NB255_254.out;have hcz19_0:w17.cell? ⟨gb254,0,none⟩=some (.int .i64 a0_0):=(δl BK254.out 0).trans rfl;have hcz19_1:w17.cell? ⟨gb254,1,none⟩=some (.int .i64 a0_1):=(δl BK254.out 1).trans rfl;have hcz19_2:w17.cell? ⟨gb254,2,none⟩=some (.string a0_2):=(δl BK254.out 2).trans rfl;have hfz19_0:=δm BK254.out 0;have hfz19_1:=δm BK254.out 1;have hfz19_2:=δm BK254.out 2;have hcz20_0:w17.cell? ⟨gb255,0,none⟩=some (.int .i64 a1_0):=(δl BK255.out 0).trans rfl;have hcz20_1:w17.cell? ⟨gb255,1,none⟩=some (.int .i64 a1_1):=(δl BK255.out 1).trans rfl;have hcz20_2:w17.cell? ⟨gb255,2,none⟩=some (.string a1_2):=(δl BK255.out 2).trans rfl;have hfz20_0:=δm BK255.out 0;have hfz20_1:=δm BK255.out 1;have hfz20_2:=δm BK255.out 2))
   go_ret
   exact ⟨by rfl,by repeat ((with_reducible exact HB.out))⟩
 ·
  rw [if_neg c3] at H
  have c3b0:=beq_eq_false_iff_ne.mpr c3
  have c3b1:=bne_iff_ne.mpr c3
  obtain rfl:=Option.some.inj H
  go_enter Tryz.func23,Tryz.ntmps23
  go_wp2_with (first|((with_reducible refine δx (N:=2) rfl ?_);refine bev 2 #[.int .i64 a0_0,.int .i64 a0_1,.string a0_2] 36 ?_;intro gb254 hg w21 hbox hb;have BK254:=ζa (hbox);have GW254:=ζa (gbw hg (by exact HB.out));have GE254:=ζa (gbw hg (by exact HB.out));replace HB:=ζa (δr (by exact HB.out) hb);clear hb hbox hg)|((with_reducible refine δx (N:=3) rfl ?_);refine bev 3 #[.int .i64 a1_0,.int .i64 a1_1,.string a1_2] 36 ?_;intro gb255 hg w22 hbox hb;have BK255:=ζa (hbox);have GW255:=ζa (gbw hg (by exact HB.out));have GE255:=ζa (gbw hg (by exact HB.out));replace HB:=ζa (δr (by exact HB.out) hb);have NB254_255:=ζa ((by rw [hg];exact Nat.ne_of_lt (blk_lt (g:=gb254) (o:=.cells #[.int .i64 a0_0,.int .i64 a0_1,.string a0_2] 36 (0,0)) (by exact BK254.out)):gb254≠gb255));have NB255_254:=ζa ((by rw [hg];exact Nat.ne_of_gt (blk_lt (g:=gb254) (o:=.cells #[.int .i64 a0_0,.int .i64 a0_1,.string a0_2] 36 (0,0)) (by exact BK254.out)):gb255≠gb254));replace BK254:=ζa (blk_below (g:=gb254) (o:=.cells #[.int .i64 a0_0,.int .i64 a0_1,.string a0_2] 36 (0,0)) (by exact BK254.out) hb);clear hb hbox hg;have hnb23:=NB254_255.out;have hnc23:=NB255_254.out;have hcz24_0:w22.cell? ⟨gb254,0,none⟩=some (.int .i64 a0_0):=(δl BK254.out 0).trans rfl;have hcz24_1:w22.cell? ⟨gb254,1,none⟩=some (.int .i64 a0_1):=(δl BK254.out 1).trans rfl;have hcz24_2:w22.cell? ⟨gb254,2,none⟩=some (.string a0_2):=(δl BK254.out 2).trans rfl;have hfz24_0:=δm BK254.out 0;have hfz24_1:=δm BK254.out 1;have hfz24_2:=δm BK254.out 2;have hcz25_0:w22.cell? ⟨gb255,0,none⟩=some (.int .i64 a1_0):=(δl BK255.out 0).trans rfl;have hcz25_1:w22.cell? ⟨gb255,1,none⟩=some (.int .i64 a1_1):=(δl BK255.out 1).trans rfl;have hcz25_2:w22.cell? ⟨gb255,2,none⟩=some (.string a1_2):=(δl BK255.out 2).trans rfl;have hfz25_0:=δm BK255.out 0;have hfz25_1:=δm BK255.out 1;have hfz25_2:=δm BK255.out 2))
  go_ret
  exact ⟨by rfl,by repeat ((with_reducible exact HB.out))⟩


set_option maxHeartbeats 8000000
set_option maxRecDepth 100000

/-! ### laws_markText: function 48 -/
def laws_markText.l0:Nat→Int→ByteArray→Option (ByteArray)
 | 0,_,_=>none
 | k+1,x0,x3=>if x0 > 0 then ((some (([(ζm (48+(Int.tmod x0 10))) % 256]:List Int):List Int)).bind fun y256=>(if (strOfNums y256).size+x3.size≤9223372036854775807 then (laws_markText.l0 k (ζm (Int.tdiv x0 10)) ((strOfNums y256) ++ x3)) else (none))) else (if 1+x3.size≤9223372036854775807 then (some ((⟨#[109]⟩:ByteArray) ++ x3)) else (none))
def laws_markText.f (k:Nat) (a0:Int):Option (ByteArray):=if a0≤0 then (some (⟨#[109,48]⟩:ByteArray)) else (laws_markText.l0 k a0 (⟨#[]⟩:ByteArray))
theorem laws_markText.calls (k:Nat) (a0:Int) (r:ByteArray) (w:World) (h:laws_markText.f k a0=some r) :
  Calls Tryz.prog 48 #[.int .i64 a0] w fun e w'=>e = .returned (.string r)∧Below w.heap.size w w':=by
 have HB:=ζa (Below.refl w.heap.size w)
 have H:(if a0≤0 then (some (⟨#[109,48]⟩:ByteArray)) else (laws_markText.l0 k a0 (⟨#[]⟩:ByteArray)))=some r:=h
 clear h
 by_cases c2:a0≤0
 ·
  rw [if_pos c2] at H
  have c2b0:=decide_eq_true c2
  clear c2
  obtain rfl:=Option.some.inj H
  go_enter Tryz.func48,Tryz.ntmps48
  go_wp2
  go_ret
  exact ⟨by rfl,by repeat ((with_reducible exact HB.out))⟩
 ·
  rw [if_neg c2] at H
  have c2b0:=decide_eq_false c2
  clear c2
  have H':=ζa H
  clear H
  go_enter Tryz.func48,Tryz.ntmps48
  go_wp2
  go_loopg [0,3] k (fun kq v0 v3 w' => ∃ (x0_1:Int) (x3_1:ByteArray),v0 = .int .i64 x0_1∧v3 = .string x3_1∧Aside0 (laws_markText.l0 kq x0_1 x3_1=some r)∧Aside0 (kq≤k)∧Aside0 (Below w.heap.size w w'))
  case atStart=>exact ⟨(a0),((⟨#[]⟩:ByteArray)),(by rfl),(by rfl),H',⟨Nat.le_refl _⟩,⟨by repeat ((with_reducible exact HB.out))⟩⟩
  case round =>
   clear H'
   try clear c2
   try clear c2b0
   try clear p2
   obtain ⟨x0_1,x3_1,rfl,rfl,HA,HK1,HB⟩:=hrel
   cases gk with
   | zero=>exact absurd HA.out (by simp [laws_markText.l0])
   | succ k1 =>
    have H:=HA.out
    clear HA
    simp only [laws_markText.l0] at H
    by_cases c3:x0_1 > 0
    ·
     rw [if_pos c3] at H
     have c3b0:decide (0<x0_1)=τ:=decide_eq_true c3
     clear c3
     obtain ⟨y256,hy256⟩ : ∃ y_:List Int,y_=(([(ζm (48+(Int.tmod x0_1 10))) % 256]:List Int)):=⟨_,rfl⟩
     replace H:(if (strOfNums y256).size+x3_1.size≤9223372036854775807 then (laws_markText.l0 k1 (ζm (Int.tdiv x0_1 10)) ((strOfNums y256) ++ x3_1)) else (none))=some r:=by (have H2_:=(Option.bind_some _ _).symm.trans H;rw [hy256];with_reducible exact H2_)
     have Ny256:=ζa hy256
     clear hy256
     by_cases c4:(strOfNums y256).size+x3_1.size≤9223372036854775807
     ·
      rw [if_pos c4] at H
      have c4b0:=eq_true c4
      have c4b1:=decide_eq_true c4
      try have c4b2:(9223372036854775807<(strOfNums y256).size+x3_1.size)=False:=eq_false (Nat.not_lt.2 c4)
      have H':=ζa H
      clear H
      go_wp2_with (((with_reducible refine δx (N:=12) rfl ?_);refine Kd.R_lit (Kd.int .u8) _ 5 ?hg (N:=12) ?hd (xs:=([(ζm (48+(Int.tmod x0_1 10))) % 256]:List Int)) (inner:=[.int .u8 ((ζm (48+(Int.tmod x0_1 10))) % 256)]) (ok:=fun _=>True) (okp:=fun _=>True) ?hr ?hp (fun _ hk=>hk) trivial (Below.refl _ _) (Nat.le_refl _) (by simp) ?_;(case hd=>rfl);(case hg=>rfl);(case hr=>(go_simp;done));(case hp=>exact (Reps.one (show Kd.M (Kd.int .u8) _ _ _ ((ζm (48+(Int.tmod x0_1 10))) % 256) [.int .u8 ((ζm (48+(Int.tmod x0_1 10))) % 256)] from rfl) (Reps.none _ _)));intro v257 w5 ho6 hb hg_ hnew_;clear hg_ hnew_;(rw [← Ny256.out] at ho6);have HO258:=ζa (Kd.R_lower ho6 (δs (by exact HB.out)));replace HB:=ζa (δr (by exact HB.out) hb);clear hb ho6;have hcv7:=own_string (P:=Tryz.prog) Tryz.underlying22 Tryz.underlying5 Tryz.underlying9 (Kd.own_of_R HO258.out)))
      go_roundg k1
      case measure=>have:=HK1.out;omega
      case rel=>exact ⟨(ζm (Int.tdiv x0_1 10)),((strOfNums y256) ++ x3_1),(by rfl),(by rfl),H',⟨by have:=HK1.out;omega⟩,⟨by repeat ((with_reducible exact HB.out))⟩⟩
     ·
      rw [if_neg c4] at H
      exact absurd H (by simp)
    ·
     rw [if_neg c3] at H
     have c3b0:decide (0<x0_1)=φ:=decide_eq_false c3
     clear c3
     by_cases c8:1+x3_1.size≤9223372036854775807
     ·
      rw [if_pos c8] at H
      have c8b0:=eq_true c8
      have c8b1:=decide_eq_true c8
      try have c8b2:(9223372036854775807<1+x3_1.size)=False:=eq_false (Nat.not_lt.2 c8)
      obtain rfl:=Option.some.inj H
      go_wp2
      go_ret
      exact ⟨by rfl,by repeat ((with_reducible exact HB.out))⟩
     ·
      rw [if_neg c8] at H
      exact absurd H (by simp)


open Go.Proofs.YtggemblkhckbpaaGreatDoorW.PrintWords renaming gate_callee → δv, below_step → δr, below_set → δq
set_option maxHeartbeats 8000000
set_option maxRecDepth 100000

/-! ### laws_markPairS: function 24 -/
def laws_markPairS.l0:Nat→List (S61)→Int→Int→Option (Int × (List (S61)))
 | 0,_,_,_=>none
 | k+1,x0,x1,x5=>if x5<(x0.length:Int) then ((laws_markText.f k x1).bind fun t259=>(if 0≤x5 then ((some (x0.set (x5:Int).toNat (⟨t259,(rd_T61 x0 x5).f1⟩:S61):List (S61))).bind fun y260=>((laws_markText.f k (ζm (x1+1))).bind fun t261=>(laws_markPairS.l0 k (y260.set (x5:Int).toNat (⟨(rd_T61 y260 x5).f0,t261⟩:S61)) (ζm ((ζm (x1+1))+1)) (ζm (x5+1))))) else (none))) else (some (x1,x0))
def laws_markPairS.f (k:Nat) (l0:List (S61)) (a1:Int):Option (Int × (List (S61))):=laws_markPairS.l0 k l0 a1 0
theorem laws_markPairS.calls (k:Nat) (P0_:Nat→Prop) (u9000_:Value) (l0:List (S61)) (a1:Int) (r1:Int) (r2:List (S61)) (w0 w:World) (hB:Below w0.heap.size w0 w) (ho0:Kd.R k61 61 w w0.heap.size P0_ u9000_ l0) (h:laws_markPairS.f k l0 a1=some (r1,r2)) :
  Calls Tryz.prog 24 #[u9000_,.int .i64 a1] w fun e w'=>e = .returned (.int .i64 r1)∧Kd.R k61 61 w' w0.heap.size (fun k_=>(P0_ k_ ∨ w.heap.size≤k_)) u9000_ r2∧Below w0.heap.size w0 w'∧Kept w w' (fun k_=>P0_ k_):=by
 have HO0:=ζa (show Kd.R k61 61 w w0.heap.size (fun k_=>(P0_ k_ ∨ w.heap.size≤k_)) u9000_ l0 from Kd.R_mono ho0 (fun k_ hk=>(.inl hk)))
 have HK:=ζa (Kept.refl w (fun k_=>P0_ k_))
 have HW0:=ζa hB.size
 have HB:=ζa hB
 clear hB
 have H:(laws_markPairS.l0 k l0 a1 0)=some (r1,r2):=h
 clear h
 have H':=ζa H
 clear H
 go_enter Tryz.func24,Tryz.ntmps24
 go_wp2
 go_loopg [1,5] k (fun kq v1 v5 w' => ∃ (x0_1:List (S61)) (x1_1:Int) (x5_1:Int),v1 = .int .i64 x1_1∧v5 = .int .i64 x5_1∧Aside0 (laws_markPairS.l0 kq x0_1 x1_1 x5_1=some (r1,r2))∧Aside0 (kq≤k)∧Aside0 (Kd.R k61 61 w' w0.heap.size (fun k_=>(P0_ k_ ∨ w.heap.size≤k_)) u9000_ x0_1)∧Aside0 (Kept w w' (fun k_=>P0_ k_))∧Aside0 (Below w0.heap.size w0 w'))
 case atStart=>exact ⟨(l0),(a1),(0),(by rfl),(by rfl),H',⟨Nat.le_refl _⟩,⟨by exact HO0.out⟩,⟨by repeat ((with_reducible exact HK.out))⟩,⟨by repeat ((with_reducible exact HB.out))⟩⟩
 case round =>
  clear H'
  try clear c2
  try clear p2
  obtain ⟨x0_1,x1_1,x5_1,rfl,rfl,HA,HK1,HO_0,HK,HB⟩:=hrel
  cases gk with
  | zero=>exact absurd HA.out (by simp [laws_markPairS.l0])
  | succ k1 =>
   have H:=HA.out
   clear HA
   simp only [laws_markPairS.l0] at H
   by_cases c3:x5_1<(x0_1.length:Int)
   ·
    rw [if_pos c3] at H
    have c3b0:=decide_eq_true c3
    clear c3
    obtain ⟨t259,A4,H⟩:=bsm H
    by_cases c5:0≤x5_1
    ·
     rw [if_pos c5] at H
     have c5b0:=decide_eq_true c5
     clear c5
     obtain ⟨y260,hy260⟩ : ∃ y_:List (S61),y_=(x0_1.set (x5_1:Int).toNat (⟨t259,(rd_T61 x0_1 x5_1).f1⟩:S61)):=⟨_,rfl⟩
     replace H:((laws_markText.f k1 (ζm (x1_1+1))).bind fun t261=>(laws_markPairS.l0 k1 (y260.set (x5_1:Int).toNat (⟨(rd_T61 y260 x5_1).f0,t261⟩:S61)) (ζm ((ζm (x1_1+1))+1)) (ζm (x5_1+1))))=some (r1,r2):=by (have H2_:=(Option.bind_some _ _).symm.trans H;rw [hy260];with_reducible exact H2_)
     have Ny260:=ζa hy260
     clear hy260
     obtain ⟨t261,A7,H⟩:=bsm H
     obtain ⟨y262,hy262⟩ : ∃ y_:List (S61),y_=(y260.set (x5_1:Int).toNat (⟨(rd_T61 y260 x5_1).f0,t261⟩:S61)):=⟨_,rfl⟩
     replace H:(laws_markPairS.l0 k1 y262 (ζm ((ζm (x1_1+1))+1)) (ζm (x5_1+1)))=some (r1,r2):=by (rw [hy262];with_reducible exact H)
     have Ny262:=ζa hy262
     clear hy262
     have H':=ζa H
     clear H
     obtain ⟨Ao9,co9,eo9⟩:=Kd.R_slice HO_0.out
     subst eo9
     go_wp2_with (first|((with_reducible refine δv (f:=48) rfl ?_);refine gl 15 Tryz.func48 #[.int .i64 x1_1] ?_;(with_reducible refine (laws_markText.calls k1 x1_1 t259 _ A4.out).mono ?_);rintro e w10 ⟨rfl,hb⟩;refine ⟨_,rfl,?_⟩;replace HO_0:=ζa (ζh (by exact HO_0.out) hb);replace HK:=ζa (Kept.below (S:=(fun k_=>P0_ k_)) (by exact HK.out) hb);replace HB:=ζa (δr (by exact HB.out) hb);(try clear hb);(try clear hb2);(try clear hk);(try clear hi);have p6:0≤(x5_1:Int):=of_decide_eq_true (by (with_reducible assumption));have q6:(x5_1:Int)<((x0_1.length:Int):Int):=of_decide_eq_true (by (with_reducible assumption));obtain ⟨go6,co6,eo6,gb6,gl6,cl6,HG6⟩:=Kd.R_form HO_0.out (by omega);(cases eo6);have GB6:=ζa gb6;have GG6:=ζa HG6;clear gb6 gl6 HG6;have HMgo6:=ζa (show (P0_ go6 ∨ w.heap.size≤go6) from (HO_0.out.1 _ rfl));obtain ⟨ce6,hcl6,hM6,hcc6,hfr6⟩:=Kd.R_elem HO_0.out z61 (x5_1:Int) p6 q6;obtain rfl:=k61_openM hM6;have hx6_0:w10.cell? ⟨go6,(x5_1:Int).toNat * 2,none⟩=some (.string ((rd_T61 x0_1 x5_1).f0)):=hcc6 0 _ rfl;have hx6_1:w10.cell? ⟨go6,(x5_1:Int).toNat * 2+1,none⟩=some (.string ((rd_T61 x0_1 x5_1).f1)):=hcc6 1 _ rfl;have hf6_0:w10.frozen? ⟨go6,(x5_1:Int).toNat * 2,none⟩=φ:=hfr6 0;have hf6_1:w10.frozen? ⟨go6,(x5_1:Int).toNat * 2+1,none⟩=φ:=hfr6 1;clear hcl6 hcc6 hfr6 hM6;replace p6:=eq_true p6;replace q6:=eq_true q6;have HX11:=ζa (show Kd.R k61 61 w10 w0.heap.size (fun k_=>(P0_ k_ ∨ w.heap.size≤k_)) (.slice (some ⟨go6,0,none⟩) x0_1.length co9) x0_1 from (by exact HO_0.out));obtain ⟨ce11,hcl11,hM11,hcc11,hfr11⟩:=Kd.R_elem HX11.out z61 (x5_1:Int) (of_decide_eq_true (by (with_reducible assumption))) (by have h_:(x5_1:Int)<((x0_1.length:Int):Int):=of_decide_eq_true (by (with_reducible assumption));exact h_);obtain rfl:=k61_openM hM11;have HP11:=Kd.R_seg HX11.out (x5_1:Int) (of_decide_eq_true (by (with_reducible assumption))) (by have h_:(x5_1:Int)<((x0_1.length:Int):Int):=of_decide_eq_true (by (with_reducible assumption));exact h_) (seg:=[.string t259]) (j:=0) hcl11 hcc11 (show 1≤2 from by decide) (x':=(⟨t259,(rd_T61 x0_1 x5_1).f1⟩:S61)) (k61_mkM _ _ _ (⟨t259,(rd_T61 x0_1 x5_1).f1⟩:S61) ) (fun _ hk=>hk);have hx11_0:=hcc11 0 _ rfl;(try simp only [show (k61).sz=2 from rfl,Nat.mul_one,Nat.add_zero] at hx11_0);have hf11_0:=hfr11 0;(try simp only [show (k61).sz=2 from rfl,Nat.mul_one,Nat.add_zero] at hf11_0);clear hcl11 hcc11 hfr11 hM11)|((with_reducible refine gate_store (t:=9) (p:=17) rfl ?_);refine store_event (t:=9) (p:=17) (v:=?vo_w12) (w1:=(w10.setCell ⟨go6,(x5_1:Int).toNat * 2,none⟩ (.string t259))) ?hg ?ho ?hn ?hr ?_;(case ho=>rfl);(case hg=>rfl);(case hn=>rfl);(case hr=>(go_simp;done));intro w12 hw;have hg:w10.grownBy w12 (some go6):=(by rw [hw];exact HP11.2);have hp_:Kd.R k61 61 w12 w0.heap.size (fun k_=>(P0_ k_ ∨ w.heap.size≤k_)) (.slice (some ⟨go6,0,none⟩) x0_1.length co9) y260:=(by rw [hw,Ny260.out];exact HP11.1);clear HP11;replace HB:=ζa ((by rw [hw];exact δq (HB.out) GB6.out:Below w0.heap.size w0 w12));replace HK:=ζa (Kept.of_grown (S:=(fun k_=>P0_ k_)) hg (by exact HK.out) (fun k_ e_=>(HO_0.out.1 k_ e_)));replace HO_0:=ζa (hp_);clear hg hw hp_)|((with_reducible refine δv (f:=48) rfl ?_);refine gl 23 Tryz.func48 #[.int .i64 (ζm (x1_1+1))] ?_;(with_reducible refine (laws_markText.calls k1 (ζm (x1_1+1)) t261 _ A7.out).mono ?_);rintro e w13 ⟨rfl,hb⟩;refine ⟨_,rfl,?_⟩;replace HO_0:=ζa (ζh (by exact HO_0.out) hb);replace HK:=ζa (Kept.below (S:=(fun k_=>P0_ k_)) (by exact HK.out) hb);replace HB:=ζa (δr (by exact HB.out) hb);(try clear hb);(try clear hb2);(try clear hk);(try clear hi);have p8:0≤(x5_1:Int):=of_decide_eq_true (by (with_reducible assumption));have q8:(x5_1:Int)<((x0_1.length:Int):Int):=of_decide_eq_true (by (with_reducible assumption));obtain ⟨ce8,hcl8,hM8,hcc8,hfr8⟩:=Kd.R_elem HO_0.out z61 (x5_1:Int) p8 q8;obtain rfl:=k61_openM hM8;have hx8_0:w13.cell? ⟨go6,(x5_1:Int).toNat * 2,none⟩=some (.string ((rd_T61 y260 x5_1).f0)):=hcc8 0 _ rfl;have hx8_1:w13.cell? ⟨go6,(x5_1:Int).toNat * 2+1,none⟩=some (.string ((rd_T61 y260 x5_1).f1)):=hcc8 1 _ rfl;have hf8_0:w13.frozen? ⟨go6,(x5_1:Int).toNat * 2,none⟩=φ:=hfr8 0;have hf8_1:w13.frozen? ⟨go6,(x5_1:Int).toNat * 2+1,none⟩=φ:=hfr8 1;clear hcl8 hcc8 hfr8 hM8;replace p8:=eq_true p8;replace q8:=eq_true q8;have HX14:=ζa (show Kd.R k61 61 w13 w0.heap.size (fun k_=>(P0_ k_ ∨ w.heap.size≤k_)) (.slice (some ⟨go6,0,none⟩) x0_1.length co9) y260 from (by exact HO_0.out));obtain ⟨ce14,hcl14,hM14,hcc14,hfr14⟩:=Kd.R_elem HX14.out z61 (x5_1:Int) (of_decide_eq_true (by (with_reducible assumption))) (by have h_:(x5_1:Int)<((x0_1.length:Int):Int):=of_decide_eq_true (by (with_reducible assumption));exact h_);obtain rfl:=k61_openM hM14;have HP14:=Kd.R_seg HX14.out (x5_1:Int) (of_decide_eq_true (by (with_reducible assumption))) (by have h_:(x5_1:Int)<((x0_1.length:Int):Int):=of_decide_eq_true (by (with_reducible assumption));exact h_) (seg:=[.string t261]) (j:=1) hcl14 hcc14 (show 2≤2 from by decide) (x':=(⟨(rd_T61 y260 x5_1).f0,t261⟩:S61)) (k61_mkM _ _ _ (⟨(rd_T61 y260 x5_1).f0,t261⟩:S61) ) (fun _ hk=>hk);have hx14_1:=hcc14 1 _ rfl;(try simp only [show (k61).sz=2 from rfl,Nat.mul_one,Nat.add_zero] at hx14_1);have hf14_1:=hfr14 1;(try simp only [show (k61).sz=2 from rfl,Nat.mul_one,Nat.add_zero] at hf14_1);clear hcl14 hcc14 hfr14 hM14)|((with_reducible refine gate_store (t:=9) (p:=25) rfl ?_);refine store_event (t:=9) (p:=25) (v:=?vo_w15) (w1:=(w13.setCell ⟨go6,(x5_1:Int).toNat * 2+1,none⟩ (.string t261))) ?hg ?ho ?hn ?hr ?_;(case ho=>rfl);(case hg=>rfl);(case hn=>rfl);(case hr=>(go_simp;done));intro w15 hw;have hg:w13.grownBy w15 (some go6):=(by rw [hw];exact HP14.2);have hp_:Kd.R k61 61 w15 w0.heap.size (fun k_=>(P0_ k_ ∨ w.heap.size≤k_)) (.slice (some ⟨go6,0,none⟩) x0_1.length co9) y262:=(by rw [hw,Ny262.out];exact HP14.1);clear HP14;replace HB:=ζa ((by rw [hw];exact δq (HB.out) GB6.out:Below w0.heap.size w0 w15));replace HK:=ζa (Kept.of_grown (S:=(fun k_=>P0_ k_)) hg (by exact HK.out) (fun k_ e_=>(HO_0.out.1 k_ e_)));replace HO_0:=ζa (hp_);clear hg hw hp_))
     go_roundg k1
     case measure=>have:=HK1.out;omega
     case rel=>exact ⟨(y262),(ζm ((ζm (x1_1+1))+1)),(ζm (x5_1+1)),(by rfl),(by rfl),H',⟨by have:=HK1.out;omega⟩,⟨by exact HO_0.out⟩,⟨by repeat ((with_reducible exact HK.out))⟩,⟨by repeat ((with_reducible exact HB.out))⟩⟩
    ·
     rw [if_neg c5] at H
     exact absurd H (by simp)
   ·
    rw [if_neg c3] at H
    have c3b0:=decide_eq_false c3
    clear c3
    simp only [Option.some.injEq,Prod.mk.injEq] at H
    obtain ⟨rfl,rfl⟩:=H
    obtain ⟨Ao16,co16,eo16⟩:=Kd.R_slice HO_0.out
    subst eo16
    go_wp2
    go_ret
    exact ⟨by rfl,by exact HO_0.out,by repeat ((with_reducible exact HB.out)),by repeat ((with_reducible exact HK.out))⟩


open Bool renaming true → τ
set_option maxHeartbeats 8000000
set_option maxRecDepth 100000

/-! ### laws_heldPairS: function 25 -/
def laws_heldPairS.l0:Nat→List (S61)→Int→Int→Option (Int)
 | 0,_,_,_=>none
 | k+1,x0,x1,x5=>if x5<(x0.length:Int) then (if 0≤x5 then ((laws_markText.f k x1).bind fun t264=>(if ((rd_T61 x0 x5).f0).toList=t264.toList then ((laws_markText.f k (ζm (x1+1))).bind fun t266=>(if ((rd_T61 x0 x5).f1).toList=t266.toList then (laws_heldPairS.l0 k x0 (ζm ((ζm (x1+1))+1)) (ζm (x5+1))) else (some (-1)))) else (some (-1)))) else (none)) else (some x1)
def laws_heldPairS.f (k:Nat) (l0:List (S61)) (a1:Int):Option (Int):=laws_heldPairS.l0 k l0 a1 0
def laws_heldPairS.T4:Bool × List (List Nat × List Nat):=(τ,[([],[]),([],[]),([0,1],[0,1]),([2],[2]),([3],[3]),([],[]),([5],[5]),([4,6],[4,6])])
def laws_heldPairS.B4:List Nat:=[0,0,3,7,15,0,32,127]
theorem laws_heldPairS.tab4:rtab .any (opsOf Tryz.f25 4)=laws_heldPairS.T4:=by kernel_rfl
theorem laws_heldPairS.bits4:waitsOk laws_heldPairS.T4.2 laws_heldPairS.B4=τ:=by kernel_rfl
def laws_heldPairS.T7:Bool × List (List Nat × List Nat):=(τ,[([],[]),([],[]),([0,1],[0,1]),([2],[2]),([3],[3]),([],[]),([5],[5]),([4,6],[4,6])])
def laws_heldPairS.B7:List Nat:=[0,0,3,7,15,0,32,127]
theorem laws_heldPairS.tab7:rtab .any (opsOf Tryz.f25 7)=laws_heldPairS.T7:=by kernel_rfl
theorem laws_heldPairS.bits7:waitsOk laws_heldPairS.T7.2 laws_heldPairS.B7=τ:=by kernel_rfl
theorem laws_heldPairS.calls (k:Nat) (A0:Option Addr) (c0:Nat) (l0:List (S61)) (a1:Int) (r:Int) (w:World) (hr0:Kd.C k61 w A0 l0.length l0) (hc0:l0.length≤c0) (h:laws_heldPairS.f k l0 a1=some r) :
  Calls Tryz.prog 25 #[.slice A0 l0.length c0,.int .i64 a1] w fun e w'=>e = .returned (.int .i64 r)∧Below w.heap.size w w':=by
 have HR0:=ζa hr0
 have HC0:=ζa hc0
 clear hr0 hc0
 have HB:=ζa (Below.refl w.heap.size w)
 have H:(laws_heldPairS.l0 k l0 a1 0)=some r:=h
 clear h
 have H':=ζa H
 clear H
 go_enter Tryz.func25,Tryz.ntmps25
 go_wp2
 go_loopg [1,5] k (fun kq v1 v5 w' => ∃ (x1_1:Int) (x5_1:Int),v1 = .int .i64 x1_1∧v5 = .int .i64 x5_1∧Aside0 (laws_heldPairS.l0 kq l0 x1_1 x5_1=some r)∧Aside0 (kq≤k)∧Aside0 (Below w.heap.size w w'))
 case atStart=>exact ⟨(a1),(0),(by rfl),(by rfl),H',⟨Nat.le_refl _⟩,⟨by repeat ((with_reducible exact HB.out))⟩⟩
 case round =>
  clear H'
  try clear c2
  try clear p2
  obtain ⟨x1_1,x5_1,rfl,rfl,HA,HK1,HB⟩:=hrel
  cases gk with
  | zero=>exact absurd HA.out (by simp [laws_heldPairS.l0])
  | succ k1 =>
   have H:=HA.out
   clear HA
   simp only [laws_heldPairS.l0] at H
   by_cases c3:x5_1<(l0.length:Int)
   ·
    rw [if_pos c3] at H
    have c3b0:=decide_eq_true c3
    clear c3
    by_cases c4:0≤x5_1
    ·
     rw [if_pos c4] at H
     have c4b0:=decide_eq_true c4
     clear c4
     obtain ⟨t264,A5,H⟩:=bsm H
     by_cases c6:((rd_T61 l0 x5_1).f0).toList=t264.toList
     ·
      rw [if_pos c6] at H
      have c6b0:=beq_iff_eq.mpr c6
      have c6b1:=bne_eq_false_iff_eq.mpr c6
      clear c6
      obtain ⟨t266,A7,H⟩:=bsm H
      by_cases c8:((rd_T61 l0 x5_1).f1).toList=t266.toList
      ·
       rw [if_pos c8] at H
       have c8b0:=beq_iff_eq.mpr c8
       have c8b1:=bne_eq_false_iff_eq.mpr c8
       clear c8
       have H':=ζa H
       clear H
       try go_wp2
       replace HB:=ζa (δj HB.out)
       have p263:0≤(x5_1:Int):=of_decide_eq_true (by (with_reducible assumption))
       have q263:x5_1<(l0.length:Int):=of_decide_eq_true (by (with_reducible assumption))
       obtain ⟨ad263,e263,hx263_0,hx263_1⟩:=at_T61 HR0.out x5_1 p263 q263
       have hw263_1:=hx263_1
       have hw263_0:=hx263_0
       cases e263
       replace hx263_0:=(HB.out.cell (World.block_lt_of_cell? w _ hx263_0)).trans hx263_0
       replace hx263_1:=(HB.out.cell (World.block_lt_of_cell? w _ hx263_1)).trans hx263_1
       replace p263:=eq_true p263
       replace q263:=eq_true q263
       refine sta 8 (fun w'=>w'.cell? (ad263.add ((x5_1).toNat * 2))=some (.string ((rd_T61 l0 x5_1).f0))∧w'.cell? ⟨(ad263.add ((x5_1).toNat * 2)).block,(ad263.add ((x5_1).toNat * 2)).off+1,none⟩=some (.string ((rd_T61 l0 x5_1).f1))) [] laws_heldPairS.tab4 laws_heldPairS.bits4 ⟨((HB.out.cell (World.block_lt_of_cell? w _ hw263_0)).trans hw263_0),((HB.out.cell (World.block_lt_of_cell? w _ hw263_1)).trans hw263_1)⟩ (fun hHeld HT_ HW_ => ?_)
       generalize wr.drew=w9 at HB hx263_0 hx263_1 hHeld ⊢
       refine pu 0 12 ?_
       refine pu 1 13 ?_
       refine pu 2 14 ?_
       refine pu 3 15 ?_
       refine pu 5 17 ?_
       refine ta 4 16 ?_
       refine on 6 18 (fun K hK => ?_)
       refine gs Tryz.func48 #[.int .i64 x1_1] ?_
       with_reducible refine (laws_markText.calls k1 x1_1 t264 _ A5.out).mono ?_
       rintro e w10 ⟨rfl,hb⟩
       refine ⟨_,rfl,?_⟩
       replace HB:=ζa (δr (by exact HB.out) hb)
       (try clear hb)
       (try clear hb2)
       (try clear hk)
       (try clear hi)
       refine hK.out _ _ ⟨((HB.out.cell (World.block_lt_of_cell? w _ hw263_0)).trans hw263_0),((HB.out.cell (World.block_lt_of_cell? w _ hw263_1)).trans hw263_1)⟩ (fun hHeld => ?_)
       clear hK K
       refine nm 18 ?_
       refine pu 7 19 ?_
       refine done_ (done_of HT_.out (by kernel_rfl)) ?_
       try go_wp2
       replace HB:=ζa (δj HB.out)
       have p265:0≤(x5_1:Int):=of_decide_eq_true (by (with_reducible assumption))
       have q265:x5_1<(l0.length:Int):=of_decide_eq_true (by (with_reducible assumption))
       obtain ⟨ad265,e265,hx265_0,hx265_1⟩:=at_T61 HR0.out x5_1 p265 q265
       have hw265_1:=hx265_1
       have hw265_0:=hx265_0
       obtain rfl:ad263=ad265:=(by injection e265)
       replace hx265_0:=(HB.out.cell (World.block_lt_of_cell? w _ hx265_0)).trans hx265_0
       replace hx265_1:=(HB.out.cell (World.block_lt_of_cell? w _ hx265_1)).trans hx265_1
       replace p265:=eq_true p265
       replace q265:=eq_true q265
       refine sta 8 (fun w'=>w'.cell? (ad263.add ((x5_1).toNat * 2))=some (.string ((rd_T61 l0 x5_1).f0))∧w'.cell? ⟨(ad263.add ((x5_1).toNat * 2)).block,(ad263.add ((x5_1).toNat * 2)).off+1,none⟩=some (.string ((rd_T61 l0 x5_1).f1))) [] laws_heldPairS.tab7 laws_heldPairS.bits7 ⟨((HB.out.cell (World.block_lt_of_cell? w _ hw265_0)).trans hw265_0),((HB.out.cell (World.block_lt_of_cell? w _ hw265_1)).trans hw265_1)⟩ (fun hHeld HT_ HW_ => ?_)
       generalize w10.drew=w11 at HB hx265_0 hx265_1 hHeld ⊢
       refine pu 0 22 ?_
       refine pu 1 23 ?_
       refine pu 2 24 ?_
       refine pu 3 25 ?_
       refine pu 5 27 ?_
       refine ta 4 26 ?_
       refine on 6 28 (fun K hK => ?_)
       refine gs Tryz.func48 #[.int .i64 (ζm (x1_1+1))] ?_
       with_reducible refine (laws_markText.calls k1 (ζm (x1_1+1)) t266 _ A7.out).mono ?_
       rintro e w12 ⟨rfl,hb⟩
       refine ⟨_,rfl,?_⟩
       replace HB:=ζa (δr (by exact HB.out) hb)
       (try clear hb)
       (try clear hb2)
       (try clear hk)
       (try clear hi)
       refine hK.out _ _ ⟨((HB.out.cell (World.block_lt_of_cell? w _ hw265_0)).trans hw265_0),((HB.out.cell (World.block_lt_of_cell? w _ hw265_1)).trans hw265_1)⟩ (fun hHeld => ?_)
       clear hK K
       refine nm 28 ?_
       refine pu 7 29 ?_
       refine done_ (done_of HT_.out (by kernel_rfl)) ?_
       try go_wp2
       go_roundg k1
       case measure=>have:=HK1.out;omega
       case rel=>exact ⟨(ζm ((ζm (x1_1+1))+1)),(ζm (x5_1+1)),(by rfl),(by rfl),H',⟨by have:=HK1.out;omega⟩,⟨by repeat ((with_reducible exact HB.out))⟩⟩
      ·
       rw [if_neg c8] at H
       have c8b0:=beq_eq_false_iff_ne.mpr c8
       have c8b1:=bne_iff_ne.mpr c8
       obtain rfl:=Option.some.inj H
       try go_wp2
       replace HB:=ζa (δj HB.out)
       have p263:0≤(x5_1:Int):=of_decide_eq_true (by (with_reducible assumption))
       have q263:x5_1<(l0.length:Int):=of_decide_eq_true (by (with_reducible assumption))
       obtain ⟨ad263,e263,hx263_0,hx263_1⟩:=at_T61 HR0.out x5_1 p263 q263
       have hw263_1:=hx263_1
       have hw263_0:=hx263_0
       cases e263
       replace hx263_0:=(HB.out.cell (World.block_lt_of_cell? w _ hx263_0)).trans hx263_0
       replace hx263_1:=(HB.out.cell (World.block_lt_of_cell? w _ hx263_1)).trans hx263_1
       replace p263:=eq_true p263
       replace q263:=eq_true q263
       refine sta 8 (fun w'=>w'.cell? (ad263.add ((x5_1).toNat * 2))=some (.string ((rd_T61 l0 x5_1).f0))∧w'.cell? ⟨(ad263.add ((x5_1).toNat * 2)).block,(ad263.add ((x5_1).toNat * 2)).off+1,none⟩=some (.string ((rd_T61 l0 x5_1).f1))) [] laws_heldPairS.tab4 laws_heldPairS.bits4 ⟨((HB.out.cell (World.block_lt_of_cell? w _ hw263_0)).trans hw263_0),((HB.out.cell (World.block_lt_of_cell? w _ hw263_1)).trans hw263_1)⟩ (fun hHeld HT_ HW_ => ?_)
       generalize wr.drew=w13 at HB hx263_0 hx263_1 hHeld ⊢
       refine pu 0 12 ?_
       refine pu 1 13 ?_
       refine pu 2 14 ?_
       refine pu 3 15 ?_
       refine pu 5 17 ?_
       refine ta 4 16 ?_
       refine on 6 18 (fun K hK => ?_)
       refine gs Tryz.func48 #[.int .i64 x1_1] ?_
       with_reducible refine (laws_markText.calls k1 x1_1 t264 _ A5.out).mono ?_
       rintro e w14 ⟨rfl,hb⟩
       refine ⟨_,rfl,?_⟩
       replace HB:=ζa (δr (by exact HB.out) hb)
       (try clear hb)
       (try clear hb2)
       (try clear hk)
       (try clear hi)
       refine hK.out _ _ ⟨((HB.out.cell (World.block_lt_of_cell? w _ hw263_0)).trans hw263_0),((HB.out.cell (World.block_lt_of_cell? w _ hw263_1)).trans hw263_1)⟩ (fun hHeld => ?_)
       clear hK K
       refine nm 18 ?_
       refine pu 7 19 ?_
       refine done_ (done_of HT_.out (by kernel_rfl)) ?_
       try go_wp2
       replace HB:=ζa (δj HB.out)
       have p265:0≤(x5_1:Int):=of_decide_eq_true (by (with_reducible assumption))
       have q265:x5_1<(l0.length:Int):=of_decide_eq_true (by (with_reducible assumption))
       obtain ⟨ad265,e265,hx265_0,hx265_1⟩:=at_T61 HR0.out x5_1 p265 q265
       have hw265_1:=hx265_1
       have hw265_0:=hx265_0
       obtain rfl:ad263=ad265:=(by injection e265)
       replace hx265_0:=(HB.out.cell (World.block_lt_of_cell? w _ hx265_0)).trans hx265_0
       replace hx265_1:=(HB.out.cell (World.block_lt_of_cell? w _ hx265_1)).trans hx265_1
       replace p265:=eq_true p265
       replace q265:=eq_true q265
       refine sta 8 (fun w'=>w'.cell? (ad263.add ((x5_1).toNat * 2))=some (.string ((rd_T61 l0 x5_1).f0))∧w'.cell? ⟨(ad263.add ((x5_1).toNat * 2)).block,(ad263.add ((x5_1).toNat * 2)).off+1,none⟩=some (.string ((rd_T61 l0 x5_1).f1))) [] laws_heldPairS.tab7 laws_heldPairS.bits7 ⟨((HB.out.cell (World.block_lt_of_cell? w _ hw265_0)).trans hw265_0),((HB.out.cell (World.block_lt_of_cell? w _ hw265_1)).trans hw265_1)⟩ (fun hHeld HT_ HW_ => ?_)
       generalize w14.drew=w15 at HB hx265_0 hx265_1 hHeld ⊢
       refine pu 0 22 ?_
       refine pu 1 23 ?_
       refine pu 2 24 ?_
       refine pu 3 25 ?_
       refine pu 5 27 ?_
       refine ta 4 26 ?_
       refine on 6 28 (fun K hK => ?_)
       refine gs Tryz.func48 #[.int .i64 (ζm (x1_1+1))] ?_
       with_reducible refine (laws_markText.calls k1 (ζm (x1_1+1)) t266 _ A7.out).mono ?_
       rintro e w16 ⟨rfl,hb⟩
       refine ⟨_,rfl,?_⟩
       replace HB:=ζa (δr (by exact HB.out) hb)
       (try clear hb)
       (try clear hb2)
       (try clear hk)
       (try clear hi)
       refine hK.out _ _ ⟨((HB.out.cell (World.block_lt_of_cell? w _ hw265_0)).trans hw265_0),((HB.out.cell (World.block_lt_of_cell? w _ hw265_1)).trans hw265_1)⟩ (fun hHeld => ?_)
       clear hK K
       refine nm 28 ?_
       refine pu 7 29 ?_
       refine done_ (done_of HT_.out (by kernel_rfl)) ?_
       try go_wp2
       go_ret
       exact ⟨by rfl,by repeat ((with_reducible exact HB.out))⟩
     ·
      rw [if_neg c6] at H
      have c6b0:=beq_eq_false_iff_ne.mpr c6
      have c6b1:=bne_iff_ne.mpr c6
      obtain rfl:=Option.some.inj H
      try go_wp2
      replace HB:=ζa (δj HB.out)
      have p263:0≤(x5_1:Int):=of_decide_eq_true (by (with_reducible assumption))
      have q263:x5_1<(l0.length:Int):=of_decide_eq_true (by (with_reducible assumption))
      obtain ⟨ad263,e263,hx263_0,hx263_1⟩:=at_T61 HR0.out x5_1 p263 q263
      have hw263_1:=hx263_1
      have hw263_0:=hx263_0
      cases e263
      replace hx263_0:=(HB.out.cell (World.block_lt_of_cell? w _ hx263_0)).trans hx263_0
      replace hx263_1:=(HB.out.cell (World.block_lt_of_cell? w _ hx263_1)).trans hx263_1
      replace p263:=eq_true p263
      replace q263:=eq_true q263
      refine sta 8 (fun w'=>w'.cell? (ad263.add ((x5_1).toNat * 2))=some (.string ((rd_T61 l0 x5_1).f0))∧w'.cell? ⟨(ad263.add ((x5_1).toNat * 2)).block,(ad263.add ((x5_1).toNat * 2)).off+1,none⟩=some (.string ((rd_T61 l0 x5_1).f1))) [] laws_heldPairS.tab4 laws_heldPairS.bits4 ⟨((HB.out.cell (World.block_lt_of_cell? w _ hw263_0)).trans hw263_0),((HB.out.cell (World.block_lt_of_cell? w _ hw263_1)).trans hw263_1)⟩ (fun hHeld HT_ HW_ => ?_)
      generalize wr.drew=w17 at HB hx263_0 hx263_1 hHeld ⊢
      refine pu 0 12 ?_
      refine pu 1 13 ?_
      refine pu 2 14 ?_
      refine pu 3 15 ?_
      refine pu 5 17 ?_
      refine ta 4 16 ?_
      refine on 6 18 (fun K hK => ?_)
      refine gs Tryz.func48 #[.int .i64 x1_1] ?_
      with_reducible refine (laws_markText.calls k1 x1_1 t264 _ A5.out).mono ?_
      rintro e w18 ⟨rfl,hb⟩
      refine ⟨_,rfl,?_⟩
      replace HB:=ζa (δr (by exact HB.out) hb)
      (try clear hb)
      (try clear hb2)
      (try clear hk)
      (try clear hi)
      refine hK.out _ _ ⟨((HB.out.cell (World.block_lt_of_cell? w _ hw263_0)).trans hw263_0),((HB.out.cell (World.block_lt_of_cell? w _ hw263_1)).trans hw263_1)⟩ (fun hHeld => ?_)
      clear hK K
      refine nm 18 ?_
      refine pu 7 19 ?_
      refine done_ (done_of HT_.out (by kernel_rfl)) ?_
      try go_wp2
      go_ret
      exact ⟨by rfl,by repeat ((with_reducible exact HB.out))⟩
    ·
     rw [if_neg c4] at H
     exact absurd H (by simp)
   ·
    rw [if_neg c3] at H
    have c3b0:=decide_eq_false c3
    clear c3
    obtain rfl:=Option.some.inj H
    go_wp2
    go_ret
    exact ⟨by rfl,by repeat ((with_reducible exact HB.out))⟩

end Go.Proofs.YtggemblkhckbpaaGreatDoor.Q
