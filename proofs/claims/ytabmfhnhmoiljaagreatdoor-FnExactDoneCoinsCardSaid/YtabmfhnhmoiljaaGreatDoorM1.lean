/- Parts of the proof: what single Go functions compute, each with its walk, and plain laws over these. -/
import Derived.Test.YtabmfhnhmoiljaaGreatDoorM0
namespace Go.Proofs.YtabmfhnhmoiljaaGreatDoor.Q
open Go.RowKit Go.Proofs.YtabmfhnhmoiljaaGreatDoorW.PrintWords Go.Proofs.YtabmfhnhmoiljaaGreatDoorW.PrintLast Go.Proofs.YtabmfhnhmoiljaaGreatDoorW.PrintMore
open Go.RowKit renaming wrap64 → ζm
open Go.Proofs.YtabmfhnhmoiljaaGreatDoorW.PrintWords.Aside0 renaming mk → ζa
open Go.Proofs.YtabmfhnhmoiljaaGreatDoorW.PrintWords renaming gate_callee → δv
open List renaming map_toArray → δd, map_cons → δe, map_nil → δf, length_drop → δg, length_take → δh
open Bool renaming true → τ, false → φ
attribute [local go_sem] max2_int min2_int max_two min_two max_three min_three max_four min_four   -- for this text's walks alone
set_option linter.unusedVariables false
set_option linter.unusedSimpArgs false

/-! ### spec_l02Of: function 149 -/
mutual
def spec_l02Of.j0:Nat→ByteArray→Bool→Option (Int)
 | 0,_,_=>none
 | k+1,x0,x19=>if x19=τ then (some (-1)) else (spec_l02Of.l0 k x0 0 0)
def spec_l02Of.l0:Nat→ByteArray→Int→Int→Option (Int)
 | 0,_,_,_=>none
 | k+1,x0,x3,x4=>if x4<(x0.size:Int) then (if 0≤x4 then (if (bt x0 x4)<48 then (spec_l02Of.j2 k x0 x3 x4 τ) else (spec_l02Of.j2 k x0 x3 x4 (decide ((bt x0 x4) > 57)))) else (none)) else (some x3)
def spec_l02Of.j2:Nat→ByteArray→Int→Int→Bool→Option (Int)
 | 0,_,_,_,_=>none
 | k+1,x0,x3,x4,x35=>if x35=τ then (some (-1)) else (if 0≤x4 then (if x4<(x0.size:Int) then (if x3 > ((1000000000000000000 - (((bt x0 x4) - 48) % 256)) / 10) then (some (-1)) else (spec_l02Of.l0 k x0 (ζm ((ζm (x3 * 10))+(((bt x0 x4) - 48) % 256))) (ζm (x4+1)))) else (none)) else (none))
end
def spec_l02Of.f (k:Nat) (a0:ByteArray):Option (Int):=(spec_l01In.f (a0.size:Int) 1 19).bind fun t123=>(if t123=τ then (if (a0.size:Int) > 1 then (if 0<(a0.size:Int) then (spec_l02Of.j0 k a0 ((bt a0 0) == 48)) else (none)) else (spec_l02Of.j0 k a0 φ)) else (spec_l02Of.j0 k a0 τ))
set_option maxHeartbeats 8000000 in
set_option maxRecDepth 100000 in
theorem spec_l02Of.calls (k:Nat) (a0:ByteArray) (r:Int) (w:World) (h:spec_l02Of.f k a0=some r) :
  Calls Tryz.prog 149 #[.string a0] w fun e w'=>e = .returned (.int .i64 r)∧Drawn0 w w':=by
 have H:((spec_l01In.f (a0.size:Int) 1 19).bind fun t123=>(if t123=τ then (if (a0.size:Int) > 1 then (if 0<(a0.size:Int) then (spec_l02Of.j0 k a0 ((bt a0 0) == 48)) else (none)) else (spec_l02Of.j0 k a0 φ)) else (spec_l02Of.j0 k a0 τ)))=some r:=h
 clear h
 have HC2:=ζa H
 clear H
 go_enter Tryz.func149,Tryz.ntmps149
 go_upto_region 1 with (fail)
 go_cut [19] (fun v19 wc => ∃ (kq:Nat) (x19_1:Bool),v19 = .bool x19_1∧Aside0 (spec_l02Of.j0 kq a0 x19_1=some r)∧Aside0 (kq≤k)∧Drawn0 w wc)
 case first =>
  have H:=HC2.out
  clear HC2
  replace H:=Option.bind_eq_some_iff.mp H
  obtain ⟨t123,A30,H⟩:=H
  replace H:(if t123=τ then (if (a0.size:Int) > 1 then (if 0<(a0.size:Int) then (spec_l02Of.j0 k a0 ((bt a0 0) == 48)) else (none)) else (spec_l02Of.j0 k a0 φ)) else (spec_l02Of.j0 k a0 τ))=some r:=H
  have A3:=ζa A30
  clear A30
  by_cases c4:t123=τ
  ·
   subst c4
   have H1:(if (a0.size:Int) > 1 then (if 0<(a0.size:Int) then (spec_l02Of.j0 k a0 ((bt a0 0) == 48)) else (none)) else (spec_l02Of.j0 k a0 φ))=some r:=by rw [if_pos rfl] at H;exact H
   clear H
   have H:=H1
   clear H1
   by_cases c5:(a0.size:Int) > 1
   ·
    rw [if_pos c5] at H
    have c5b0:decide (1<(a0.size:Int))=τ:=decide_eq_true c5
    have c5b1:decide (1<a0.size)=τ:=decide_eq_true (by omega)
    clear c5
    (first|rw [c5b0]|(simp only [i64_w,i32_w];rw [c5b0])|skip)
    by_cases c6:0<(a0.size:Int)
    ·
     rw [if_pos c6] at H
     have c6b0:decide (0<(a0.size:Int))=τ:=decide_eq_true c6
     have c6b1:decide (0<a0.size)=τ:=decide_eq_true (by omega)
     clear c6
     have H':=ζa H
     clear H
     go_wp2_with (first|((with_reducible refine δv (f:=77) rfl ?_);refine goesL_ (some 8) rfl rfl Tryz.func77 (by kernel_rfl) rfl #[.int .i64 (a0.size:Int),.int .i64 1,.int .i64 19] rfl (by (try simp only [δd,δe,δf]);first|done|rfl|(simp only [δg,δh];rfl)) ?_;(with_reducible refine (spec_l01In.calls (a0.size:Int) 1 19 τ _ A3.out).mono ?_);rintro e w' ⟨rfl,⟨nd,rfl⟩⟩;refine ⟨_,rfl,?_⟩;have p7:0≤(0:Int):=(by omega);have q7:0<a0.size:=(by have:(0:Int)<(a0.size:Int):=of_decide_eq_true (by first|(with_reducible assumption)|assumption);omega);have hx7 : ∀ h:0<a0.size,((a0[0]'h).toNat:Int)=bt a0 0:=bt_at a0 0;clear p7;have qi7:(0<(a0.size:Int))=True:=eq_true (of_decide_eq_true (by first|(with_reducible assumption)|assumption));replace q7:=eq_true q7))
     go_meet
     case rel=>exact ⟨_,(((bt a0 0) == 48)),(by first|rfl|(simp;done)|(simp [*];done)),H',⟨by first|omega|exact Nat.le_refl _⟩,by repeat (first|exact Drawn0.refl _|apply Drawn0.step)⟩
    ·
     rw [if_neg c6] at H
     exact absurd H (by simp)
   ·
    rw [if_neg c5] at H
    have c5b0:decide (1<(a0.size:Int))=φ:=decide_eq_false c5
    have c5b1:decide (1<a0.size)=φ:=decide_eq_false (by omega)
    clear c5
    (first|rw [c5b0]|(simp only [i64_w,i32_w];rw [c5b0])|skip)
    have H':=ζa H
    clear H
    go_wp2_with (first|((with_reducible refine δv (f:=77) rfl ?_);refine goesL_ (some 8) rfl rfl Tryz.func77 (by kernel_rfl) rfl #[.int .i64 (a0.size:Int),.int .i64 1,.int .i64 19] rfl (by (try simp only [δd,δe,δf]);first|done|rfl|(simp only [δg,δh];rfl)) ?_;(with_reducible refine (spec_l01In.calls (a0.size:Int) 1 19 τ _ A3.out).mono ?_);rintro e w' ⟨rfl,⟨nd,rfl⟩⟩;refine ⟨_,rfl,?_⟩))
    go_meet
    case rel=>exact ⟨_,(φ),(by first|rfl|(simp;done)|(simp [*];done)),H',⟨by first|omega|exact Nat.le_refl _⟩,by repeat (first|exact Drawn0.refl _|apply Drawn0.step)⟩
  ·
   replace c4:=Bool.eq_false_iff.mpr c4
   subst c4
   have H1:(spec_l02Of.j0 k a0 τ)=some r:=by rw [if_neg (show ¬ (φ=τ) by decide)] at H;exact H
   clear H
   have H:=H1
   clear H1
   have H':=ζa H
   clear H
   go_wp2_with (first|((with_reducible refine δv (f:=77) rfl ?_);refine goesL_ (some 8) rfl rfl Tryz.func77 (by kernel_rfl) rfl #[.int .i64 (a0.size:Int),.int .i64 1,.int .i64 19] rfl (by (try simp only [δd,δe,δf]);first|done|rfl|(simp only [δg,δh];rfl)) ?_;(with_reducible refine (spec_l01In.calls (a0.size:Int) 1 19 φ _ A3.out).mono ?_);rintro e w' ⟨rfl,⟨nd,rfl⟩⟩;refine ⟨_,rfl,?_⟩))
   go_meet
   case rel=>exact ⟨_,(τ),(by first|rfl|(simp;done)|(simp [*];done)),H',⟨by first|omega|exact Nat.le_refl _⟩,by repeat (first|exact Drawn0.refl _|apply Drawn0.step)⟩
 case rest =>
  clear HC2
  try clear c1
  try clear p2
  try clear c4
  try clear c5
  try clear c5b0
  try clear c5b1
  try clear c6
  try clear c6b0
  try clear c6b1
  try clear c7
  try clear p7
  try clear q7
  try clear hx7
  try clear qi7
  try clear p7
  try clear q7
  obtain ⟨kq,x19_1,rfl,HA,HJ1,⟨mc1,rfl⟩⟩:=hcut
  cases kq with
  | zero=>exact absurd HA.out (by simp [spec_l02Of.j0])
  | succ kj1 =>
   have H:=HA.out
   clear HA
   simp only [spec_l02Of.j0] at H
   by_cases c8:x19_1=τ
   ·
    subst c8
    have H1:(some (-1))=some r:=by rw [if_pos rfl] at H;exact H
    clear H
    have H:=H1
    clear H1
    obtain rfl:=Option.some.inj H
    go_wp2
    go_ret
    exact ⟨by first|rfl|(simp;done)|(simp [*];done),by repeat (first|exact Drawn0.refl _|apply Drawn0.step)⟩
   ·
    replace c8:=Bool.eq_false_iff.mpr c8
    subst c8
    have H1:(spec_l02Of.l0 kj1 a0 0 0)=some r:=by rw [if_neg (show ¬ (φ=τ) by decide)] at H;exact H
    clear H
    have H:=H1
    clear H1
    have H':=ζa H
    clear H
    go_wp2
    go_loopg [3,4] kj1 (fun kq v3 v4 w' => ∃ (x3_2:Int) (x4_2:Int),v3 = .int .i64 x3_2∧v4 = .int .i64 x4_2∧Aside0 (spec_l02Of.l0 kq a0 x3_2 x4_2=some r)∧Aside0 (kq≤kj1)∧Drawn0 w w')
    case atStart=>exact ⟨(0),(0),(by first|rfl|(simp;done)|(simp [*];done)),(by first|rfl|(simp;done)|(simp [*];done)),H',⟨Nat.le_refl _⟩,by repeat (first|exact Drawn0.refl _|apply Drawn0.step)⟩
    case round =>
     clear H'
     try clear c1
     try clear p2
     try clear c4
     try clear c5
     try clear c5b0
     try clear c5b1
     try clear c6
     try clear c6b0
     try clear c6b1
     try clear c7
     try clear p7
     try clear q7
     try clear hx7
     try clear qi7
     try clear c8
     try clear p2
     try clear p7
     try clear q7
     obtain ⟨x3_2,x4_2,rfl,rfl,HA,HK2,⟨m2,rfl⟩⟩:=hrel
     cases gk with
     | zero=>exact absurd HA.out (by simp [spec_l02Of.l0])
     | succ k2 =>
      have H:=HA.out
      clear HA
      simp only [spec_l02Of.l0] at H
      by_cases c9:x4_2<(a0.size:Int)
      ·
       rw [if_pos c9] at H
       have c9b0:decide (x4_2<(a0.size:Int))=τ:=decide_eq_true c9
       clear c9
       have HC10:=ζa H
       clear H
       go_upto_region 7 with (fail)
       go_cut [35] (fun v35 wc => ∃ (kq:Nat) (x35_9:Bool),v35 = .bool x35_9∧Aside0 (spec_l02Of.j2 kq a0 x3_2 x4_2 x35_9=some r)∧Aside0 (kq≤k2)∧Drawn0 w wc)
       case first =>
        have H:=HC10.out
        clear HC10
        by_cases c11:0≤x4_2
        ·
         rw [if_pos c11] at H
         have c11b0:decide (0≤x4_2)=τ:=decide_eq_true c11
         clear c11
         (first|rw [c11b0]|(simp only [i64_w,i32_w];rw [c11b0])|skip)
         by_cases c13:(bt a0 x4_2)<48
         ·
          rw [if_pos c13] at H
          have c13b0:decide ((bt a0 x4_2)<48)=τ:=decide_eq_true c13
          clear c13
          have H':=ζa H
          clear H
          have p12:0≤(x4_2:Int):=of_decide_eq_true (by first|(with_reducible assumption)|assumption)
          have q12:x4_2<(a0.size:Int):=of_decide_eq_true (by first|(with_reducible assumption)|assumption)
          have hx12:=bt_at a0 x4_2
          replace p12:=eq_true p12
          replace q12:=eq_true q12
          go_wp2
          go_meet
          case rel=>exact ⟨_,(τ),(by first|rfl|(simp;done)|(simp [*];done)),H',⟨by have:=HJ1.out;have:=HK2.out;first|omega|exact Nat.le_refl _⟩,by repeat (first|exact Drawn0.refl _|apply Drawn0.step)⟩
         ·
          rw [if_neg c13] at H
          have c13b0:decide ((bt a0 x4_2)<48)=φ:=decide_eq_false c13
          clear c13
          have H':=ζa H
          clear H
          have p12:0≤(x4_2:Int):=of_decide_eq_true (by first|(with_reducible assumption)|assumption)
          have q12:x4_2<(a0.size:Int):=of_decide_eq_true (by first|(with_reducible assumption)|assumption)
          have hx12:=bt_at a0 x4_2
          replace p12:=eq_true p12
          replace q12:=eq_true q12
          have p14:0≤(x4_2:Int):=of_decide_eq_true (by first|(with_reducible assumption)|assumption)
          have q14:x4_2<(a0.size:Int):=of_decide_eq_true (by first|(with_reducible assumption)|assumption)
          have hx14:=bt_at a0 x4_2
          replace p14:=eq_true p14
          replace q14:=eq_true q14
          go_wp2
          go_meet
          case rel=>exact ⟨_,(decide ((bt a0 x4_2) > 57)),(by first|rfl|(simp;done)|(simp [*];done)),H',⟨by have:=HJ1.out;have:=HK2.out;first|omega|exact Nat.le_refl _⟩,by repeat (first|exact Drawn0.refl _|apply Drawn0.step)⟩
        ·
         rw [if_neg c11] at H
         exact absurd H (by simp)
       case rest =>
        clear HC10
        try clear c1
        try clear p1
        try clear q1
        try clear hx1
        try clear p2
        try clear c4
        try clear c5
        try clear c5b0
        try clear c5b1
        try clear c6
        try clear c6b0
        try clear c6b1
        try clear c7
        try clear p7
        try clear q7
        try clear hx7
        try clear qi7
        try clear c8
        try clear c9
        try clear c9b0
        try clear c11
        try clear c11b0
        try clear p12
        try clear q12
        try clear hx12
        try clear c13
        try clear c13b0
        try clear c14
        try clear p14
        try clear q14
        try clear hx14
        try clear p12
        try clear p14
        try clear p2
        try clear p7
        try clear q12
        try clear q14
        try clear q7
        obtain ⟨kq,x35_9,rfl,HA,HJ9,⟨mc9,rfl⟩⟩:=hcut
        cases kq with
        | zero=>exact absurd HA.out (by simp [spec_l02Of.j2])
        | succ kj9 =>
         have H:=HA.out
         clear HA
         simp only [spec_l02Of.j2] at H
         by_cases c15:x35_9=τ
         ·
          subst c15
          have H1:(some (-1))=some r:=by rw [if_pos rfl] at H;exact H
          clear H
          have H:=H1
          clear H1
          obtain rfl:=Option.some.inj H
          go_wp2
          go_ret
          exact ⟨by first|rfl|(simp;done)|(simp [*];done),by repeat (first|exact Drawn0.refl _|apply Drawn0.step)⟩
         ·
          replace c15:=Bool.eq_false_iff.mpr c15
          subst c15
          have H1:(if 0≤x4_2 then (if x4_2<(a0.size:Int) then (if x3_2 > ((1000000000000000000 - (((bt a0 x4_2) - 48) % 256)) / 10) then (some (-1)) else (spec_l02Of.l0 kj9 a0 (ζm ((ζm (x3_2 * 10))+(((bt a0 x4_2) - 48) % 256))) (ζm (x4_2+1)))) else (none)) else (none))=some r:=by rw [if_neg (show ¬ (φ=τ) by decide)] at H;exact H
          clear H
          have H:=H1
          clear H1
          by_cases c16:0≤x4_2
          ·
           rw [if_pos c16] at H
           have c16b0:decide (0≤x4_2)=τ:=decide_eq_true c16
           clear c16
           by_cases c17:x4_2<(a0.size:Int)
           ·
            rw [if_pos c17] at H
            have c17b0:decide (x4_2<(a0.size:Int))=τ:=decide_eq_true c17
            clear c17
            by_cases c19:x3_2 > ((1000000000000000000 - (((bt a0 x4_2) - 48) % 256)) / 10)
            ·
             rw [if_pos c19] at H
             have c19b0:decide (((1000000000000000000 - (((bt a0 x4_2) - 48) % 256)) / 10)<x3_2)=τ:=decide_eq_true c19
             clear c19
             obtain rfl:=Option.some.inj H
             have p18:0≤(x4_2:Int):=of_decide_eq_true (by first|(with_reducible assumption)|assumption)
             have q18:x4_2<(a0.size:Int):=of_decide_eq_true (by first|(with_reducible assumption)|assumption)
             have hx18:=bt_at a0 x4_2
             replace p18:=eq_true p18
             replace q18:=eq_true q18
             go_wp2
             go_ret
             exact ⟨by first|rfl|(simp;done)|(simp [*];done),by repeat (first|exact Drawn0.refl _|apply Drawn0.step)⟩
            ·
             rw [if_neg c19] at H
             have c19b0:decide (((1000000000000000000 - (((bt a0 x4_2) - 48) % 256)) / 10)<x3_2)=φ:=decide_eq_false c19
             clear c19
             have H':=ζa H
             clear H
             have p18:0≤(x4_2:Int):=of_decide_eq_true (by first|(with_reducible assumption)|assumption)
             have q18:x4_2<(a0.size:Int):=of_decide_eq_true (by first|(with_reducible assumption)|assumption)
             have hx18:=bt_at a0 x4_2
             replace p18:=eq_true p18
             replace q18:=eq_true q18
             go_wp2
             go_roundg kj9
             case measure=>have:=HJ1.out;have:=HK2.out;have:=HJ9.out;omega
             case rel=>exact ⟨(ζm ((ζm (x3_2 * 10))+(((bt a0 x4_2) - 48) % 256))),(ζm (x4_2+1)),(by first|rfl|(simp;done)|(simp [*];done)),(by first|rfl|(simp;done)|(simp [*];done)),H',⟨by have:=HJ1.out;have:=HK2.out;have:=HJ9.out;omega⟩,by repeat (first|exact Drawn0.refl _|apply Drawn0.step)⟩
           ·
            rw [if_neg c17] at H
            exact absurd H (by simp)
          ·
           rw [if_neg c16] at H
           exact absurd H (by simp)
      ·
       rw [if_neg c9] at H
       have c9b0:decide (x4_2<(a0.size:Int))=φ:=decide_eq_false c9
       clear c9
       obtain rfl:=Option.some.inj H
       go_wp2
       go_ret
       exact ⟨by first|rfl|(simp;done)|(simp [*];done),by repeat (first|exact Drawn0.refl _|apply Drawn0.step)⟩


open Go.Proofs.YtabmfhnhmoiljaaGreatDoorW.PrintWords renaming gate_callee → δv, below_alloc → δk, pw_below_drewN → δi, below_drew1 → δj

/-! ### spec_l05Read: function 183 -/
def spec_l05Read.f (k:Nat) (l0:List (S51)) (a1:ByteArray):Option (Int):=(spec_l03Get.f k l0 a1).bind fun bt124=>(if bt124.2=τ then ((spec_l02Of.f k bt124.1).bind fun t126=>(some (mx 0 t126))) else (some 0))
set_option maxHeartbeats 8000000 in
set_option maxRecDepth 100000 in
theorem spec_l05Read.calls (k:Nat) (A0:Option Addr) (c0:Nat) (l0:List (S51)) (a1:ByteArray) (r:Int) (w:World) (hr0:Kd.C k51 w A0 l0.length l0) (hc0:l0.length≤c0) (h:spec_l05Read.f k l0 a1=some r) :
  Calls Tryz.prog 183 #[.slice A0 l0.length c0,.string a1] w fun e w'=>e = .returned (.int .i64 r)∧Below w.heap.size w w':=by
 have HR0:=ζa hr0
 have HC0:=ζa hc0
 clear hr0 hc0
 have HB:=ζa (Below.refl w.heap.size w)
 have H:((spec_l03Get.f k l0 a1).bind fun bt124=>(if bt124.2=τ then ((spec_l02Of.f k bt124.1).bind fun t126=>(some (mx 0 t126))) else (some 0)))=some r:=h
 clear h
 replace H:=Option.bind_eq_some_iff.mp H
 obtain ⟨⟨t124,t125⟩,A30,H⟩:=H
 replace H:(if t125=τ then ((spec_l02Of.f k t124).bind fun t126=>(some (mx 0 t126))) else (some 0))=some r:=H
 have A3:=ζa A30
 clear A30
 by_cases c4:t125=τ
 ·
  subst c4
  have H1:((spec_l02Of.f k t124).bind fun t126=>(some (mx 0 t126)))=some r:=by rw [if_pos rfl] at H;exact H
  clear H
  have H:=H1
  clear H1
  replace H:=Option.bind_eq_some_iff.mp H
  obtain ⟨t126,A50,H⟩:=H
  replace H:(some (mx 0 t126))=some r:=H
  have A5:=ζa A50
  clear A50
  obtain ⟨ji6,hji6⟩ : ∃ j_:Int,(mx 0 t126)=j_:=⟨_,rfl⟩
  replace H:(some ji6)=some r:=by first|(rw [hji6] at H;exact H)|(simp only [hji6] at H ⊢;exact H)
  (try rw [hji6] at A3)
  (try rw [hji6] at A5)
  (try (have hji6l:0≤ji6:=by (rw [← hji6];unfold mx;(repeat' split) <;> omega)))
  (try (have hji6m:0≤ji6:=by omega))
  have hji6_:(if 0<t126 then t126 else 0)=ji6:=hji6
  obtain rfl:=Option.some.inj H
  go_enter Tryz.func183,Tryz.ntmps183
  go_wp2_with (first|((with_reducible refine δv (f:=102) rfl ?_);refine goesL_ (some 10) rfl rfl Tryz.func102 (by kernel_rfl) rfl #[.slice A0 l0.length c0,.string a1] rfl (by (try simp only [δd,δe,δf]);first|done|rfl|(simp only [δg,δh];rfl)) ?_;(with_reducible refine (spec_l03Get.calls k _ _ l0 a1 t124 τ _ ?side1 ?side2 A3.out).mono ?_);(case side1=>repeat (first|exact HR0.out|(with_reducible refine Kd.C_alloc ?_ _)|(with_reducible refine Kd.C_drewN ?_ _)|(with_reducible refine Kd.C_drew ?_)));(case side2=>exact HC0.out);rintro e w' ⟨rfl,⟨nd,rfl⟩⟩;refine ⟨_,rfl,?_⟩)|((with_reducible refine δv (f:=149) rfl ?_);refine goesL_ (some 16) rfl rfl Tryz.func149 (by kernel_rfl) rfl #[.string t124] rfl (by (try simp only [δd,δe,δf]);first|done|rfl|(simp only [δg,δh];rfl)) ?_;(with_reducible refine (spec_l02Of.calls k t124 t126 _ A5.out).mono ?_);rintro e w' ⟨rfl,⟨nd,rfl⟩⟩;refine ⟨_,rfl,?_⟩))
  go_ret
  exact ⟨by first|rfl|(simp [errW_none,errW_some] <;> rfl)|(simp only [← hji6];first|rfl|(simp [errW_none,errW_some] <;> rfl))|(simp [*,errW_none,errW_some] <;> rfl),by repeat (first|(with_reducible first|exact HB.out|apply δk|apply δi|apply δj)|exact HB.out)⟩
 ·
  replace c4:=Bool.eq_false_iff.mpr c4
  subst c4
  have H1:(some 0)=some r:=by rw [if_neg (show ¬ (φ=τ) by decide)] at H;exact H
  clear H
  have H:=H1
  clear H1
  obtain rfl:=Option.some.inj H
  go_enter Tryz.func183,Tryz.ntmps183
  go_wp2_with (first|((with_reducible refine δv (f:=102) rfl ?_);refine goesL_ (some 10) rfl rfl Tryz.func102 (by kernel_rfl) rfl #[.slice A0 l0.length c0,.string a1] rfl (by (try simp only [δd,δe,δf]);first|done|rfl|(simp only [δg,δh];rfl)) ?_;(with_reducible refine (spec_l03Get.calls k _ _ l0 a1 t124 φ _ ?side1 ?side2 A3.out).mono ?_);(case side1=>repeat (first|exact HR0.out|(with_reducible refine Kd.C_alloc ?_ _)|(with_reducible refine Kd.C_drewN ?_ _)|(with_reducible refine Kd.C_drew ?_)));(case side2=>exact HC0.out);rintro e w' ⟨rfl,⟨nd,rfl⟩⟩;refine ⟨_,rfl,?_⟩))
  go_ret
  exact ⟨by first|rfl|(simp [errW_none,errW_some] <;> rfl)|(simp [*,errW_none,errW_some] <;> rfl),by repeat (first|(with_reducible first|exact HB.out|apply δk|apply δi|apply δj)|exact HB.out)⟩


open Go.Proofs.YtabmfhnhmoiljaaGreatDoorW.PrintWords renaming below_alloc → δk, pw_below_drewN → δi, blk_alloc → δo, gate_dst → δx, below_drew1 → δj, below_set → δq
open Go.Proofs.YtabmfhnhmoiljaaGreatDoorW.PrintWords.Kd renaming R_alloc → ζd
open List renaming length_take → δh

/-! ### spec_l03Put: function 104 -/
theorem C_one {w:World} {g:Nat} {a b:ByteArray} (h:w.heap[g]? = some (.cells #[.string a,.string b] 51 (0,0))):Kd.C k51 w (some ⟨g,0,none⟩) 1 [⟨a,b⟩]:=⟨rfl,by decide,fun _=>⟨_,rfl,fun j q hj=>by
  have hj0:j=0:=by
   rcases j with _|j
   · rfl
   ·
    simp at hj
  subst hj0
  have hq:(⟨a,b⟩:S51)=q:=by simpa using hj
  subst hq
  refine ⟨[.string a,.string b],rfl,k51.K_of_M (k51_mkM w 0 (fun _=>True) ⟨a,b⟩),fun t u hu => ?_⟩
  rw [Addr.add_lit,cell_of_row w g _ _ _ (0,0) h]
  rcases t with _|_|t
  · simpa using hu
  ·
   simpa using hu
  · simp at hu⟩⟩
theorem C_nilN {w:World} {A:Option Addr} {m:Nat} (h:m=0):Kd.C k51 w A m ([]:List S51):=⟨by rw [h];rfl,by rw [h];decide,fun hp=>absurd hp (by omega)⟩
def spec_l03Put.f (k:Nat) (l0:List S51) (a1 a2:ByteArray):Option (List S51 × Int) :=
 (spec_l03At.f k l0 a1).bind fun t=>if l0.length≤1000000 then (if 0≤t then (if t≤(l0.length:Int) then (if t<(l0.length:Int)∧((rd_T51 l0 t).f0).toList=a1.toList then some (l0.set t.toNat ⟨(rd_T51 l0 t).f0,a2⟩,0) else (if (l0.length:Int)=400 then some (l0,7) else some (l0.insertIdx t.toNat ⟨a1,a2⟩,0))) else none) else none) else none
theorem spec_l03Put.ins (l:List S51) (i:Nat) (p:S51) (h:i≤l.length):l.insertIdx i p = [] ++ l.take i ++ [p] ++ l.drop i:=by
 induction l generalizing i with
 | nil=>cases i with
  | zero=>rfl
  | succ i=>simp at h
 | cons x l ih=>cases i with
  | zero=>simp
  | succ i=>rw [List.insertIdx_succ_cons,ih i (by simpa using h)];simp
set_option maxHeartbeats 4000000 in
set_option maxRecDepth 100000 in
theorem spec_l03Put.miss (k:Nat) (A0:Option Addr) (c0:Nat) (l0:List S51) (a1 a2:ByteArray) (i:Nat) (w:World) (hr0:Kd.C k51 w A0 l0.length l0) (hc0:l0.length≤c0) (h1:spec_l03At.f k l0 a1=some (i:Int)) (hl:l0.length≤1000000) (hi:i≤l0.length) (hn:(i:Int)<(l0.length:Int) → ¬ ((rd_T51 l0 (i:Int)).f0).toList=a1.toList) (h4 : ¬ (l0.length:Int)=400) :
  Calls Tryz.prog 104 #[.slice A0 l0.length c0,.string a1,.string a2] w fun e w' => ∃ v0_:Value,e = .returned (.tuple #[v0_,.int .i64 0])∧Sf w w' (.slice A0 l0.length c0) l0 v0_ (l0.insertIdx i ⟨a1,a2⟩)∧Below w.heap.size w w':=by
 have H1:=ζa h1
 have HR0:=ζa hr0
 have HC0:=ζa hc0
 have HN:=ζa hn
 have c4:((l0.length:Int) == 400)=φ:=beq_eq_false_iff_ne.mpr h4
 have HTK:=ζa (C_takeN HR0.out (i:=i) (by omega))
 clear h1 hr0 hc0 hn h4
 go_enter Tryz.func104,Tryz.ntmps104
 go_wp2_with fail
 refine (spec_l03At.calls k A0 c0 l0 a1 (i:Int) _ HR0.out HC0.out H1.out).mono ?_
 rintro e w1 ⟨rfl,⟨q',rfl⟩⟩
 have p2:(i:Int)≤(c0:Int):=by have:=HC0.out;omega
 have p3:(i:Int)≤(l0.length:Int):=by omega
 have p4:(0:Int)≤(i:Int):=by omega
 by_cases g2:(i:Int)<(l0.length:Int)
 ·
  obtain ⟨ad,e1,hx0,hx1⟩:=at_T51 HR0.out (i:Int) p4 g2
  simp only [Int.toNat_natCast] at hx0 hx1
  cases e1
  have g6:(((rd_T51 l0 (i:Int)).f0).toList == a1.toList)=φ:=beq_eq_false_iff_ne.mpr (HN.out g2)
  have HDR:=ζa (C_dropN HR0.out HC0.out (i:=i) (by omega))
  go_wp2_with fail
  go_region_held3 (fun _=>True) (trivial) (first|((refine Kd.R_append_rows_step k51 (w0:=w) (Rr:=k51.K _) w.heap.size (by rfl) (.tmp 39) (.tmp 42) 24 51 (.agg #[(.string ⟨#[]⟩),(.string ⟨#[]⟩)]) 32 (by rfl) Tryz.underlying24 info51 rfl (by decide) (by decide) _ [] (l0.take i) _ _ _ (fun _=>True) (fun _=>False) (by rfl) (by rfl) (R_empty (Nat.le_refl _) (heap_alloc_new _ _)) (Kd.C_alloc (Kd.C_drewN HTK.out _) _) (fun x cs h=>by rw [k51_open h];exact k51_mkM _ _ _ x) (fun _ h=>h.elim) (fun _ _=>trivial) (δk (δi (Below.refl _ _) _) _) ((δk (δi (Below.refl _ _) _) _)).size (by simp only [List.length_nil];omega) ?_;intro v43 w43 ho43 hb43 hg hn;clear hg hn))|((refine Kd.R_append_rows_step k51 (w0:=w) (Rr:=k51.K _) w.heap.size (by rfl) (.tmp 39) (.tmp 42) 24 51 (.agg #[(.string ⟨#[]⟩),(.string ⟨#[]⟩)]) 32 (by rfl) Tryz.underlying24 info51 rfl (by decide) (by decide) _ [] (l0.take i) _ _ _ (fun _=>True) (fun _=>False) (by rfl) (by rfl) (R_empty (Nat.le_refl _) (δo (heap_alloc_new _ _) _)) (Kd.C_alloc (Kd.C_alloc (Kd.C_drewN HTK.out _) _) _) (fun x cs h=>by rw [k51_open h];exact k51_mkM _ _ _ x) (fun _ h=>h.elim) (fun _ _=>trivial) (δk (δk (δi (Below.refl _ _) _) _) _) ((δk (δk (δi (Below.refl _ _) _) _) _)).size (by simp only [List.length_nil];omega) ?_;intro v43 w43 ho43 hb43 hg hn;have hq:=heap_alloc_new ((w.drewN (q'+1)).alloc (.cells #[] 51)) (.cells #[.string a1,.string a2] 51);rw [show ((w.drewN (q'+1)).alloc (.cells #[] 51)).heap.size=w.heap.size+1 by simp] at hq;have hp43:=(hg.block _ (blk_lt hq) (show some (w.heap.size+1)≠some w.heap.size by simp)).trans hq;clear hg hn hq))|((refine Kd.R_append_rows_step k51 (w0:=w) (Rr:=k51.K _) w.heap.size (by rfl) (.tmp 39) (.tmp 42) 24 51 (.agg #[(.string ⟨#[]⟩),(.string ⟨#[]⟩)]) 32 (by rfl) Tryz.underlying24 info51 rfl (by decide) (by decide) _ [] (l0.take i) _ _ _ (fun _=>True) (fun _=>False) (by rfl) (by rfl) (R_empty (Nat.le_succ _) (by have hq:=heap_alloc_new ((w.drewN (q'+1)).alloc (.cells #[.string a1,.string a2] 51)) (.cells #[] 51);rw [show ((w.drewN (q'+1)).alloc (.cells #[.string a1,.string a2] 51)).heap.size=w.heap.size+1 by simp] at hq;exact hq)) (Kd.C_alloc (Kd.C_alloc (Kd.C_drewN HTK.out _) _) _) (fun x cs h=>by rw [k51_open h];exact k51_mkM _ _ _ x) (fun _ h=>h.elim) (fun _ _=>trivial) (δk (δk (δi (Below.refl _ _) _) _) _) ((δk (δk (δi (Below.refl _ _) _) _) _)).size (by simp only [List.length_nil];omega) ?_;intro v43 w43 ho43 hb43 hg hn;have hq:=δo (heap_alloc_new (w.drewN (q'+1)) (.cells #[.string a1,.string a2] 51)) (.cells #[] 51);have hp43:=(hg.block _ (blk_lt hq) (show some w.heap.size≠some (w.heap.size+1) by simp)).trans hq;clear hg hn hq))|((refine Kd.R_append_rows_step k51 (w0:=w) (Rr:=k51.K _) w.heap.size (by rfl) (.tmp 43) (.tmp 47) 24 51 (.agg #[(.string ⟨#[]⟩),(.string ⟨#[]⟩)]) 32 (by rfl) Tryz.underlying24 info51 rfl (by decide) (by decide) _ _ [⟨a1,a2⟩] _ _ _ (fun _=>True) (fun _=>False) (by rfl) (by rfl) (ζd ho43 _) (C_one (heap_alloc_new _ _)) (fun x cs h=>by rw [k51_open h];exact k51_mkM _ _ _ x) (fun _ h=>h.elim) (fun _ _=>trivial) (δk hb43 _) ((δk hb43 _)).size (by simp only [List.nil_append,δh];omega) ?_;intro v48 w48 ho48 hb48 hg hn;clear hg hn))|((refine Kd.R_append_rows_step k51 (w0:=w) (Rr:=k51.K _) w.heap.size (by rfl) (.tmp 43) (.tmp 47) 24 51 (.agg #[(.string ⟨#[]⟩),(.string ⟨#[]⟩)]) 32 (by rfl) Tryz.underlying24 info51 rfl (by decide) (by decide) _ _ [⟨a1,a2⟩] _ _ _ (fun _=>True) (fun _=>False) (by rfl) (by rfl) ho43 (C_one hp43) (fun x cs h=>by rw [k51_open h];exact k51_mkM _ _ _ x) (fun _ h=>h.elim) (fun _ _=>trivial) hb43 (hb43).size (by simp only [List.nil_append,δh];omega) ?_;intro v48 w48 ho48 hb48 hg hn;clear hg hn))|((refine Kd.R_append_rows_step k51 (w0:=w) (Rr:=k51.K _) w.heap.size (by rfl) (.tmp 48) (.tmp 51) 24 51 (.agg #[(.string ⟨#[]⟩),(.string ⟨#[]⟩)]) 32 (by rfl) Tryz.underlying24 info51 rfl (by decide) (by decide) _ _ (l0.drop i) _ _ _ (fun _=>True) (fun _=>False) (by rfl) (by rfl) ho48 (Kd.C_below HDR.out hb48) (fun x cs h=>by rw [k51_open h];exact k51_mkM _ _ _ x) (fun _ h=>h.elim) (fun _ _=>trivial) hb48 (hb48).size (by simp only [List.nil_append,List.length_append,δh,List.length_singleton];omega) ?_;intro v52 w52 ho52 hb52 hg hn;clear hg hn)))
  all_goals (rw [← spec_l03Put.ins l0 i ⟨a1,a2⟩ hi] at ho52;have HO52:=ζa ho52;have HB52:=ζa hb52;clear ho52 hb52 ho48 hb48 ho43 hb43)
  all_goals go_wp2
  all_goals (go_ret2;exact ⟨_,rfl,⟨Or.inr HO52.out⟩,HB52.out⟩)
 ·
  obtain rfl:i=l0.length:=by omega
  clear g2
  go_wp2_with fail
  go_region_held3 (fun _=>True) (trivial) (first|((refine Kd.R_append_rows_step k51 (w0:=w) (Rr:=k51.K _) w.heap.size (by rfl) (.tmp 39) (.tmp 42) 24 51 (.agg #[(.string ⟨#[]⟩),(.string ⟨#[]⟩)]) 32 (by rfl) Tryz.underlying24 info51 rfl (by decide) (by decide) _ [] (l0.take l0.length) _ _ _ (fun _=>True) (fun _=>False) (by rfl) (by rfl) (R_empty (Nat.le_refl _) (heap_alloc_new _ _)) (Kd.C_alloc (Kd.C_drewN HTK.out _) _) (fun x cs h=>by rw [k51_open h];exact k51_mkM _ _ _ x) (fun _ h=>h.elim) (fun _ _=>trivial) (δk (δi (Below.refl _ _) _) _) ((δk (δi (Below.refl _ _) _) _)).size (by simp only [List.length_nil];omega) ?_;intro v43 w43 ho43 hb43 hg hn;clear hg hn))|((refine Kd.R_append_rows_step k51 (w0:=w) (Rr:=k51.K _) w.heap.size (by rfl) (.tmp 39) (.tmp 42) 24 51 (.agg #[(.string ⟨#[]⟩),(.string ⟨#[]⟩)]) 32 (by rfl) Tryz.underlying24 info51 rfl (by decide) (by decide) _ [] (l0.take l0.length) _ _ _ (fun _=>True) (fun _=>False) (by rfl) (by rfl) (R_empty (Nat.le_refl _) (δo (heap_alloc_new _ _) _)) (Kd.C_alloc (Kd.C_alloc (Kd.C_drewN HTK.out _) _) _) (fun x cs h=>by rw [k51_open h];exact k51_mkM _ _ _ x) (fun _ h=>h.elim) (fun _ _=>trivial) (δk (δk (δi (Below.refl _ _) _) _) _) ((δk (δk (δi (Below.refl _ _) _) _) _)).size (by simp only [List.length_nil];omega) ?_;intro v43 w43 ho43 hb43 hg hn;have hq:=heap_alloc_new ((w.drewN (q'+1)).alloc (.cells #[] 51)) (.cells #[.string a1,.string a2] 51);rw [show ((w.drewN (q'+1)).alloc (.cells #[] 51)).heap.size=w.heap.size+1 by simp] at hq;have hp43:=(hg.block _ (blk_lt hq) (show some (w.heap.size+1)≠some w.heap.size by simp)).trans hq;clear hg hn hq))|((refine Kd.R_append_rows_step k51 (w0:=w) (Rr:=k51.K _) w.heap.size (by rfl) (.tmp 39) (.tmp 42) 24 51 (.agg #[(.string ⟨#[]⟩),(.string ⟨#[]⟩)]) 32 (by rfl) Tryz.underlying24 info51 rfl (by decide) (by decide) _ [] (l0.take l0.length) _ _ _ (fun _=>True) (fun _=>False) (by rfl) (by rfl) (R_empty (Nat.le_succ _) (by have hq:=heap_alloc_new ((w.drewN (q'+1)).alloc (.cells #[.string a1,.string a2] 51)) (.cells #[] 51);rw [show ((w.drewN (q'+1)).alloc (.cells #[.string a1,.string a2] 51)).heap.size=w.heap.size+1 by simp] at hq;exact hq)) (Kd.C_alloc (Kd.C_alloc (Kd.C_drewN HTK.out _) _) _) (fun x cs h=>by rw [k51_open h];exact k51_mkM _ _ _ x) (fun _ h=>h.elim) (fun _ _=>trivial) (δk (δk (δi (Below.refl _ _) _) _) _) ((δk (δk (δi (Below.refl _ _) _) _) _)).size (by simp only [List.length_nil];omega) ?_;intro v43 w43 ho43 hb43 hg hn;have hq:=δo (heap_alloc_new (w.drewN (q'+1)) (.cells #[.string a1,.string a2] 51)) (.cells #[] 51);have hp43:=(hg.block _ (blk_lt hq) (show some w.heap.size≠some (w.heap.size+1) by simp)).trans hq;clear hg hn hq))|((refine Kd.R_append_rows_step k51 (w0:=w) (Rr:=k51.K _) w.heap.size (by rfl) (.tmp 43) (.tmp 47) 24 51 (.agg #[(.string ⟨#[]⟩),(.string ⟨#[]⟩)]) 32 (by rfl) Tryz.underlying24 info51 rfl (by decide) (by decide) _ _ [⟨a1,a2⟩] _ _ _ (fun _=>True) (fun _=>False) (by rfl) (by rfl) (ζd ho43 _) (C_one (heap_alloc_new _ _)) (fun x cs h=>by rw [k51_open h];exact k51_mkM _ _ _ x) (fun _ h=>h.elim) (fun _ _=>trivial) (δk hb43 _) ((δk hb43 _)).size (by simp only [List.nil_append,δh];omega) ?_;intro v48 w48 ho48 hb48 hg hn;clear hg hn))|((refine Kd.R_append_rows_step k51 (w0:=w) (Rr:=k51.K _) w.heap.size (by rfl) (.tmp 43) (.tmp 47) 24 51 (.agg #[(.string ⟨#[]⟩),(.string ⟨#[]⟩)]) 32 (by rfl) Tryz.underlying24 info51 rfl (by decide) (by decide) _ _ [⟨a1,a2⟩] _ _ _ (fun _=>True) (fun _=>False) (by rfl) (by rfl) ho43 (C_one hp43) (fun x cs h=>by rw [k51_open h];exact k51_mkM _ _ _ x) (fun _ h=>h.elim) (fun _ _=>trivial) hb43 (hb43).size (by simp only [List.nil_append,δh];omega) ?_;intro v48 w48 ho48 hb48 hg hn;clear hg hn))|((refine Kd.R_append_rows_step k51 (w0:=w) (Rr:=k51.K _) w.heap.size (by rfl) (.tmp 48) (.tmp 51) 24 51 (.agg #[(.string ⟨#[]⟩),(.string ⟨#[]⟩)]) 32 (by rfl) Tryz.underlying24 info51 rfl (by decide) (by decide) _ _ [] _ _ _ (fun _=>True) (fun _=>False) (by rfl) (by rfl) ho48 (C_nilN (by first|rfl|simp)) (fun x cs h=>by rw [k51_open h];exact k51_mkM _ _ _ x) (fun _ h=>h.elim) (fun _ _=>trivial) hb48 (hb48).size (by simp only [List.nil_append,List.length_append,δh,List.length_singleton];omega) ?_;intro v52 w52 ho52 hb52 hg hn;clear hg hn)))
  all_goals (rw [show [] ++ l0.take l0.length ++ [⟨a1,a2⟩] ++ []=l0 ++ [⟨a1,a2⟩] by simp] at ho52;have HO52:=ζa ho52;have HB52:=ζa hb52;clear ho52 hb52 ho48 hb48 ho43 hb43)
  all_goals go_wp2
  all_goals (go_ret2;exact ⟨_,rfl,⟨Or.inr HO52.out⟩,HB52.out⟩)
set_option maxHeartbeats 4000000 in
set_option maxRecDepth 100000 in
theorem spec_l03Put.calls (k:Nat) (A0:Option Addr) (c0:Nat) (l0:List S51) (a1 a2:ByteArray) (r1:List S51) (r2:Int) (w:World) (hr0:Kd.C k51 w A0 l0.length l0) (hc0:l0.length≤c0) (h:spec_l03Put.f k l0 a1 a2=some (r1,r2)) :
  Calls Tryz.prog 104 #[.slice A0 l0.length c0,.string a1,.string a2] w fun e w' => ∃ v0_:Value,e = .returned (.tuple #[v0_,.int .i64 r2])∧Sf w w' (.slice A0 l0.length c0) l0 v0_ r1∧Below w.heap.size w w':=by
 obtain ⟨t,h1,h⟩:=Option.bind_eq_some_iff.mp h
 by_cases hl:l0.length≤1000000
 ·
  rw [if_pos hl] at h
  by_cases g1:0≤t
  ·
   rw [if_pos g1] at h
   by_cases g0:t≤(l0.length:Int)
   ·
    rw [if_pos g0] at h
    obtain ⟨i,rfl⟩ : ∃ i:Nat,t=(i:Int):=⟨t.toNat,by omega⟩
    by_cases g2:(i:Int)<(l0.length:Int)∧((rd_T51 l0 (i:Int)).f0).toList=a1.toList
    ·
     rw [if_pos g2] at h
     simp only [Option.some.injEq,Prod.mk.injEq] at h
     obtain ⟨rfl,rfl⟩:=h
     obtain ⟨g2,g4⟩:=g2
     have H1:=ζa h1
     have HR0:=ζa hr0
     have HC0:=ζa hc0
     clear h1 hr0 hc0
     go_enter Tryz.func104,Tryz.ntmps104
     go_wp2_with fail
     refine (spec_l03At.calls k A0 c0 l0 a1 (i:Int) _ HR0.out HC0.out H1.out).mono ?_
     rintro e w1 ⟨rfl,⟨q',rfl⟩⟩
     obtain ⟨ad,e1,hx0,hx1⟩:=at_T51 HR0.out (i:Int) g1 g2
     simp only [Int.toNat_natCast] at hx0 hx1
     cases e1
     have g6:(((rd_T51 l0 (i:Int)).f0).toList == a1.toList)=τ:=beq_iff_eq.mpr g4
     have HX0:=ζa hx0
     clear g4
     go_wp2_with (first
      | ((with_reducible refine δx (N:=26) rfl ?_);refine Kd.R_lit k51 w.heap.size 51 ?hg (N:=26) ?hd (w0:=w) (xs:=([]:List S51)) (inner:=[]) (ok:=fun _=>True) (okp:=fun _=>True) ?hr ?hp (fun _ hk=>hk) trivial (by repeat (first|exact Below.refl _ _|apply δj|apply δi)) (by exact Nat.le_refl _) (by simp) ?_;(case hd=>rfl);(case hg=>rfl);(case hr=>first|(go_simp;done)|(go_simp;rfl));(case hp=>exact (Reps.none _ _));intro v26 w26 ho26 hb26 hg_ hnew_;clear hg_ hnew_;have HO:=ζa ho26;have HB:=ζa hb26;clear ho26 hb26)
      | ((with_reducible refine δx (N:=28) rfl ?_);refine Kd.R_append_rows (w0:=w) (Rr:=k51.K w26) k51 w.heap.size ?hg (.tmp 26) (.tmp 27) 24 51 (.agg #[(.string ⟨#[]⟩),(.string ⟨#[]⟩)]) 32 rfl Tryz.underlying24 info51 rfl (by decide) (by decide) v26 [] l0 (some ad) l0.length c0 (fun _=>True) (fun _=>False) rfl rfl HO.out (Kd.C_below HR0.out HB.out) (fun x cs h=>by rw [k51_open h];exact k51_mkM _ _ _ x) (fun _ h=>h.elim) (fun _ _=>trivial) HB.out HB.out.size (by simp only [List.length_nil];omega) ?_;(case hg=>rfl);intro v28 w28 ho28 hb28 hg_ hnew_;clear hg_ hnew_;obtain ⟨g,c,rfl,hwg⟩ : ∃ g c,v28 = .slice (some ⟨g,0,none⟩) l0.length c∧w.heap.size≤g:=(by obtain ⟨g,c,hv,hb,_⟩:=Kd.R_form ho28 (by simp only [List.nil_append];omega);exact ⟨g,c,hv,hb⟩);have HO28:Aside0 (Kd.R k51 51 w28 w.heap.size (fun _=>True) (.slice (some ⟨g,0,none⟩) l0.length c) l0):=⟨ho28⟩;have HB28:=ζa hb28;have HG:=ζa hwg;clear ho28 hb28 hwg;obtain ⟨ce,hcl,hM,hcc,hfr⟩:=Kd.R_elem HO28.out z51 (i:Int) g1 g2;obtain rfl:=k51_openM hM;have HP:=ζa (Kd.R_seg HO28.out (i:Int) g1 g2 (seg:=[.string a2]) (j:=1) hcl hcc (show 2≤2 from by decide) (x':=(⟨(rd_T51 l0 (i:Int)).f0,a2⟩:S51)) (k51_mkM _ _ _ (⟨(rd_T51 l0 (i:Int)).f0,a2⟩:S51)) (fun _ hk=>hk));have hy1:w28.cell? ⟨g,i * 2+1,none⟩=some (.string ((rd_T51 l0 (i:Int)).f1)):=hcc 1 _ rfl;have hf1:w28.frozen? ⟨g,i * 2+1,none⟩=φ:=hfr 1;clear hcl hcc hfr hM)
      | ((with_reducible refine gate_store (t:=9) (p:=33) rfl ?_);refine store_event (t:=9) (p:=33) (v:=?vo) (w1:=(w28.setCell ⟨g,i * 2+1,none⟩ (.string a2))) ?hg ?ho ?hn ?hr ?_;(case ho=>rfl);(case hg=>rfl);(case hn=>rfl);(case hr=>(go_simp;done));intro w3 hw;have HO3:Aside0 (Kd.R k51 51 w3 w.heap.size (fun _=>True) (.slice (some ⟨g,0,none⟩) l0.length c) (l0.set (i:Int).toNat ⟨(rd_T51 l0 (i:Int)).f0,a2⟩)):=⟨by rw [hw];exact HP.out.1⟩;have HB3:Aside0 (Below w.heap.size w w3):=⟨by rw [hw];exact δq HB28.out HG.out⟩;clear hw))
     go_wp2
     go_ret2
     exact ⟨_,rfl,⟨Or.inr HO3.out⟩,HB3.out⟩
    ·
     rw [if_neg g2] at h
     by_cases g3:(l0.length:Int)=400
     ·
      rw [if_pos g3] at h
      simp only [Option.some.injEq,Prod.mk.injEq] at h
      obtain ⟨rfl,rfl⟩:=h
      have H1:=ζa h1
      have HR0:=ζa hr0
      have HC0:=ζa hc0
      have HN:=ζa g2
      have c4:((l0.length:Int) == 400)=τ:=beq_iff_eq.mpr g3
      have c5:(l0.length == 400)=τ:=beq_iff_eq.mpr (by omega)
      have HB1:Aside0 (Below w.heap.size w w):=⟨Below.refl _ _⟩
      clear h1 hr0 hc0 g2 g3
      go_enter Tryz.func104,Tryz.ntmps104
      go_wp2_with fail
      refine (spec_l03At.calls k A0 c0 l0 a1 (i:Int) _ HR0.out HC0.out H1.out).mono ?_
      rintro e w1 ⟨rfl,⟨q',rfl⟩⟩
      by_cases g2:(i:Int)<(l0.length:Int)
      ·
       obtain ⟨ad,e1,hx0,hx1⟩:=at_T51 HR0.out (i:Int) g1 g2
       simp only [Int.toNat_natCast] at hx0 hx1
       cases e1
       have g6:(((rd_T51 l0 (i:Int)).f0).toList == a1.toList)=φ:=beq_eq_false_iff_ne.mpr (fun e=>HN.out ⟨g2,e⟩)
       go_wp2
       go_ret2
       exact ⟨_,rfl,⟨Or.inl ⟨rfl,rfl⟩⟩,by repeat (first|exact HB1.out|apply δj|apply δi)⟩
      ·
       have g2b:decide ((i:Int)<(l0.length:Int))=φ:=decide_eq_false g2
       go_wp2
       go_ret2
       exact ⟨_,rfl,⟨Or.inl ⟨rfl,rfl⟩⟩,by repeat (first|exact HB1.out|apply δj|apply δi)⟩
     ·
      rw [if_neg g3] at h
      simp only [Option.some.injEq,Prod.mk.injEq] at h
      obtain ⟨rfl,rfl⟩:=h
      exact spec_l03Put.miss k A0 c0 l0 a1 a2 i w hr0 hc0 h1 hl (by omega) (fun h5 e=>g2 ⟨h5,e⟩) g3
   · rw [if_neg g0] at h;cases h
  ·
   rw [if_neg g1] at h;cases h
 · rw [if_neg hl] at h;cases h


open Go.Proofs.YtabmfhnhmoiljaaGreatDoorW.PrintWords renaming below_alloc → δk, pw_below_drewN → δi, below_drew1 → δj, gate_callee → δv, below_step → δr, gate_dst → δx, below_size → δs
open List renaming map_toArray → δd, map_cons → δe, map_nil → δf, length_drop → δg, length_take → δh, setIfInBounds_toArray → δa, set_cons_zero → δb, set_cons_succ → δc
open Go.Proofs.YtabmfhnhmoiljaaGreatDoorW.PrintLast renaming pure_ → ζk, any_of → ζj
open Go.Act renaming put → ζl
open Go.Proofs.YtabmfhnhmoiljaaGreatDoorW.PrintWords.Kd renaming R_alloc → ζd, R_drewN → ζc, R_drew → ζe, R_below → ζh

/-! ### spec_l00Digits: function 137 -/
def spec_l00Digits.f:Nat→Int→Option (ByteArray)
 | 0,_=>none
 | k+1,a0=>if a0=(-9223372036854775808) then (some (⟨#[45,57,50,50,51,51,55,50,48,51,54,56,53,52,55,55,53,56,48,56]⟩:ByteArray)) else (if a0<0 then ((spec_l00Digits.f k (ζm (-a0))).bind fun t127=>(if 1+t127.size≤9223372036854775807 then (some ((⟨#[45]⟩:ByteArray) ++ t127)) else (none))) else (if a0<10 then (some (strOfNums (([(ζm (48+a0)) % 256]:List Int)))) else ((spec_l00Digits.f k (ζm (Int.tdiv a0 10))).bind fun t131=>((some (([(ζm (48+(Int.tmod a0 10))) % 256]:List Int):List Int)).bind fun y132=>(if t131.size+(strOfNums y132).size≤9223372036854775807 then (some (t131 ++ (strOfNums y132))) else (none))))))
def spec_l00Digits.T7:Bool × List (List Nat × List Nat):=(τ,[([],[]),([0],[0]),([1],[1]),([],[]),([3],[3]),([4],[4]),([5],[5]),([6],[6]),([7],[7]),([2,8],[2,8]),([9,2,0,1,2,3,4,5,6,7,8,9],[9])])
def spec_l00Digits.B7:List Nat:=[0,1,3,0,8,24,56,120,248,511,1023]
theorem spec_l00Digits.tab7:rtab .any (opsOf Tryz.f137 7)=spec_l00Digits.T7:=by kernel_rfl
theorem spec_l00Digits.bits7:waitsOk spec_l00Digits.T7.2 spec_l00Digits.B7=τ:=by kernel_rfl
set_option maxHeartbeats 8000000 in
set_option maxRecDepth 100000 in
theorem spec_l00Digits.calls (k:Nat) : ∀ (a0:Int) (r:ByteArray) (w:World) (h:spec_l00Digits.f k a0=some r),
  Calls Tryz.prog 137 #[.int .i64 a0] w fun e w'=>e = .returned (.string r)∧Below w.heap.size w w':=by
 induction k using Nat.strongRecOn with
 | _ k ih =>
 intro a0 r w h
 cases k with
 | zero=>exact absurd h (by simp [spec_l00Digits.f])
 | succ k =>
 simp only [spec_l00Digits.f] at h
 have HB:=ζa (Below.refl w.heap.size w)
 have H:(if a0=(-9223372036854775808) then (some (⟨#[45,57,50,50,51,51,55,50,48,51,54,56,53,52,55,55,53,56,48,56]⟩:ByteArray)) else (if a0<0 then ((spec_l00Digits.f k (ζm (-a0))).bind fun t127=>(if 1+t127.size≤9223372036854775807 then (some ((⟨#[45]⟩:ByteArray) ++ t127)) else (none))) else (if a0<10 then (some (strOfNums (([(ζm (48+a0)) % 256]:List Int)))) else ((spec_l00Digits.f k (ζm (Int.tdiv a0 10))).bind fun t131=>((some (([(ζm (48+(Int.tmod a0 10))) % 256]:List Int):List Int)).bind fun y132=>(if t131.size+(strOfNums y132).size≤9223372036854775807 then (some (t131 ++ (strOfNums y132))) else (none)))))))=some r:=h
 clear h
 by_cases c2:a0=(-9223372036854775808)
 ·
  rw [if_pos c2] at H
  have c2b0:(a0 == (-9223372036854775808))=τ:=beq_iff_eq.mpr c2
  have c2b1:(a0 != (-9223372036854775808))=φ:=bne_eq_false_iff_eq.mpr c2
  clear c2
  obtain rfl:=Option.some.inj H
  go_enter Tryz.func137,Tryz.ntmps137
  go_wp2
  go_ret
  exact ⟨by first|rfl|(simp [errW_none,errW_some] <;> rfl)|(simp [*,errW_none,errW_some] <;> rfl),by repeat (first|(with_reducible first|exact HB.out|apply δk|apply δi|apply δj)|exact HB.out)⟩
 ·
  rw [if_neg c2] at H
  have c2b0:(a0 == (-9223372036854775808))=φ:=beq_eq_false_iff_ne.mpr c2
  have c2b1:(a0 != (-9223372036854775808))=τ:=bne_iff_ne.mpr c2
  by_cases c3:a0<0
  ·
   rw [if_pos c3] at H
   have c3b0:decide (a0<0)=τ:=decide_eq_true c3
   clear c3
   replace H:=Option.bind_eq_some_iff.mp H
   obtain ⟨t127,A40,H⟩:=H
   replace H:(if 1+t127.size≤9223372036854775807 then (some ((⟨#[45]⟩:ByteArray) ++ t127)) else (none))=some r:=H
   have A4:=ζa A40
   clear A40
   by_cases c5:1+t127.size≤9223372036854775807
   ·
    rw [if_pos c5] at H
    have c5b0:=eq_true c5
    have c5b1:decide (1+t127.size≤9223372036854775807)=τ:=decide_eq_true c5
    try have c5b2:(9223372036854775807<1+t127.size)=False:=eq_false (Nat.not_lt.2 c5)
    obtain rfl:=Option.some.inj H
    go_enter Tryz.func137,Tryz.ntmps137
    go_wp2_with (first|((with_reducible refine δv (f:=137) rfl ?_);refine goesL_ (some 9) rfl rfl Tryz.func137 (by kernel_rfl) rfl #[.int .i64 (ζm (-a0))] rfl (by (try simp only [δd,δe,δf]);first|done|rfl|(simp only [δg,δh];rfl)) ?_;(with_reducible refine (ih k (by omega) (ζm (-a0)) t127 _ A4.out).mono ?_);rintro e w6 ⟨rfl,hb⟩;refine ⟨_,rfl,?_⟩;have n0_:=ζa (δr (by repeat (first|(with_reducible first|exact HB.out|apply δk|apply δi|apply δj)|exact HB.out)) hb);clear HB;have HB:=n0_;clear n0_;(try clear hb);(try clear hb2);(try clear hk);(try clear hi)))
    go_ret
    exact ⟨by first|rfl|(simp [errW_none,errW_some] <;> rfl)|(simp [*,errW_none,errW_some] <;> rfl),by repeat (first|(with_reducible first|exact HB.out|apply δk|apply δi|apply δj)|exact HB.out)⟩
   ·
    rw [if_neg c5] at H
    exact absurd H (by simp)
  ·
   rw [if_neg c3] at H
   have c3b0:decide (a0<0)=φ:=decide_eq_false c3
   clear c3
   by_cases c7:a0<10
   ·
    rw [if_pos c7] at H
    have c7b0:decide (a0<10)=τ:=decide_eq_true c7
    clear c7
    obtain ⟨y128,hy128⟩ : ∃ y_:List Int,y_=(([(ζm (48+a0)) % 256]:List Int)):=⟨_,rfl⟩
    replace H:(some (strOfNums y128))=some r:=by first|(rw [hy128];with_reducible exact H)|(have H2_:=(Option.bind_some _ _).symm.trans H;rw [hy128];with_reducible exact H2_)|(have H2_:=(Option.bind_some _ _).symm.trans H;with_reducible exact H2_)|with_reducible exact H|(rw [hy128];exact H)|exact H
    have Ny128:=ζa hy128
    clear hy128
    obtain rfl:=Option.some.inj H
    go_enter Tryz.func137,Tryz.ntmps137
    go_wp2_with (first|((with_reducible refine δx (N:=16) rfl ?_);refine Kd.R_lit (Kd.int .u8) _ 5 ?hg (N:=16) ?hd (xs:=([(ζm (48+a0)) % 256]:List Int)) (inner:=[.int .u8 ((ζm (48+a0)) % 256)]) (ok:=fun _=>True) (okp:=fun _=>True) ?hr ?hp (fun _ hk=>hk) trivial (Below.refl _ _) (Nat.le_refl _) (by simp) ?_;(case hd=>rfl);(case hg=>rfl);(case hr=>first|(go_simp;done)|(go_simp;rfl));(case hp=>exact (Reps.one (show Kd.M (Kd.int .u8) _ _ _ ((ζm (48+a0)) % 256) [.int .u8 ((ζm (48+a0)) % 256)] from rfl) (Reps.none _ _)));intro v129 w8 ho9 hb hg_ hnew_;clear hg_ hnew_;(first|rw [← Ny128.out] at ho9|(simp only [Int.reduceToNat] at ho9;rw [← Ny128.out] at ho9));have n0_:=ζa (Kd.R_lower ho9 (δs (by repeat (first|(with_reducible first|exact HB.out|apply δk|apply δi|apply δj)|exact HB.out))));have n1_:=ζa (δr (by repeat (first|(with_reducible first|exact HB.out|apply δk|apply δi|apply δj)|exact HB.out)) hb);clear HB;have HO130:=n0_;have HB:=n1_;clear n0_ n1_;clear hb ho9;have hcv10:=own_string (P:=Tryz.prog) Tryz.underlying82 Tryz.underlying5 Tryz.underlying9 (Kd.own_of_R HO130.out)))
    go_ret
    exact ⟨by first|rfl|(simp [errW_none,errW_some] <;> rfl)|(simp [*,errW_none,errW_some] <;> rfl),by repeat (first|(with_reducible first|exact HB.out|apply δk|apply δi|apply δj)|exact HB.out)⟩
   ·
    rw [if_neg c7] at H
    have c7b0:decide (a0<10)=φ:=decide_eq_false c7
    clear c7
    replace H:=Option.bind_eq_some_iff.mp H
    obtain ⟨t131,A110,H⟩:=H
    replace H:((some (([(ζm (48+(Int.tmod a0 10))) % 256]:List Int):List Int)).bind fun y132=>(if t131.size+(strOfNums y132).size≤9223372036854775807 then (some (t131 ++ (strOfNums y132))) else (none)))=some r:=H
    have A11:=ζa A110
    clear A110
    obtain ⟨y132,hy132⟩ : ∃ y_:List Int,y_=(([(ζm (48+(Int.tmod a0 10))) % 256]:List Int)):=⟨_,rfl⟩
    replace H:(if t131.size+(strOfNums y132).size≤9223372036854775807 then (some (t131 ++ (strOfNums y132))) else (none))=some r:=by first|(rw [hy132];with_reducible exact H)|(have H2_:=(Option.bind_some _ _).symm.trans H;rw [hy132];with_reducible exact H2_)|(have H2_:=(Option.bind_some _ _).symm.trans H;with_reducible exact H2_)|with_reducible exact H|(rw [hy132];exact H)|exact H
    have Ny132:=ζa hy132
    clear hy132
    by_cases c12:t131.size+(strOfNums y132).size≤9223372036854775807
    ·
     rw [if_pos c12] at H
     have c12b0:=eq_true c12
     have c12b1:decide (t131.size+(strOfNums y132).size≤9223372036854775807)=τ:=decide_eq_true c12
     try have c12b2:(9223372036854775807<t131.size+(strOfNums y132).size)=False:=eq_false (Nat.not_lt.2 c12)
     obtain rfl:=Option.some.inj H
     go_enter Tryz.func137,Tryz.ntmps137
     try go_wp2
     have n0_:=ζa (δj HB.out)
     clear HB
     have HB:=n0_
     clear n0_
     refine start_ (n:=11) (S:=fun w'=>True) (ds:=[]) #[φ,φ,φ,φ,φ,φ,φ,φ,φ,φ,φ] (by kernel_rfl) rfl rfl trivial (fun hHeld => ?_);refine with_tabW spec_l00Digits.tab7 spec_l00Digits.bits7 (fun HT_ HW_ => ?_)
     generalize w.drew=w13 at HB hHeld ⊢
     refine ζk (i:=0) (N:=some 18) (v:=?_) (a':=?_) #[τ,φ,φ,φ,φ,φ,φ,φ,φ,φ,φ] rfl rfl (ζj HT_.out (by kernel_rfl)) (fun _ _ _ h=>h) (Or.inl ⟨by rfl,?_⟩) ?_ ?_
     rotate_left
     · intro w';go_simp;with_reducible rfl
     rotate_left
     · simp only [ζl,δa,δb,δc,i64_w,i32_w];rfl
     refine ζk (i:=1) (N:=some 19) (v:=?_) (a':=?_) #[τ,τ,φ,φ,φ,φ,φ,φ,φ,φ,φ] rfl rfl (ζj HT_.out (by kernel_rfl)) (fun _ _ _ h=>h) (Or.inl ⟨by rfl,?_⟩) ?_ ?_
     rotate_left
     · intro w';go_simp;with_reducible rfl
     rotate_left
     · simp only [ζl,δa,δb,δc,i64_w,i32_w];rfl
     refine ζk (i:=3) (N:=some 21) (v:=?_) (a':=?_) #[τ,τ,φ,τ,φ,φ,φ,φ,φ,φ,φ] rfl rfl (ζj HT_.out (by kernel_rfl)) (fun _ _ _ h=>h) (Or.inl ⟨by rfl,?_⟩) ?_ ?_
     rotate_left
     · intro w';go_simp;with_reducible rfl
     rotate_left
     · simp only [ζl,δa,δb,δc,i64_w,i32_w];rfl
     refine ζk (i:=4) (N:=some 22) (v:=?_) (a':=?_) #[τ,τ,φ,τ,τ,φ,φ,φ,φ,φ,φ] rfl rfl (ζj HT_.out (by kernel_rfl)) (fun _ _ _ h=>h) (Or.inl ⟨by rfl,?_⟩) ?_ ?_
     rotate_left
     · intro w';go_simp;with_reducible rfl
     rotate_left
     · simp only [ζl,δa,δb,δc,i64_w,i32_w];rfl
     refine ζk (i:=5) (N:=some 23) (v:=?_) (a':=?_) #[τ,τ,φ,τ,τ,τ,φ,φ,φ,φ,φ] rfl rfl (ζj HT_.out (by kernel_rfl)) (fun _ _ _ h=>h) (Or.inl ⟨by rfl,?_⟩) ?_ ?_
     rotate_left
     · intro w';go_simp;with_reducible rfl
     rotate_left
     · simp only [ζl,δa,δb,δc,i64_w,i32_w];rfl
     refine ζk (i:=6) (N:=some 24) (v:=?_) (a':=?_) #[τ,τ,φ,τ,τ,τ,τ,φ,φ,φ,φ] rfl rfl (ζj HT_.out (by kernel_rfl)) (fun _ _ _ h=>h) (Or.inl ⟨by rfl,?_⟩) ?_ ?_
     rotate_left
     · intro w';go_simp;with_reducible rfl
     rotate_left
     · simp only [ζl,δa,δb,δc,i64_w,i32_w];rfl
     refine join_ (σ:=Value) 2 #[τ,τ,τ,τ,τ,τ,τ,τ,τ,φ,φ] (fun s_ => [(20,.string t131),(25,s_),(26,.string (strOfNums y132))]) (fun s_ w'=>(Kd.R (Kd.int .u8) 5 w' w.heap.size (fun _=>True) s_ y132)∧(Below w.heap.size w w')) ?_ ?_
     rotate_left
     ·
      intro hCont
      refine two_ (i:=2) (j:=7) (Ni:=some 20) (Nj:=some 25) #[τ,τ,τ,τ,τ,τ,τ,φ,φ,φ,φ] #[τ,τ,φ,τ,τ,τ,τ,τ,φ,φ,φ] rfl rfl rfl rfl (two_of HT_.out (by kernel_rfl)) (by decide) (by decide) (fun K hK => ?_) (fun K hK => ?_)
      ·
       skip
       refine goes_ Tryz.func137 (by kernel_rfl) rfl #[.int .i64 (ζm (Int.tdiv a0 10))] (by rfl) rfl rfl (by (try simp only [δd,δe,δf]);first|done|rfl|(simp only [δg,δh];rfl)) ?_
       with_reducible refine (ih k (by omega) (ζm (Int.tdiv a0 10)) t131 _ A11.out).mono ?_
       rintro e w14 ⟨rfl,hb⟩
       refine ⟨_,rfl,?_⟩
       have n0_:=ζa (δr (by repeat (first|(with_reducible first|exact HB.out|apply δk|apply δi|apply δj)|exact HB.out)) hb)
       clear HB
       have HB:=n0_
       clear n0_
       (try clear hb)
       (try clear hb2)
       (try clear hk)
       (try clear hi)
       refine hK.out _ _ trivial (fun hHeld => ?_)
       clear hK K
       refine norm_ (a':=?_) ?_ ?_
       rotate_left
       ·
        show ζl _ (some 20) _=_
        simp only [ζl,δa,δb,δc,i64_w,i32_w];rfl
       refine one_ (i:=7) (N:=some 25) #[τ,τ,τ,τ,τ,τ,τ,τ,φ,φ,φ] rfl rfl (one_of HT_.out (by kernel_rfl)) (by decide) (fun K hK => ?_)
       refine Kd.R_lit_step (Kd.int .u8) _ 5 ?hg (N:=25) ?hd (xs:=([(ζm (48+(Int.tmod a0 10))) % 256]:List Int)) (inner:=[.int .u8 ((ζm (48+(Int.tmod a0 10))) % 256)]) (ok:=fun _=>True) (okp:=fun _=>True) ?hr ?hp (fun _ hk=>hk) trivial (Below.refl _ _) (Nat.le_refl _) (by simp) ?_;(case hd=>rfl);(case hg=>rfl);(case hr=>first|(go_simp;done)|(go_simp;rfl));(case hp=>exact (Reps.one (show Kd.M (Kd.int .u8) _ _ _ ((ζm (48+(Int.tmod a0 10))) % 256) [.int .u8 ((ζm (48+(Int.tmod a0 10))) % 256)] from rfl) (Reps.none _ _)))
       intro v133 w15 ho16 hb hg_ hnew_
       clear hg_ hnew_
       (first|rw [← Ny132.out] at ho16|(simp only [Int.reduceToNat] at ho16;rw [← Ny132.out] at ho16))
       have n0_:=ζa (Kd.R_lower ho16 (δs (by repeat (first|(with_reducible first|exact HB.out|apply δk|apply δi|apply δj)|exact HB.out))))
       have n1_:=ζa (δr (by repeat (first|(with_reducible first|exact HB.out|apply δk|apply δi|apply δj)|exact HB.out)) hb)
       clear HB
       have HO134:=n0_
       have HB:=n1_
       clear n0_ n1_
       clear hb ho16
       refine hK.out _ _ trivial (fun hHeld => ?_)
       clear hK K
       refine norm_ (a':=?_) ?_ ?_
       rotate_left
       ·
        show ζl _ (some 25) _=_
        simp only [ζl,δa,δb,δc,i64_w,i32_w];rfl
       refine one_ (i:=8) (N:=some 26) #[τ,τ,τ,τ,τ,τ,τ,τ,τ,φ,φ] rfl rfl (one_of HT_.out (by kernel_rfl)) (by decide) (fun K hK => ?_)
       have hcv17:=own_string (P:=Tryz.prog) Tryz.underlying82 Tryz.underlying5 Tryz.underlying9 (Kd.own_of_R HO134.out)
       refine value_ (w1:=?_) (v:=?_) (by rfl) rfl ?_ ?_
       rotate_left 2
       ·
        go_simp
        constructor
        · rfl
        ·
         rfl
       clear hcv17
       refine hK.out _ _ trivial (fun hHeld => ?_)
       clear hK K
       refine norm_ (a':=?_) ?_ ?_
       rotate_left
       ·
        show ζl _ (some 26) _=_
        simp only [ζl,δa,δb,δc,i64_w,i32_w];rfl
       exact norm_ (by simp only [putAll,ζl,δa,δb,δc]) (hCont (v133) _ ⟨(by (with_reducible repeat (first|apply ζd|apply ζc|apply ζe));exact HO134.out),(by repeat (first|(with_reducible first|exact HB.out|apply δk|apply δi|apply δj)|exact HB.out))⟩)
      ·
       skip
       refine Kd.R_lit_step (Kd.int .u8) _ 5 ?hg (N:=25) ?hd (xs:=([(ζm (48+(Int.tmod a0 10))) % 256]:List Int)) (inner:=[.int .u8 ((ζm (48+(Int.tmod a0 10))) % 256)]) (ok:=fun _=>True) (okp:=fun _=>True) ?hr ?hp (fun _ hk=>hk) trivial (Below.refl _ _) (Nat.le_refl _) (by simp) ?_;(case hd=>rfl);(case hg=>rfl);(case hr=>first|(go_simp;done)|(go_simp;rfl));(case hp=>exact (Reps.one (show Kd.M (Kd.int .u8) _ _ _ ((ζm (48+(Int.tmod a0 10))) % 256) [.int .u8 ((ζm (48+(Int.tmod a0 10))) % 256)] from rfl) (Reps.none _ _)))
       intro v133 w14 ho15 hb hg_ hnew_
       clear hg_ hnew_
       (first|rw [← Ny132.out] at ho15|(simp only [Int.reduceToNat] at ho15;rw [← Ny132.out] at ho15))
       have n0_:=ζa (Kd.R_lower ho15 (δs (by repeat (first|(with_reducible first|exact HB.out|apply δk|apply δi|apply δj)|exact HB.out))))
       have n1_:=ζa (δr (by repeat (first|(with_reducible first|exact HB.out|apply δk|apply δi|apply δj)|exact HB.out)) hb)
       clear HB
       have HO134:=n0_
       have HB:=n1_
       clear n0_ n1_
       clear hb ho15
       refine hK.out _ _ trivial (fun hHeld => ?_)
       clear hK K
       refine norm_ (a':=?_) ?_ ?_
       rotate_left
       ·
        show ζl _ (some 25) _=_
        simp only [ζl,δa,δb,δc,i64_w,i32_w];rfl
       refine two_ (i:=2) (j:=8) (Ni:=some 20) (Nj:=some 26) #[τ,τ,τ,τ,τ,τ,τ,τ,φ,φ,φ] #[τ,τ,φ,τ,τ,τ,τ,τ,τ,φ,φ] rfl rfl rfl rfl (two_of HT_.out (by kernel_rfl)) (by decide) (by decide) (fun K hK => ?_) (fun K hK => ?_)
       ·
        skip
        refine goes_ Tryz.func137 (by kernel_rfl) rfl #[.int .i64 (ζm (Int.tdiv a0 10))] (by rfl) rfl rfl (by (try simp only [δd,δe,δf]);first|done|rfl|(simp only [δg,δh];rfl)) ?_
        with_reducible refine (ih k (by omega) (ζm (Int.tdiv a0 10)) t131 _ A11.out).mono ?_
        rintro e w16 ⟨rfl,hb⟩
        refine ⟨_,rfl,?_⟩
        have n0_:=ζa (ζh (by (with_reducible repeat (first|apply ζd|apply ζc|apply ζe));exact HO134.out) hb)
        have n1_:=ζa (δr (by repeat (first|(with_reducible first|exact HB.out|apply δk|apply δi|apply δj)|exact HB.out)) hb)
        clear HO134
        clear HB
        have HO134:=n0_
        have HB:=n1_
        clear n0_ n1_
        (try clear hb)
        (try clear hb2)
        (try clear hk)
        (try clear hi)
        refine hK.out _ _ trivial (fun hHeld => ?_)
        clear hK K
        refine norm_ (a':=?_) ?_ ?_
        rotate_left
        ·
         show ζl _ (some 20) _=_
         simp only [ζl,δa,δb,δc,i64_w,i32_w];rfl
        refine one_ (i:=8) (N:=some 26) #[τ,τ,τ,τ,τ,τ,τ,τ,τ,φ,φ] rfl rfl (one_of HT_.out (by kernel_rfl)) (by decide) (fun K hK => ?_)
        have hcv17:=own_string (P:=Tryz.prog) Tryz.underlying82 Tryz.underlying5 Tryz.underlying9 (Kd.own_of_R HO134.out)
        refine value_ (w1:=?_) (v:=?_) (by rfl) rfl ?_ ?_
        rotate_left 2
        ·
         go_simp
         constructor
         · rfl
         ·
          rfl
        clear hcv17
        refine hK.out _ _ trivial (fun hHeld => ?_)
        clear hK K
        refine norm_ (a':=?_) ?_ ?_
        rotate_left
        ·
         show ζl _ (some 26) _=_
         simp only [ζl,δa,δb,δc,i64_w,i32_w];rfl
        exact norm_ (by simp only [putAll,ζl,δa,δb,δc]) (hCont (v133) _ ⟨(by (with_reducible repeat (first|apply ζd|apply ζc|apply ζe));exact HO134.out),(by repeat (first|(with_reducible first|exact HB.out|apply δk|apply δi|apply δj)|exact HB.out))⟩)
       ·
        skip
        have hcv16:=own_string (P:=Tryz.prog) Tryz.underlying82 Tryz.underlying5 Tryz.underlying9 (Kd.own_of_R HO134.out)
        refine value_ (w1:=?_) (v:=?_) (by rfl) rfl ?_ ?_
        rotate_left 2
        ·
         go_simp
         constructor
         · rfl
         ·
          rfl
        clear hcv16
        refine hK.out _ _ trivial (fun hHeld => ?_)
        clear hK K
        refine norm_ (a':=?_) ?_ ?_
        rotate_left
        ·
         show ζl _ (some 26) _=_
         simp only [ζl,δa,δb,δc,i64_w,i32_w];rfl
        refine one_ (i:=2) (N:=some 20) #[τ,τ,τ,τ,τ,τ,τ,τ,τ,φ,φ] rfl rfl (one_of HT_.out (by kernel_rfl)) (by decide) (fun K hK => ?_)
        refine goes_ Tryz.func137 (by kernel_rfl) rfl #[.int .i64 (ζm (Int.tdiv a0 10))] (by rfl) rfl rfl (by (try simp only [δd,δe,δf]);first|done|rfl|(simp only [δg,δh];rfl)) ?_
        with_reducible refine (ih k (by omega) (ζm (Int.tdiv a0 10)) t131 _ A11.out).mono ?_
        rintro e w17 ⟨rfl,hb⟩
        refine ⟨_,rfl,?_⟩
        have n0_:=ζa (ζh (by (with_reducible repeat (first|apply ζd|apply ζc|apply ζe));exact HO134.out) hb)
        have n1_:=ζa (δr (by repeat (first|(with_reducible first|exact HB.out|apply δk|apply δi|apply δj)|exact HB.out)) hb)
        clear HO134
        clear HB
        have HO134:=n0_
        have HB:=n1_
        clear n0_ n1_
        (try clear hb)
        (try clear hb2)
        (try clear hk)
        (try clear hi)
        refine hK.out _ _ trivial (fun hHeld => ?_)
        clear hK K
        refine norm_ (a':=?_) ?_ ?_
        rotate_left
        ·
         show ζl _ (some 20) _=_
         simp only [ζl,δa,δb,δc,i64_w,i32_w];rfl
        exact norm_ (by simp only [putAll,ζl,δa,δb,δc]) (hCont (v133) _ ⟨(by (with_reducible repeat (first|apply ζd|apply ζc|apply ζe));exact HO134.out),(by repeat (first|(with_reducible first|exact HB.out|apply δk|apply δi|apply δj)|exact HB.out))⟩)
     rintro v133 w18 ⟨h0_,h1_⟩
     have n0_:Aside0 (Kd.R (Kd.int .u8) 5 w18 w.heap.size (fun _=>True) v133 y132):=⟨h0_⟩
     have n1_:Aside0 (Below w.heap.size w w18):=⟨h1_⟩
     clear HB
     clear h0_ h1_
     have HO134:=n0_
     have HB:=n1_
     clear n0_ n1_
     have hHeld:=trivial
     refine norm_ (a':=?_) ?_ ?_
     rotate_left
     · simp only [putAll,ζl,δa,δb,δc];rfl
     refine ζk (i:=9) (N:=some 27) (v:=?_) (a':=?_) #[τ,τ,τ,τ,τ,τ,τ,τ,τ,τ,φ] rfl rfl (ζj HT_.out (by kernel_rfl)) (fun _ _ _ h=>h) (Or.inl ⟨by rfl,?_⟩) ?_ ?_
     rotate_left
     · intro w';go_simp;with_reducible rfl
     rotate_left
     · simp only [ζl,δa,δb,δc,i64_w,i32_w];rfl
     refine ζk (i:=10) (N:=some 2) (v:=?_) (a':=?_) #[τ,τ,τ,τ,τ,τ,τ,τ,τ,τ,τ] rfl rfl (ζj HT_.out (by kernel_rfl)) (fun _ _ _ h=>h) (Or.inl ⟨by rfl,?_⟩) ?_ ?_
     rotate_left
     · intro w';go_simp;with_reducible rfl
     rotate_left
     · simp only [ζl,δa,δb,δc,i64_w,i32_w];rfl
     refine done_ (done_of HT_.out (by kernel_rfl)) ?_
     try go_wp2
     go_ret
     exact ⟨by first|rfl|(simp [errW_none,errW_some] <;> rfl)|(simp [*,errW_none,errW_some] <;> rfl),by repeat (first|(with_reducible first|exact HB.out|apply δk|apply δi|apply δj)|exact HB.out)⟩
    ·
     rw [if_neg c12] at H
     exact absurd H (by simp)


open Go.Proofs.YtabmfhnhmoiljaaGreatDoorW.PrintWords renaming below_alloc → δk, below_drew1 → δj, pw_below_drewN → δi, below_step → δr

/-! ### spec_l05Write: function 184 -/
def spec_l05Write.f (k:Nat) (list:List S51) (key:ByteArray) (n:Int):Option (List S51 × Int) :=
 if n=0 then ((spec_l03Drop.f k list key).bind fun q1=>some (q1.1,0)) else ((spec_l00Digits.f k n).bind fun q2=>(spec_l03Put.f k list key q2).bind fun q3=>some (q3.1,q3.2))
set_option maxHeartbeats 4000000 in
set_option maxRecDepth 100000 in
theorem spec_l05Write.calls (k:Nat) (A_list:Option Addr) (c_list:Nat) (list:List S51) (key:ByteArray) (n:Int) (r1:List S51) (r2:Int) (w:World) (hr0_list:Kd.C k51 w A_list list.length list) (hc0_list:list.length≤c_list) (h:spec_l05Write.f k list key n=some (r1,r2)) :
  Calls Tryz.prog 184 #[.slice A_list list.length c_list,.string key,.int .i64 n] w fun e w' => ∃ v0_:Value,e = .returned (.tuple #[v0_,.int .i64 r2])∧Sf w w' (.slice A_list list.length c_list) list v0_ r1∧Below w.heap.size w w':=by
 have HR0_list:=ζa hr0_list
 have HC0_list:=ζa hc0_list
 clear hr0_list hc0_list
 have HB0:=ζa (Below.refl w.heap.size w)
 unfold spec_l05Write.f at h
 have HH:=ζa h
 clear h
 go_enter Tryz.func184,Tryz.ntmps184
 have h:=HH.out
 clear HH
 by_cases cc1:n=0
 ·
  rw [if_pos cc1] at h
  have HH:=ζa h
  clear h
  have f1a:(n == 0)=τ:=beq_iff_eq.mpr cc1
  have f1b:(n != 0)=φ:=bne_eq_false_iff_eq.mpr cc1
  have C1:=ζa cc1
  clear cc1
  have h:=HH.out
  clear HH
  obtain ⟨⟨o1,c1⟩,h2_,h⟩:=Option.bind_eq_some_iff.mp h
  have HH:=ζa h
  have H2:=ζa h2_
  clear h h2_
  go_wp2_with fail
  refine (spec_l03Drop.calls k A_list c_list list key o1 c1 _ (by repeat (first|exact Kd.C_below HR0_list.out HB0.out|apply Kd.C_alloc|apply Kd.C_drew|apply Kd.C_drewN)) HC0_list.out H2.out).mono ?_
  rintro e w2 ⟨v2,rfl,ho,hb⟩
  have hsf:=Sf.trans (by exact ⟨Or.inl ⟨rfl,rfl⟩⟩) ho hb (Below.size (show Below w.heap.size w _ from by repeat (first|exact HB0.out|apply δk|apply δj|apply δi)))
  obtain ⟨adr2,cap2,rfl,hl2,hq2⟩:=Sf.reads ho (Kd.C_below HR0_list.out (δr (by repeat (first|exact HB0.out|apply δk|apply δj|apply δi)) hb)) HC0_list.out
  have HC2:=ζa hl2
  have HRn2:=ζa hq2
  have HS2:=ζa hsf
  clear hl2 hq2 ho hsf
  have m_:=ζa (δr (by repeat (first|exact HB0.out|apply δk|apply δj|apply δi)) hb)
  clear hb
  have HB2:=m_
  clear m_
  have h:=HH.out
  clear HH
  simp only [Option.some.injEq,Prod.mk.injEq] at h
  obtain ⟨rfl,rfl⟩:=h
  go_wp2
  go_ret2
  exact ⟨_,rfl,(by repeat (first|exact HS2.out|apply Sf.alloc|apply Sf.drew|apply Sf.drewN)),(by repeat (first|exact HB2.out|apply δk|apply δj|apply δi))⟩
 ·
  rw [if_neg cc1] at h
  have HH:=ζa h
  clear h
  have f1a:(n == 0)=φ:=beq_eq_false_iff_ne.mpr cc1
  have f1b:(n != 0)=τ:=bne_iff_ne.mpr cc1
  have C1:=ζa cc1
  clear cc1
  have h:=HH.out
  clear HH
  obtain ⟨t1,h3_,h⟩:=Option.bind_eq_some_iff.mp h
  have HH:=ζa h
  have H3:=ζa h3_
  clear h h3_
  go_wp2_with fail
  refine (spec_l00Digits.calls k n t1 _ H3.out).mono ?_
  rintro e w3 ⟨rfl,hb⟩
  have m_:=ζa (δr (by repeat (first|exact HB0.out|apply δk|apply δj|apply δi)) hb)
  clear hb
  have HB3:=m_
  clear m_
  have h:=HH.out
  clear HH
  obtain ⟨⟨o2,c2⟩,h4_,h⟩:=Option.bind_eq_some_iff.mp h
  have HH:=ζa h
  have H4:=ζa h4_
  clear h h4_
  go_wp2_with fail
  refine (spec_l03Put.calls k A_list c_list list key t1 o2 c2 _ (by repeat (first|exact Kd.C_below HR0_list.out HB3.out|apply Kd.C_alloc|apply Kd.C_drew|apply Kd.C_drewN)) HC0_list.out H4.out).mono ?_
  rintro e w4 ⟨v4,rfl,ho,hb⟩
  have hsf:=Sf.trans (by exact ⟨Or.inl ⟨rfl,rfl⟩⟩) ho hb (Below.size (show Below w.heap.size w _ from by repeat (first|exact HB3.out|apply δk|apply δj|apply δi)))
  obtain ⟨adr4,cap4,rfl,hl4,hq4⟩:=Sf.reads ho (Kd.C_below HR0_list.out (δr (by repeat (first|exact HB3.out|apply δk|apply δj|apply δi)) hb)) HC0_list.out
  have HC4:=ζa hl4
  have HRn4:=ζa hq4
  have HS4:=ζa hsf
  clear hl4 hq4 ho hsf
  have m_:=ζa (δr (by repeat (first|exact HB3.out|apply δk|apply δj|apply δi)) hb)
  clear hb
  have HB4:=m_
  clear m_
  have h:=HH.out
  clear HH
  simp only [Option.some.injEq,Prod.mk.injEq] at h
  obtain ⟨rfl,rfl⟩:=h
  go_wp2
  go_ret2
  exact ⟨_,rfl,(by repeat (first|exact HS4.out|apply Sf.alloc|apply Sf.drew|apply Sf.drewN)),(by repeat (first|exact HB4.out|apply δk|apply δj|apply δi))⟩


open Go.Proofs.YtabmfhnhmoiljaaGreatDoorW.PrintWords renaming below_step → δr, below_alloc → δk, below_drew1 → δj, pw_below_drewN → δi

/-! ### spec_l05Add: function 134 -/
def spec_l05Add.f (k:Nat) (list:List S51) (key:ByteArray) (n:Int):Option (List S51 × Int) :=
 (spec_l05Read.f k list key).bind fun q1=>if ζm (q1+n)<0 then (some (list,12)) else (if 1000000000000000000<ζm (q1+n) then (some (list,13)) else ((spec_l05Write.f k list key (ζm (q1+n))).bind fun q2=>some (q2.1,q2.2)))
set_option maxHeartbeats 4000000 in
set_option maxRecDepth 100000 in
theorem spec_l05Add.calls (k:Nat) (A_list:Option Addr) (c_list:Nat) (list:List S51) (key:ByteArray) (n:Int) (r1:List S51) (r2:Int) (w:World) (hr0_list:Kd.C k51 w A_list list.length list) (hc0_list:list.length≤c_list) (h:spec_l05Add.f k list key n=some (r1,r2)) :
  Calls Tryz.prog 134 #[.slice A_list list.length c_list,.string key,.int .i64 n] w fun e w' => ∃ v0_:Value,e = .returned (.tuple #[v0_,.int .i64 r2])∧Sf w w' (.slice A_list list.length c_list) list v0_ r1∧Below w.heap.size w w':=by
 have HR0_list:=ζa hr0_list
 have HC0_list:=ζa hc0_list
 clear hr0_list hc0_list
 have HB0:=ζa (Below.refl w.heap.size w)
 unfold spec_l05Add.f at h
 have HH:=ζa h
 clear h
 go_enter Tryz.func134,Tryz.ntmps134
 have h:=HH.out
 clear HH
 obtain ⟨a1,h1_,h⟩:=Option.bind_eq_some_iff.mp h
 have HH:=ζa h
 have H1:=ζa h1_
 clear h h1_
 go_wp2_with fail
 refine (spec_l05Read.calls k A_list c_list list key a1 _ (by repeat (first|exact Kd.C_below HR0_list.out HB0.out|apply Kd.C_alloc|apply Kd.C_drew|apply Kd.C_drewN)) HC0_list.out H1.out).mono ?_
 rintro e w1 ⟨rfl,hb⟩
 have m_:=ζa (δr (by repeat (first|exact HB0.out|apply δk|apply δj|apply δi)) hb)
 clear hb
 have HB1:=m_
 clear m_
 have h:=HH.out
 clear HH
 by_cases cc2:ζm (a1+n)<0
 ·
  rw [if_pos cc2] at h
  have HH:=ζa h
  clear h
  have f2a:decide (ζm (a1+n)<0)=τ:=decide_eq_true cc2
  have C2:=ζa cc2
  clear cc2
  have h:=HH.out
  clear HH
  simp only [Option.some.injEq,Prod.mk.injEq] at h
  obtain ⟨rfl,rfl⟩:=h
  go_wp2
  go_ret2
  exact ⟨_,rfl,⟨Or.inl ⟨rfl,rfl⟩⟩,(by repeat (first|exact HB1.out|apply δk|apply δj|apply δi))⟩
 ·
  rw [if_neg cc2] at h
  have HH:=ζa h
  clear h
  have f2a:decide (ζm (a1+n)<0)=φ:=decide_eq_false cc2
  have C2:=ζa cc2
  clear cc2
  have h:=HH.out
  clear HH
  by_cases cc3:1000000000000000000<ζm (a1+n)
  ·
   rw [if_pos cc3] at h
   have HH:=ζa h
   clear h
   have f3a:decide (1000000000000000000<ζm (a1+n))=τ:=decide_eq_true cc3
   have C3:=ζa cc3
   clear cc3
   have h:=HH.out
   clear HH
   simp only [Option.some.injEq,Prod.mk.injEq] at h
   obtain ⟨rfl,rfl⟩:=h
   go_wp2
   go_ret2
   exact ⟨_,rfl,⟨Or.inl ⟨rfl,rfl⟩⟩,(by repeat (first|exact HB1.out|apply δk|apply δj|apply δi))⟩
  ·
   rw [if_neg cc3] at h
   have HH:=ζa h
   clear h
   have f3a:decide (1000000000000000000<ζm (a1+n))=φ:=decide_eq_false cc3
   have C3:=ζa cc3
   clear cc3
   have h:=HH.out
   clear HH
   obtain ⟨⟨o1,c1⟩,h4_,h⟩:=Option.bind_eq_some_iff.mp h
   have HH:=ζa h
   have H4:=ζa h4_
   clear h h4_
   go_wp2_with fail
   refine (spec_l05Write.calls k A_list c_list list key (ζm (a1+n)) o1 c1 _ (by repeat (first|exact Kd.C_below HR0_list.out HB1.out|apply Kd.C_alloc|apply Kd.C_drew|apply Kd.C_drewN)) HC0_list.out H4.out).mono ?_
   rintro e w4 ⟨v4,rfl,ho,hb⟩
   have hsf:=Sf.trans (by exact ⟨Or.inl ⟨rfl,rfl⟩⟩) ho hb (Below.size (show Below w.heap.size w _ from by repeat (first|exact HB1.out|apply δk|apply δj|apply δi)))
   obtain ⟨adr4,cap4,rfl,hl4,hq4⟩:=Sf.reads ho (Kd.C_below HR0_list.out (δr (by repeat (first|exact HB1.out|apply δk|apply δj|apply δi)) hb)) HC0_list.out
   have HC4:=ζa hl4
   have HRn4:=ζa hq4
   have HS4:=ζa hsf
   clear hl4 hq4 ho hsf
   have m_:=ζa (δr (by repeat (first|exact HB1.out|apply δk|apply δj|apply δi)) hb)
   clear hb
   have HB4:=m_
   clear m_
   have h:=HH.out
   clear HH
   simp only [Option.some.injEq,Prod.mk.injEq] at h
   obtain ⟨rfl,rfl⟩:=h
   go_wp2
   go_ret2
   exact ⟨_,rfl,(by repeat (first|exact HS4.out|apply Sf.alloc|apply Sf.drew|apply Sf.drewN)),(by repeat (first|exact HB4.out|apply δk|apply δj|apply δi))⟩



/-! ### spec_l05Key: function 135 -/
def spec_l05Key.f (a0:ByteArray) (a1:ByteArray):Option (ByteArray):=if a0.size+a1.size≤1000000000000 then some ((((⟨#[98,47]⟩:ByteArray) ++ a1) ++ (⟨#[47]⟩:ByteArray)) ++ a0) else none
set_option maxHeartbeats 1000000 in
theorem spec_l05Key.calls (a0:ByteArray) (a1:ByteArray) (r:ByteArray) (w:World) (h:spec_l05Key.f a0 a1=some r) :
  Calls Tryz.prog 135 #[.string a0,.string a1] w fun e w'=>e = .returned (.string r)∧Drawn0 w w':=by
 unfold spec_l05Key.f at h
 by_cases c:a0.size+a1.size≤1000000000000
 ·
  rw [if_pos c] at h
  obtain rfl:=Option.some.inj h
  have c1:(2+a1.size≤9223372036854775807)=True:=eq_true (by omega)
  have c2:(9223372036854775807<2+a1.size)=False:=eq_false (by omega)
  have c3:(2+a1.size+1≤9223372036854775807)=True:=eq_true (by omega)
  have c4:(9223372036854775807<2+a1.size+1)=False:=eq_false (by omega)
  have c5:(2+a1.size+1+a0.size≤9223372036854775807)=True:=eq_true (by omega)
  have c6:(9223372036854775807<2+a1.size+1+a0.size)=False:=eq_false (by omega)
  clear c
  go_enter Tryz.func135,Tryz.ntmps135
  go_wp2
  go_ret
  exact ⟨by first|rfl|(simp;done)|(simp [*];done),by repeat (first|exact Drawn0.refl _|apply Drawn0.step)⟩
 · rw [if_neg c] at h;cases h



/-! ### spec_l05Move: function 78 -/
def spec_l05Move.f (k:Nat) (list:List S51) (from_:ByteArray) (to_:ByteArray) (denom:ByteArray) (n:Int):Option (List S51 × Int) :=
 (spec_l05Key.f from_ denom).bind fun q1=>(spec_l05Add.f k list q1 (ζm (-n))).bind fun q2=>if q2.2=0 then ((spec_l05Key.f to_ denom).bind fun q3=>(spec_l05Add.f k q2.1 q3 n).bind fun q4=>if q4.2=0 then (some (q4.1,0)) else (some (list,q4.2))) else (some (list,q2.2))
set_option maxHeartbeats 4000000 in
set_option maxRecDepth 100000 in
theorem spec_l05Move.calls (k:Nat) (A_list:Option Addr) (c_list:Nat) (list:List S51) (from_:ByteArray) (to_:ByteArray) (denom:ByteArray) (n:Int) (r1:List S51) (r2:Int) (w:World) (hr0_list:Kd.C k51 w A_list list.length list) (hc0_list:list.length≤c_list) (h:spec_l05Move.f k list from_ to_ denom n=some (r1,r2)) :
  Calls Tryz.prog 78 #[.slice A_list list.length c_list,.string from_,.string to_,.string denom,.int .i64 n] w fun e w' => ∃ v0_:Value,e = .returned (.tuple #[v0_,.int .i64 r2])∧Sf w w' (.slice A_list list.length c_list) list v0_ r1∧Below w.heap.size w w':=by
 have HR0_list:=ζa hr0_list
 have HC0_list:=ζa hc0_list
 clear hr0_list hc0_list
 have HB0:=ζa (Below.refl w.heap.size w)
 unfold spec_l05Move.f at h
 have HH:=ζa h
 clear h
 go_enter Tryz.func78,Tryz.ntmps78
 have h:=HH.out
 clear HH
 obtain ⟨k1,h1_,h⟩:=Option.bind_eq_some_iff.mp h
 have HH:=ζa h
 have H1:=ζa h1_
 clear h h1_
 go_wp2_with fail
 refine (spec_l05Key.calls from_ denom k1 _ H1.out).mono ?_
 rintro e w1 ⟨rfl,hd⟩
 have hb:=hd.below
 clear hd
 have m_:=ζa (δr (by repeat (first|exact HB0.out|apply δk|apply δj|apply δi)) hb)
 clear hb
 have HB1:=m_
 clear m_
 have h:=HH.out
 clear HH
 obtain ⟨⟨o1,c1⟩,h2_,h⟩:=Option.bind_eq_some_iff.mp h
 have HH:=ζa h
 have H2:=ζa h2_
 clear h h2_
 go_wp2_with fail
 refine (spec_l05Add.calls k A_list c_list list k1 (ζm (-n)) o1 c1 _ (by repeat (first|exact Kd.C_below HR0_list.out HB1.out|apply Kd.C_alloc|apply Kd.C_drew|apply Kd.C_drewN)) HC0_list.out H2.out).mono ?_
 rintro e w2 ⟨v2,rfl,ho,hb⟩
 have hsf:=Sf.trans (by exact ⟨Or.inl ⟨rfl,rfl⟩⟩) ho hb (Below.size (show Below w.heap.size w _ from by repeat (first|exact HB1.out|apply δk|apply δj|apply δi)))
 obtain ⟨adr2,cap2,rfl,hl2,hq2⟩:=Sf.reads ho (Kd.C_below HR0_list.out (δr (by repeat (first|exact HB1.out|apply δk|apply δj|apply δi)) hb)) HC0_list.out
 have HC2:=ζa hl2
 have HRn2:=ζa hq2
 have HS2:=ζa hsf
 clear hl2 hq2 ho hsf
 have m_:=ζa (δr (by repeat (first|exact HB1.out|apply δk|apply δj|apply δi)) hb)
 clear hb
 have HB2:=m_
 clear m_
 have h:=HH.out
 clear HH
 by_cases cc3:c1=0
 ·
  rw [if_pos cc3] at h
  have HH:=ζa h
  clear h
  have f3a:(c1 == 0)=τ:=beq_iff_eq.mpr cc3
  have f3b:(c1 != 0)=φ:=bne_eq_false_iff_eq.mpr cc3
  have C3:=ζa cc3
  clear cc3
  have h:=HH.out
  clear HH
  obtain ⟨k2,h4_,h⟩:=Option.bind_eq_some_iff.mp h
  have HH:=ζa h
  have H4:=ζa h4_
  clear h h4_
  go_wp2_with fail
  refine (spec_l05Key.calls to_ denom k2 _ H4.out).mono ?_
  rintro e w4 ⟨rfl,hd⟩
  have hb:=hd.below
  clear hd
  have m_:=ζa (Kd.C_below (by repeat (first|exact HRn2.out|apply Kd.C_alloc|apply Kd.C_drew|apply Kd.C_drewN)) hb)
  clear HRn2
  have HRn2:=m_
  clear m_
  have m_:=ζa (Sf.below (by repeat (first|exact HS2.out|apply Sf.alloc|apply Sf.drew|apply Sf.drewN)) hb)
  clear HS2
  have HS2:=m_
  clear m_
  have m_:=ζa (δr (by repeat (first|exact HB2.out|apply δk|apply δj|apply δi)) hb)
  clear hb
  have HB4:=m_
  clear m_
  have h:=HH.out
  clear HH
  obtain ⟨⟨o2,c2⟩,h5_,h⟩:=Option.bind_eq_some_iff.mp h
  have HH:=ζa h
  have H5:=ζa h5_
  clear h h5_
  go_wp2_with fail
  refine (spec_l05Add.calls k adr2 cap2 o1 k2 n o2 c2 _ (by repeat (first|exact HRn2.out|apply Kd.C_alloc|apply Kd.C_drew|apply Kd.C_drewN)) HC2.out H5.out).mono ?_
  rintro e w5 ⟨v5,rfl,ho,hb⟩
  have hsf:=Sf.trans (by repeat (first|exact HS2.out|apply Sf.alloc|apply Sf.drew|apply Sf.drewN)) ho hb (Below.size (show Below w.heap.size w _ from by repeat (first|exact HB4.out|apply δk|apply δj|apply δi)))
  have m_:=ζa (Kd.C_below (by repeat (first|exact HRn2.out|apply Kd.C_alloc|apply Kd.C_drew|apply Kd.C_drewN)) hb)
  clear HRn2
  have HRn2:=m_
  clear m_
  have m_:=ζa (Sf.below (by repeat (first|exact HS2.out|apply Sf.alloc|apply Sf.drew|apply Sf.drewN)) hb)
  clear HS2
  have HS2:=m_
  clear m_
  obtain ⟨adr5,cap5,rfl,hl5,hq5⟩:=Sf.reads ho (HRn2.out) HC2.out
  have HC5:=ζa hl5
  have HRn5:=ζa hq5
  have HS5:=ζa hsf
  clear hl5 hq5 ho hsf
  have m_:=ζa (δr (by repeat (first|exact HB4.out|apply δk|apply δj|apply δi)) hb)
  clear hb
  have HB5:=m_
  clear m_
  have h:=HH.out
  clear HH
  by_cases cc6:c2=0
  ·
   rw [if_pos cc6] at h
   have HH:=ζa h
   clear h
   have f6a:(c2 == 0)=τ:=beq_iff_eq.mpr cc6
   have f6b:(c2 != 0)=φ:=bne_eq_false_iff_eq.mpr cc6
   have C6:=ζa cc6
   clear cc6
   have h:=HH.out
   clear HH
   simp only [Option.some.injEq,Prod.mk.injEq] at h
   obtain ⟨rfl,rfl⟩:=h
   go_wp2
   go_ret2
   exact ⟨_,rfl,(by repeat (first|exact HS5.out|apply Sf.alloc|apply Sf.drew|apply Sf.drewN)),(by repeat (first|exact HB5.out|apply δk|apply δj|apply δi))⟩
  ·
   rw [if_neg cc6] at h
   have HH:=ζa h
   clear h
   have f6a:(c2 == 0)=φ:=beq_eq_false_iff_ne.mpr cc6
   have f6b:(c2 != 0)=τ:=bne_iff_ne.mpr cc6
   have C6:=ζa cc6
   clear cc6
   have h:=HH.out
   clear HH
   simp only [Option.some.injEq,Prod.mk.injEq] at h
   obtain ⟨rfl,rfl⟩:=h
   go_wp2
   go_ret2
   exact ⟨_,rfl,⟨Or.inl ⟨rfl,rfl⟩⟩,(by repeat (first|exact HB5.out|apply δk|apply δj|apply δi))⟩
 ·
  rw [if_neg cc3] at h
  have HH:=ζa h
  clear h
  have f3a:(c1 == 0)=φ:=beq_eq_false_iff_ne.mpr cc3
  have f3b:(c1 != 0)=τ:=bne_iff_ne.mpr cc3
  have C3:=ζa cc3
  clear cc3
  have h:=HH.out
  clear HH
  simp only [Option.some.injEq,Prod.mk.injEq] at h
  obtain ⟨rfl,rfl⟩:=h
  go_wp2
  go_ret2
  exact ⟨_,rfl,⟨Or.inl ⟨rfl,rfl⟩⟩,(by repeat (first|exact HB2.out|apply δk|apply δj|apply δi))⟩



/-! ### spec_l07Other: function 89 -/
def spec_l07Other.f (a0:ByteArray):Option (ByteArray):=if a0.toList=([120]:List UInt8) then (some (⟨#[121]⟩:ByteArray)) else (some (⟨#[120]⟩:ByteArray))
set_option maxHeartbeats 8000000 in
set_option maxRecDepth 100000 in
theorem spec_l07Other.calls (a0:ByteArray) (r:ByteArray) (w:World) (h:spec_l07Other.f a0=some r) :
  Calls Tryz.prog 89 #[.string a0] w fun e w'=>e = .returned (.string r)∧Drawn0 w w':=by
 have H:(if a0.toList=([120]:List UInt8) then (some (⟨#[121]⟩:ByteArray)) else (some (⟨#[120]⟩:ByteArray)))=some r:=h
 clear h
 by_cases c2:a0.toList=([120]:List UInt8)
 ·
  rw [if_pos c2] at H
  have c2b0:(a0.toList == ([120]:List UInt8))=τ:=beq_iff_eq.mpr c2
  have c2b1:(a0.toList != ([120]:List UInt8))=φ:=bne_eq_false_iff_eq.mpr c2
  clear c2
  obtain rfl:=Option.some.inj H
  go_enter Tryz.func89,Tryz.ntmps89
  go_wp2
  go_ret
  exact ⟨by first|rfl|(simp;done)|(simp [*];done),by repeat (first|exact Drawn0.refl _|apply Drawn0.step)⟩
 ·
  rw [if_neg c2] at H
  have c2b0:(a0.toList == ([120]:List UInt8))=φ:=beq_eq_false_iff_ne.mpr c2
  have c2b1:(a0.toList != ([120]:List UInt8))=τ:=bne_iff_ne.mpr c2
  obtain rfl:=Option.some.inj H
  go_enter Tryz.func89,Tryz.ntmps89
  go_wp2
  go_ret
  exact ⟨by first|rfl|(simp;done)|(simp [*];done),by repeat (first|exact Drawn0.refl _|apply Drawn0.step)⟩



/-! ### spec_l00Letter: function 204 -/
def spec_l00Letter.f (a0:Int):Option (Bool):=if a0 ≥ 97 then (if a0≤122 then (some τ) else (if a0 ≥ 65 then (if a0≤90 then (some τ) else (some (a0 == 95))) else (some (a0 == 95)))) else (if a0 ≥ 65 then (if a0≤90 then (some τ) else (some (a0 == 95))) else (some (a0 == 95)))
set_option maxHeartbeats 8000000 in
set_option maxRecDepth 100000 in
theorem spec_l00Letter.calls (a0:Int) (r:Bool) (w:World) (h:spec_l00Letter.f a0=some r) :
  Calls Tryz.prog 204 #[.int .u8 a0] w fun e w'=>e = .returned (.bool r)∧Drawn0 w w':=by
 have H:(if a0 ≥ 97 then (if a0≤122 then (some τ) else (if a0 ≥ 65 then (if a0≤90 then (some τ) else (some (a0 == 95))) else (some (a0 == 95)))) else (if a0 ≥ 65 then (if a0≤90 then (some τ) else (some (a0 == 95))) else (some (a0 == 95))))=some r:=h
 clear h
 by_cases c2:a0 ≥ 97
 ·
  rw [if_pos c2] at H
  have c2b0:decide (97≤a0)=τ:=decide_eq_true c2
  clear c2
  by_cases c3:a0≤122
  ·
   rw [if_pos c3] at H
   have c3b0:decide (a0≤122)=τ:=decide_eq_true c3
   clear c3
   obtain rfl:=Option.some.inj H
   go_enter Tryz.func204,Tryz.ntmps204
   go_wp2
   go_ret
   exact ⟨by first|rfl|(simp;done)|(simp [*];done),by repeat (first|exact Drawn0.refl _|apply Drawn0.step)⟩
  ·
   rw [if_neg c3] at H
   have c3b0:decide (a0≤122)=φ:=decide_eq_false c3
   clear c3
   by_cases c4:a0 ≥ 65
   ·
    rw [if_pos c4] at H
    have c4b0:decide (65≤a0)=τ:=decide_eq_true c4
    clear c4
    by_cases c5:a0≤90
    ·
     rw [if_pos c5] at H
     have c5b0:decide (a0≤90)=τ:=decide_eq_true c5
     clear c5
     obtain rfl:=Option.some.inj H
     go_enter Tryz.func204,Tryz.ntmps204
     go_wp2
     go_ret
     exact ⟨by first|rfl|(simp;done)|(simp [*];done),by repeat (first|exact Drawn0.refl _|apply Drawn0.step)⟩
    ·
     rw [if_neg c5] at H
     have c5b0:decide (a0≤90)=φ:=decide_eq_false c5
     clear c5
     obtain rfl:=Option.some.inj H
     go_enter Tryz.func204,Tryz.ntmps204
     go_wp2
     go_ret
     exact ⟨by first|rfl|(simp;done)|(simp [*];done),by repeat (first|exact Drawn0.refl _|apply Drawn0.step)⟩
   ·
    rw [if_neg c4] at H
    have c4b0:decide (65≤a0)=φ:=decide_eq_false c4
    clear c4
    obtain rfl:=Option.some.inj H
    go_enter Tryz.func204,Tryz.ntmps204
    go_wp2
    go_ret
    exact ⟨by first|rfl|(simp;done)|(simp [*];done),by repeat (first|exact Drawn0.refl _|apply Drawn0.step)⟩
 ·
  rw [if_neg c2] at H
  have c2b0:decide (97≤a0)=φ:=decide_eq_false c2
  clear c2
  by_cases c6:a0 ≥ 65
  ·
   rw [if_pos c6] at H
   have c6b0:decide (65≤a0)=τ:=decide_eq_true c6
   clear c6
   by_cases c7:a0≤90
   ·
    rw [if_pos c7] at H
    have c7b0:decide (a0≤90)=τ:=decide_eq_true c7
    clear c7
    obtain rfl:=Option.some.inj H
    go_enter Tryz.func204,Tryz.ntmps204
    go_wp2
    go_ret
    exact ⟨by first|rfl|(simp;done)|(simp [*];done),by repeat (first|exact Drawn0.refl _|apply Drawn0.step)⟩
   ·
    rw [if_neg c7] at H
    have c7b0:decide (a0≤90)=φ:=decide_eq_false c7
    clear c7
    obtain rfl:=Option.some.inj H
    go_enter Tryz.func204,Tryz.ntmps204
    go_wp2
    go_ret
    exact ⟨by first|rfl|(simp;done)|(simp [*];done),by repeat (first|exact Drawn0.refl _|apply Drawn0.step)⟩
  ·
   rw [if_neg c6] at H
   have c6b0:decide (65≤a0)=φ:=decide_eq_false c6
   clear c6
   obtain rfl:=Option.some.inj H
   go_enter Tryz.func204,Tryz.ntmps204
   go_wp2
   go_ret
   exact ⟨by first|rfl|(simp;done)|(simp [*];done),by repeat (first|exact Drawn0.refl _|apply Drawn0.step)⟩



/-! ### spec_l00Digit: function 205 -/
def spec_l00Digit.f (a0:Int):Option (Bool):=if a0 ≥ 48 then (some (decide (a0≤57))) else (some φ)
set_option maxHeartbeats 8000000 in
set_option maxRecDepth 100000 in
theorem spec_l00Digit.calls (a0:Int) (r:Bool) (w:World) (h:spec_l00Digit.f a0=some r) :
  Calls Tryz.prog 205 #[.int .u8 a0] w fun e w'=>e = .returned (.bool r)∧Drawn0 w w':=by
 have H:(if a0 ≥ 48 then (some (decide (a0≤57))) else (some φ))=some r:=h
 clear h
 by_cases c2:a0 ≥ 48
 ·
  rw [if_pos c2] at H
  have c2b0:decide (48≤a0)=τ:=decide_eq_true c2
  clear c2
  obtain rfl:=Option.some.inj H
  go_enter Tryz.func205,Tryz.ntmps205
  go_wp2
  go_ret
  exact ⟨by first|rfl|(simp;done)|(simp [*];done),by repeat (first|exact Drawn0.refl _|apply Drawn0.step)⟩
 ·
  rw [if_neg c2] at H
  have c2b0:decide (48≤a0)=φ:=decide_eq_false c2
  clear c2
  obtain rfl:=Option.some.inj H
  go_enter Tryz.func205,Tryz.ntmps205
  go_wp2
  go_ret
  exact ⟨by first|rfl|(simp;done)|(simp [*];done),by repeat (first|exact Drawn0.refl _|apply Drawn0.step)⟩



/-! ### spec_l00Word: function 182 -/
mutual
def spec_l00Word.j0:Nat→ByteArray→Bool→Option (Bool)
 | 0,_,_=>none
 | k+1,x0,x17=>if x17=τ then (some φ) else (spec_l00Word.l0 k x0 1)
def spec_l00Word.l0:Nat→ByteArray→Int→Option (Bool)
 | 0,_,_=>none
 | k+1,x0,x3=>if x3<(x0.size:Int) then (if 0≤x3 then ((spec_l00Letter.f (bt x0 x3)).bind fun t114=>(if t114=τ then (spec_l00Word.l0 k x0 (ζm (x3+1))) else ((spec_l00Digit.f (bt x0 x3)).bind fun t115=>(if t115=τ then (spec_l00Word.l0 k x0 (ζm (x3+1))) else (some φ))))) else (none)) else (some τ)
end
def spec_l00Word.f (k:Nat) (a0:ByteArray):Option (Bool):=if (a0.size:Int)<1 then (spec_l00Word.j0 k a0 τ) else (if (a0.size:Int) > 40 then (spec_l00Word.j0 k a0 τ) else (if 0<(a0.size:Int) then ((spec_l00Letter.f (bt a0 0)).bind fun t113=>(spec_l00Word.j0 k a0 (!t113))) else (none)))
set_option maxHeartbeats 8000000 in
set_option maxRecDepth 100000 in
theorem spec_l00Word.calls (k:Nat) (a0:ByteArray) (r:Bool) (w:World) (h:spec_l00Word.f k a0=some r) :
  Calls Tryz.prog 182 #[.string a0] w fun e w'=>e = .returned (.bool r)∧Drawn0 w w':=by
 have H:(if (a0.size:Int)<1 then (spec_l00Word.j0 k a0 τ) else (if (a0.size:Int) > 40 then (spec_l00Word.j0 k a0 τ) else (if 0<(a0.size:Int) then ((spec_l00Letter.f (bt a0 0)).bind fun t113=>(spec_l00Word.j0 k a0 (!t113))) else (none))))=some r:=h
 clear h
 have HC2:=ζa H
 clear H
 go_enter Tryz.func182,Tryz.ntmps182
 go_upto_region 1 with (fail)
 go_cut [17] (fun v17 wc => ∃ (kq:Nat) (x17_1:Bool),v17 = .bool x17_1∧Aside0 (spec_l00Word.j0 kq a0 x17_1=some r)∧Aside0 (kq≤k)∧Drawn0 w wc)
 case first =>
  have H:=HC2.out
  clear HC2
  by_cases c3:(a0.size:Int)<1
  ·
   rw [if_pos c3] at H
   have c3b0:decide ((a0.size:Int)<1)=τ:=decide_eq_true c3
   have c3b1:decide (a0.size<1)=τ:=decide_eq_true (by omega)
   clear c3
   (first|rw [c3b0]|(simp only [i64_w,i32_w];rw [c3b0])|skip)
   have H':=ζa H
   clear H
   go_wp2
   go_meet
   case rel=>exact ⟨_,(τ),(by first|rfl|(simp;done)|(simp [*];done)),H',⟨by first|omega|exact Nat.le_refl _⟩,by repeat (first|exact Drawn0.refl _|apply Drawn0.step)⟩
  ·
   rw [if_neg c3] at H
   have c3b0:decide ((a0.size:Int)<1)=φ:=decide_eq_false c3
   have c3b1:decide (a0.size<1)=φ:=decide_eq_false (by omega)
   clear c3
   (first|rw [c3b0]|(simp only [i64_w,i32_w];rw [c3b0])|skip)
   by_cases c4:(a0.size:Int) > 40
   ·
    rw [if_pos c4] at H
    have c4b0:decide (40<(a0.size:Int))=τ:=decide_eq_true c4
    have c4b1:decide (40<a0.size)=τ:=decide_eq_true (by omega)
    clear c4
    have H':=ζa H
    clear H
    go_wp2
    go_meet
    case rel=>exact ⟨_,(τ),(by first|rfl|(simp;done)|(simp [*];done)),H',⟨by first|omega|exact Nat.le_refl _⟩,by repeat (first|exact Drawn0.refl _|apply Drawn0.step)⟩
   ·
    rw [if_neg c4] at H
    have c4b0:decide (40<(a0.size:Int))=φ:=decide_eq_false c4
    have c4b1:decide (40<a0.size)=φ:=decide_eq_false (by omega)
    clear c4
    by_cases c5:0<(a0.size:Int)
    ·
     rw [if_pos c5] at H
     have c5b0:decide (0<(a0.size:Int))=τ:=decide_eq_true c5
     have c5b1:decide (0<a0.size)=τ:=decide_eq_true (by omega)
     clear c5
     replace H:=Option.bind_eq_some_iff.mp H
     obtain ⟨t113,A70,H⟩:=H
     replace H:(spec_l00Word.j0 k a0 (!t113))=some r:=H
     have A7:=ζa A70
     clear A70
     have H':=ζa H
     clear H
     have p6:0≤(0:Int):=(by omega)
     have q6:0<a0.size:=(by have:(0:Int)<(a0.size:Int):=of_decide_eq_true (by first|(with_reducible assumption)|assumption);omega)
     have hx6 : ∀ h:0<a0.size,((a0[0]'h).toNat:Int)=bt a0 0:=bt_at a0 0
     clear p6
     have qi6:(0<(a0.size:Int))=True:=eq_true (of_decide_eq_true (by first|(with_reducible assumption)|assumption))
     replace q6:=eq_true q6
     go_wp2_with (first|(go_at_call 204;(with_reducible refine (spec_l00Letter.calls (bt a0 0) t113 _ A7.out).mono ?_);rintro e w' ⟨rfl,⟨nd,rfl⟩⟩))
     go_meet
     case rel=>exact ⟨_,(!t113),(by first|rfl|(simp;done)|(simp [*];done)),H',⟨by first|omega|exact Nat.le_refl _⟩,by repeat (first|exact Drawn0.refl _|apply Drawn0.step)⟩
    ·
     rw [if_neg c5] at H
     exact absurd H (by simp)
 case rest =>
  clear HC2
  try clear c1
  try clear p2
  try clear c3
  try clear c3b0
  try clear c3b1
  try clear c4
  try clear c4b0
  try clear c4b1
  try clear c5
  try clear c5b0
  try clear c5b1
  try clear p6
  try clear q6
  try clear hx6
  try clear qi6
  try clear p6
  try clear q6
  obtain ⟨kq,x17_1,rfl,HA,HJ1,⟨mc1,rfl⟩⟩:=hcut
  cases kq with
  | zero=>exact absurd HA.out (by simp [spec_l00Word.j0])
  | succ kj1 =>
   have H:=HA.out
   clear HA
   simp only [spec_l00Word.j0] at H
   by_cases c8:x17_1=τ
   ·
    subst c8
    have H1:(some φ)=some r:=by rw [if_pos rfl] at H;exact H
    clear H
    have H:=H1
    clear H1
    obtain rfl:=Option.some.inj H
    go_wp2
    go_ret
    exact ⟨by first|rfl|(simp;done)|(simp [*];done),by repeat (first|exact Drawn0.refl _|apply Drawn0.step)⟩
   ·
    replace c8:=Bool.eq_false_iff.mpr c8
    subst c8
    have H1:(spec_l00Word.l0 kj1 a0 1)=some r:=by rw [if_neg (show ¬ (φ=τ) by decide)] at H;exact H
    clear H
    have H:=H1
    clear H1
    have H':=ζa H
    clear H
    go_wp2
    go_loopg [3] kj1 (fun kq v3 w' => ∃ (x3_2:Int),v3 = .int .i64 x3_2∧Aside0 (spec_l00Word.l0 kq a0 x3_2=some r)∧Aside0 (kq≤kj1)∧Drawn0 w w')
    case atStart=>exact ⟨(1),(by first|rfl|(simp;done)|(simp [*];done)),H',⟨Nat.le_refl _⟩,by repeat (first|exact Drawn0.refl _|apply Drawn0.step)⟩
    case round =>
     clear H'
     try clear c1
     try clear p2
     try clear c3
     try clear c3b0
     try clear c3b1
     try clear c4
     try clear c4b0
     try clear c4b1
     try clear c5
     try clear c5b0
     try clear c5b1
     try clear p6
     try clear q6
     try clear hx6
     try clear qi6
     try clear c8
     try clear p2
     try clear p6
     try clear q6
     obtain ⟨x3_2,rfl,HA,HK2,⟨m2,rfl⟩⟩:=hrel
     cases gk with
     | zero=>exact absurd HA.out (by simp [spec_l00Word.l0])
     | succ k2 =>
      have H:=HA.out
      clear HA
      simp only [spec_l00Word.l0] at H
      by_cases c9:x3_2<(a0.size:Int)
      ·
       rw [if_pos c9] at H
       have c9b0:decide (x3_2<(a0.size:Int))=τ:=decide_eq_true c9
       clear c9
       by_cases c10:0≤x3_2
       ·
        rw [if_pos c10] at H
        have c10b0:decide (0≤x3_2)=τ:=decide_eq_true c10
        clear c10
        replace H:=Option.bind_eq_some_iff.mp H
        obtain ⟨t114,A120,H⟩:=H
        replace H:(if t114=τ then (spec_l00Word.l0 k2 a0 (ζm (x3_2+1))) else ((spec_l00Digit.f (bt a0 x3_2)).bind fun t115=>(if t115=τ then (spec_l00Word.l0 k2 a0 (ζm (x3_2+1))) else (some φ))))=some r:=H
        have A12:=ζa A120
        clear A120
        by_cases c13:t114=τ
        ·
         subst c13
         have H1:(spec_l00Word.l0 k2 a0 (ζm (x3_2+1)))=some r:=by rw [if_pos rfl] at H;exact H
         clear H
         have H:=H1
         clear H1
         have H':=ζa H
         clear H
         have p11:0≤(x3_2:Int):=of_decide_eq_true (by first|(with_reducible assumption)|assumption)
         have q11:x3_2<(a0.size:Int):=of_decide_eq_true (by first|(with_reducible assumption)|assumption)
         have hx11:=bt_at a0 x3_2
         replace p11:=eq_true p11
         replace q11:=eq_true q11
         go_wp2_with (first|((with_reducible refine δv (f:=204) rfl ?_);refine goesL_ (some 27) rfl rfl Tryz.func204 (by kernel_rfl) rfl #[.int .u8 (bt a0 x3_2)] rfl (by (try simp only [δd,δe,δf]);first|done|rfl|(simp only [δg,δh];rfl)) ?_;(with_reducible refine (spec_l00Letter.calls (bt a0 x3_2) τ _ A12.out).mono ?_);rintro e w' ⟨rfl,⟨nd,rfl⟩⟩;refine ⟨_,rfl,?_⟩))
         go_roundg k2
         case measure=>have:=HJ1.out;have:=HK2.out;omega
         case rel=>exact ⟨(ζm (x3_2+1)),(by first|rfl|(simp;done)|(simp [*];done)),H',⟨by have:=HJ1.out;have:=HK2.out;omega⟩,by repeat (first|exact Drawn0.refl _|apply Drawn0.step)⟩
        ·
         replace c13:=Bool.eq_false_iff.mpr c13
         subst c13
         have H1:((spec_l00Digit.f (bt a0 x3_2)).bind fun t115=>(if t115=τ then (spec_l00Word.l0 k2 a0 (ζm (x3_2+1))) else (some φ)))=some r:=by rw [if_neg (show ¬ (φ=τ) by decide)] at H;exact H
         clear H
         have H:=H1
         clear H1
         replace H:=Option.bind_eq_some_iff.mp H
         obtain ⟨t115,A150,H⟩:=H
         replace H:(if t115=τ then (spec_l00Word.l0 k2 a0 (ζm (x3_2+1))) else (some φ))=some r:=H
         have A15:=ζa A150
         clear A150
         by_cases c16:t115=τ
         ·
          subst c16
          have H1:(spec_l00Word.l0 k2 a0 (ζm (x3_2+1)))=some r:=by rw [if_pos rfl] at H;exact H
          clear H
          have H:=H1
          clear H1
          have H':=ζa H
          clear H
          have p11:0≤(x3_2:Int):=of_decide_eq_true (by first|(with_reducible assumption)|assumption)
          have q11:x3_2<(a0.size:Int):=of_decide_eq_true (by first|(with_reducible assumption)|assumption)
          have hx11:=bt_at a0 x3_2
          replace p11:=eq_true p11
          replace q11:=eq_true q11
          go_wp2_with (first|((with_reducible refine δv (f:=204) rfl ?_);refine goesL_ (some 27) rfl rfl Tryz.func204 (by kernel_rfl) rfl #[.int .u8 (bt a0 x3_2)] rfl (by (try simp only [δd,δe,δf]);first|done|rfl|(simp only [δg,δh];rfl)) ?_;(with_reducible refine (spec_l00Letter.calls (bt a0 x3_2) φ _ A12.out).mono ?_);rintro e w' ⟨rfl,⟨nd,rfl⟩⟩;refine ⟨_,rfl,?_⟩;have p14:0≤(x3_2:Int):=of_decide_eq_true (by first|(with_reducible assumption)|assumption);have q14:x3_2<(a0.size:Int):=of_decide_eq_true (by first|(with_reducible assumption)|assumption);have hx14:=bt_at a0 x3_2;replace p14:=eq_true p14;replace q14:=eq_true q14)|(go_at_call 205;(with_reducible refine (spec_l00Digit.calls (bt a0 x3_2) τ _ A15.out).mono ?_);rintro e w' ⟨rfl,⟨nd,rfl⟩⟩))
          go_roundg k2
          case measure=>have:=HJ1.out;have:=HK2.out;omega
          case rel=>exact ⟨(ζm (x3_2+1)),(by first|rfl|(simp;done)|(simp [*];done)),H',⟨by have:=HJ1.out;have:=HK2.out;omega⟩,by repeat (first|exact Drawn0.refl _|apply Drawn0.step)⟩
         ·
          replace c16:=Bool.eq_false_iff.mpr c16
          subst c16
          have H1:(some φ)=some r:=by rw [if_neg (show ¬ (φ=τ) by decide)] at H;exact H
          clear H
          have H:=H1
          clear H1
          obtain rfl:=Option.some.inj H
          have p11:0≤(x3_2:Int):=of_decide_eq_true (by first|(with_reducible assumption)|assumption)
          have q11:x3_2<(a0.size:Int):=of_decide_eq_true (by first|(with_reducible assumption)|assumption)
          have hx11:=bt_at a0 x3_2
          replace p11:=eq_true p11
          replace q11:=eq_true q11
          go_wp2_with (first|((with_reducible refine δv (f:=204) rfl ?_);refine goesL_ (some 27) rfl rfl Tryz.func204 (by kernel_rfl) rfl #[.int .u8 (bt a0 x3_2)] rfl (by (try simp only [δd,δe,δf]);first|done|rfl|(simp only [δg,δh];rfl)) ?_;(with_reducible refine (spec_l00Letter.calls (bt a0 x3_2) φ _ A12.out).mono ?_);rintro e w' ⟨rfl,⟨nd,rfl⟩⟩;refine ⟨_,rfl,?_⟩;have p14:0≤(x3_2:Int):=of_decide_eq_true (by first|(with_reducible assumption)|assumption);have q14:x3_2<(a0.size:Int):=of_decide_eq_true (by first|(with_reducible assumption)|assumption);have hx14:=bt_at a0 x3_2;replace p14:=eq_true p14;replace q14:=eq_true q14)|(go_at_call 205;(with_reducible refine (spec_l00Digit.calls (bt a0 x3_2) φ _ A15.out).mono ?_);rintro e w' ⟨rfl,⟨nd,rfl⟩⟩))
          go_ret
          exact ⟨by first|rfl|(simp;done)|(simp [*];done),by repeat (first|exact Drawn0.refl _|apply Drawn0.step)⟩
       ·
        rw [if_neg c10] at H
        exact absurd H (by simp)
      ·
       rw [if_neg c9] at H
       have c9b0:decide (x3_2<(a0.size:Int))=φ:=decide_eq_false c9
       clear c9
       obtain rfl:=Option.some.inj H
       go_wp2
       go_ret
       exact ⟨by first|rfl|(simp;done)|(simp [*];done),by repeat (first|exact Drawn0.refl _|apply Drawn0.step)⟩



/-! ### spec_NameOK: function 133 -/
def spec_NameOK.f (k:Nat) (a0:ByteArray):Option (Bool):=(spec_l00Word.f k a0).bind fun t116=>(some t116)
set_option maxHeartbeats 8000000 in
set_option maxRecDepth 100000 in
theorem spec_NameOK.calls (k:Nat) (a0:ByteArray) (r:Bool) (w:World) (h:spec_NameOK.f k a0=some r) :
  Calls Tryz.prog 133 #[.string a0] w fun e w'=>e = .returned (.bool r)∧Drawn0 w w':=by
 have H:((spec_l00Word.f k a0).bind fun t116=>(some t116))=some r:=h
 clear h
 replace H:=Option.bind_eq_some_iff.mp H
 obtain ⟨t116,A20,H⟩:=H
 replace H:(some t116)=some r:=H
 have A2:=ζa A20
 clear A20
 obtain rfl:=Option.some.inj H
 go_enter Tryz.func133,Tryz.ntmps133
 go_wp2_with (first|((with_reducible refine δv (f:=182) rfl ?_);refine goesL_ (some 4) rfl rfl Tryz.func182 (by kernel_rfl) rfl #[.string a0] rfl (by (try simp only [δd,δe,δf]);first|done|rfl|(simp only [δg,δh];rfl)) ?_;(with_reducible refine (spec_l00Word.calls k a0 t116 _ A2.out).mono ?_);rintro e w' ⟨rfl,⟨nd,rfl⟩⟩;refine ⟨_,rfl,?_⟩))
 go_ret
 exact ⟨by first|rfl|(simp;done)|(simp [*];done),by repeat (first|exact Drawn0.refl _|apply Drawn0.step)⟩



/-! ### spec_l05Name: function 75 -/
def spec_l05Name.f (k:Nat) (a0:ByteArray):Option (Bool):=if (a0.size:Int)≤12 then ((spec_NameOK.f k a0).bind fun t117=>(some t117)) else (some φ)
set_option maxHeartbeats 8000000 in
set_option maxRecDepth 100000 in
theorem spec_l05Name.calls (k:Nat) (a0:ByteArray) (r:Bool) (w:World) (h:spec_l05Name.f k a0=some r) :
  Calls Tryz.prog 75 #[.string a0] w fun e w'=>e = .returned (.bool r)∧Drawn0 w w':=by
 have H:(if (a0.size:Int)≤12 then ((spec_NameOK.f k a0).bind fun t117=>(some t117)) else (some φ))=some r:=h
 clear h
 by_cases c2:(a0.size:Int)≤12
 ·
  rw [if_pos c2] at H
  have c2b0:decide ((a0.size:Int)≤12)=τ:=decide_eq_true c2
  have c2b1:decide (a0.size≤12)=τ:=decide_eq_true (by omega)
  clear c2
  replace H:=Option.bind_eq_some_iff.mp H
  obtain ⟨t117,A30,H⟩:=H
  replace H:(some t117)=some r:=H
  have A3:=ζa A30
  clear A30
  obtain rfl:=Option.some.inj H
  go_enter Tryz.func75,Tryz.ntmps75
  go_wp2_with (first|(go_at_call 133;(with_reducible refine (spec_NameOK.calls k a0 t117 _ A3.out).mono ?_);rintro e w' ⟨rfl,⟨nd,rfl⟩⟩))
  go_ret
  exact ⟨by first|rfl|(simp;done)|(simp [*];done),by repeat (first|exact Drawn0.refl _|apply Drawn0.step)⟩
 ·
  rw [if_neg c2] at H
  have c2b0:decide ((a0.size:Int)≤12)=φ:=decide_eq_false c2
  have c2b1:decide (a0.size≤12)=φ:=decide_eq_false (by omega)
  clear c2
  obtain rfl:=Option.some.inj H
  go_enter Tryz.func75,Tryz.ntmps75
  go_wp2
  go_ret
  exact ⟨by first|rfl|(simp;done)|(simp [*];done),by repeat (first|exact Drawn0.refl _|apply Drawn0.step)⟩



/-! ### spec_l08Name: function 76 -/
def spec_l08Name.f (k:Nat) (a0:ByteArray):Option (Bool):=(spec_l05Name.f k a0).bind fun t118=>(if t118=τ then (if a0.toList=([101,115,99,114,111,119]:List UInt8) then (some φ) else (if a0.toList=([111,114,100,101,114,115]:List UInt8) then (some φ) else (if a0.toList=([116,97,107,101,115]:List UInt8) then (some φ) else (some (a0.toList != ([112,111,111,108]:List UInt8)))))) else (some φ))
set_option maxHeartbeats 8000000 in
set_option maxRecDepth 100000 in
theorem spec_l08Name.calls (k:Nat) (a0:ByteArray) (r:Bool) (w:World) (h:spec_l08Name.f k a0=some r) :
  Calls Tryz.prog 76 #[.string a0] w fun e w'=>e = .returned (.bool r)∧Drawn0 w w':=by
 have H:((spec_l05Name.f k a0).bind fun t118=>(if t118=τ then (if a0.toList=([101,115,99,114,111,119]:List UInt8) then (some φ) else (if a0.toList=([111,114,100,101,114,115]:List UInt8) then (some φ) else (if a0.toList=([116,97,107,101,115]:List UInt8) then (some φ) else (some (a0.toList != ([112,111,111,108]:List UInt8)))))) else (some φ)))=some r:=h
 clear h
 replace H:=Option.bind_eq_some_iff.mp H
 obtain ⟨t118,A20,H⟩:=H
 replace H:(if t118=τ then (if a0.toList=([101,115,99,114,111,119]:List UInt8) then (some φ) else (if a0.toList=([111,114,100,101,114,115]:List UInt8) then (some φ) else (if a0.toList=([116,97,107,101,115]:List UInt8) then (some φ) else (some (a0.toList != ([112,111,111,108]:List UInt8)))))) else (some φ))=some r:=H
 have A2:=ζa A20
 clear A20
 by_cases c3:t118=τ
 ·
  subst c3
  have H1:(if a0.toList=([101,115,99,114,111,119]:List UInt8) then (some φ) else (if a0.toList=([111,114,100,101,114,115]:List UInt8) then (some φ) else (if a0.toList=([116,97,107,101,115]:List UInt8) then (some φ) else (some (a0.toList != ([112,111,111,108]:List UInt8))))))=some r:=by rw [if_pos rfl] at H;exact H
  clear H
  have H:=H1
  clear H1
  by_cases c4:a0.toList=([101,115,99,114,111,119]:List UInt8)
  ·
   rw [if_pos c4] at H
   have c4b0:(a0.toList == ([101,115,99,114,111,119]:List UInt8))=τ:=beq_iff_eq.mpr c4
   have c4b1:(a0.toList != ([101,115,99,114,111,119]:List UInt8))=φ:=bne_eq_false_iff_eq.mpr c4
   clear c4
   obtain rfl:=Option.some.inj H
   go_enter Tryz.func76,Tryz.ntmps76
   go_wp2_with (first|((with_reducible refine δv (f:=75) rfl ?_);refine goesL_ (some 4) rfl rfl Tryz.func75 (by kernel_rfl) rfl #[.string a0] rfl (by (try simp only [δd,δe,δf]);first|done|rfl|(simp only [δg,δh];rfl)) ?_;(with_reducible refine (spec_l05Name.calls k a0 τ _ A2.out).mono ?_);rintro e w' ⟨rfl,⟨nd,rfl⟩⟩;refine ⟨_,rfl,?_⟩))
   go_ret
   exact ⟨by first|rfl|(simp;done)|(simp [*];done),by repeat (first|exact Drawn0.refl _|apply Drawn0.step)⟩
  ·
   rw [if_neg c4] at H
   have c4b0:(a0.toList == ([101,115,99,114,111,119]:List UInt8))=φ:=beq_eq_false_iff_ne.mpr c4
   have c4b1:(a0.toList != ([101,115,99,114,111,119]:List UInt8))=τ:=bne_iff_ne.mpr c4
   by_cases c5:a0.toList=([111,114,100,101,114,115]:List UInt8)
   ·
    rw [if_pos c5] at H
    have c5b0:(a0.toList == ([111,114,100,101,114,115]:List UInt8))=τ:=beq_iff_eq.mpr c5
    have c5b1:(a0.toList != ([111,114,100,101,114,115]:List UInt8))=φ:=bne_eq_false_iff_eq.mpr c5
    clear c5
    obtain rfl:=Option.some.inj H
    go_enter Tryz.func76,Tryz.ntmps76
    go_wp2_with (first|((with_reducible refine δv (f:=75) rfl ?_);refine goesL_ (some 4) rfl rfl Tryz.func75 (by kernel_rfl) rfl #[.string a0] rfl (by (try simp only [δd,δe,δf]);first|done|rfl|(simp only [δg,δh];rfl)) ?_;(with_reducible refine (spec_l05Name.calls k a0 τ _ A2.out).mono ?_);rintro e w' ⟨rfl,⟨nd,rfl⟩⟩;refine ⟨_,rfl,?_⟩))
    go_ret
    exact ⟨by first|rfl|(simp;done)|(simp [*];done),by repeat (first|exact Drawn0.refl _|apply Drawn0.step)⟩
   ·
    rw [if_neg c5] at H
    have c5b0:(a0.toList == ([111,114,100,101,114,115]:List UInt8))=φ:=beq_eq_false_iff_ne.mpr c5
    have c5b1:(a0.toList != ([111,114,100,101,114,115]:List UInt8))=τ:=bne_iff_ne.mpr c5
    by_cases c6:a0.toList=([116,97,107,101,115]:List UInt8)
    ·
     rw [if_pos c6] at H
     have c6b0:(a0.toList == ([116,97,107,101,115]:List UInt8))=τ:=beq_iff_eq.mpr c6
     have c6b1:(a0.toList != ([116,97,107,101,115]:List UInt8))=φ:=bne_eq_false_iff_eq.mpr c6
     clear c6
     obtain rfl:=Option.some.inj H
     go_enter Tryz.func76,Tryz.ntmps76
     go_wp2_with (first|((with_reducible refine δv (f:=75) rfl ?_);refine goesL_ (some 4) rfl rfl Tryz.func75 (by kernel_rfl) rfl #[.string a0] rfl (by (try simp only [δd,δe,δf]);first|done|rfl|(simp only [δg,δh];rfl)) ?_;(with_reducible refine (spec_l05Name.calls k a0 τ _ A2.out).mono ?_);rintro e w' ⟨rfl,⟨nd,rfl⟩⟩;refine ⟨_,rfl,?_⟩))
     go_ret
     exact ⟨by first|rfl|(simp;done)|(simp [*];done),by repeat (first|exact Drawn0.refl _|apply Drawn0.step)⟩
    ·
     rw [if_neg c6] at H
     have c6b0:(a0.toList == ([116,97,107,101,115]:List UInt8))=φ:=beq_eq_false_iff_ne.mpr c6
     have c6b1:(a0.toList != ([116,97,107,101,115]:List UInt8))=τ:=bne_iff_ne.mpr c6
     obtain rfl:=Option.some.inj H
     go_enter Tryz.func76,Tryz.ntmps76
     go_wp2_with (first|((with_reducible refine δv (f:=75) rfl ?_);refine goesL_ (some 4) rfl rfl Tryz.func75 (by kernel_rfl) rfl #[.string a0] rfl (by (try simp only [δd,δe,δf]);first|done|rfl|(simp only [δg,δh];rfl)) ?_;(with_reducible refine (spec_l05Name.calls k a0 τ _ A2.out).mono ?_);rintro e w' ⟨rfl,⟨nd,rfl⟩⟩;refine ⟨_,rfl,?_⟩))
     go_ret
     exact ⟨by first|rfl|(simp;done)|(simp [*];done),by repeat (first|exact Drawn0.refl _|apply Drawn0.step)⟩
 ·
  replace c3:=Bool.eq_false_iff.mpr c3
  subst c3
  have H1:(some φ)=some r:=by rw [if_neg (show ¬ (φ=τ) by decide)] at H;exact H
  clear H
  have H:=H1
  clear H1
  obtain rfl:=Option.some.inj H
  go_enter Tryz.func76,Tryz.ntmps76
  go_wp2_with (first|((with_reducible refine δv (f:=75) rfl ?_);refine goesL_ (some 4) rfl rfl Tryz.func75 (by kernel_rfl) rfl #[.string a0] rfl (by (try simp only [δd,δe,δf]);first|done|rfl|(simp only [δg,δh];rfl)) ?_;(with_reducible refine (spec_l05Name.calls k a0 φ _ A2.out).mono ?_);rintro e w' ⟨rfl,⟨nd,rfl⟩⟩;refine ⟨_,rfl,?_⟩))
  go_ret
  exact ⟨by first|rfl|(simp;done)|(simp [*];done),by repeat (first|exact Drawn0.refl _|apply Drawn0.step)⟩


open Go.Proofs.YtabmfhnhmoiljaaGreatDoorW.PrintWords renaming gate_dst → δx, below_size → δs, below_alloc → δk, pw_below_drewN → δi, below_drew1 → δj, below_step → δr, gate_builtin → δy
open List renaming setIfInBounds_toArray → δa, set_cons_zero → δb, set_cons_succ → δc
open Go.Proofs.YtabmfhnhmoiljaaGreatDoorW.PrintWords.Kd renaming R_alloc → ζd, R_drewN → ζc, R_drew → ζe

/-! ### spec_l02Read: function 148 -/
mutual
def spec_l02Read.j0:Nat→ByteArray→List ByteArray→Bool→Option (List ByteArray × Bool)
 | 0,_,_,_=>none
 | k+1,x0,x4,x15=>if x15=τ then (some (x4,φ)) else (if 0<(x0.size:Int) then (spec_l02Read.l0 k x0 x4 1 (ζm (bt x0 0))) else (none))
def spec_l02Read.l0:Nat→ByteArray→List ByteArray→Int→Int→Option (List ByteArray × Bool)
 | 0,_,_,_,_=>none
 | k+1,x0,x4,x5,x6=>if x6 > 0 then (if (ζm (x5+2)) > (x0.size:Int) then (some ((([]:List ByteArray)),φ)) else (if 0≤x5 then (if x5<(x0.size:Int) then (if 0≤(ζm (x5+1)) then (if (ζm (x5+1))<(x0.size:Int) then (if (ζm ((ζm ((ζm (bt x0 x5)) * 256))+(ζm (bt x0 (ζm (x5+1)))))) > 1000 then (some ((([]:List ByteArray)),φ)) else (if (ζm ((ζm (x5+2))+(ζm ((ζm ((ζm (bt x0 x5)) * 256))+(ζm (bt x0 (ζm (x5+1)))))))) > (x0.size:Int) then (some ((([]:List ByteArray)),φ)) else (if 0≤(ζm (x5+2)) then (if (ζm (x5+2))≤(ζm ((ζm (x5+2))+(ζm ((ζm ((ζm (bt x0 x5)) * 256))+(ζm (bt x0 (ζm (x5+1)))))))) then (if (ζm ((ζm (x5+2))+(ζm ((ζm ((ζm (bt x0 x5)) * 256))+(ζm (bt x0 (ζm (x5+1))))))))≤(x0.size:Int) then (if x4.length<8796093022208 then (spec_l02Read.l0 k x0 (x4 ++ [x0.extract ((ζm (x5+2)):Int).toNat ((ζm ((ζm (x5+2))+(ζm ((ζm ((ζm (bt x0 x5)) * 256))+(ζm (bt x0 (ζm (x5+1)))))))):Int).toNat]) (ζm (x5+(ζm (2+(ζm ((ζm ((ζm (bt x0 x5)) * 256))+(ζm (bt x0 (ζm (x5+1)))))))))) (ζm (x6 - 1))) else (none)) else (none)) else (none)) else (none)))) else (none)) else (none)) else (none)) else (none))) else (if x5=(x0.size:Int) then (some (x4,τ)) else (some ((([]:List ByteArray)),φ)))
end
def spec_l02Read.f (k:Nat) (a0:ByteArray):Option (List ByteArray × Bool):=(some (([]:List ByteArray):List ByteArray)).bind fun y316=>(if a0.toList=([]:List UInt8) then (spec_l02Read.j0 k a0 y316 τ) else (if 0<(a0.size:Int) then (spec_l02Read.j0 k a0 y316 (decide ((bt a0 0) > 40))) else (none)))
set_option maxHeartbeats 8000000 in
set_option maxRecDepth 100000 in
theorem spec_l02Read.calls (k:Nat) (a0:ByteArray) (r1:List ByteArray) (r2:Bool) (w:World) (h:spec_l02Read.f k a0=some (r1,r2)) :
  Calls Tryz.prog 148 #[.string a0] w fun e w' => ∃ v0_:Value,e = .returned (.tuple #[v0_,.bool r2])∧Kd.R Kd.string 9 w' w.heap.size (fun _=>True) v0_ r1∧Below w.heap.size w w':=by
 have HB:=ζa (Below.refl w.heap.size w)
 have H:((some (([]:List ByteArray):List ByteArray)).bind fun y316=>(if a0.toList=([]:List UInt8) then (spec_l02Read.j0 k a0 y316 τ) else (if 0<(a0.size:Int) then (spec_l02Read.j0 k a0 y316 (decide ((bt a0 0) > 40))) else (none))))=some (r1,r2):=h
 clear h
 obtain ⟨y316,hy316⟩ : ∃ y_:List ByteArray,y_=(([]:List ByteArray)):=⟨_,rfl⟩
 replace H:(if a0.toList=([]:List UInt8) then (spec_l02Read.j0 k a0 y316 τ) else (if 0<(a0.size:Int) then (spec_l02Read.j0 k a0 y316 (decide ((bt a0 0) > 40))) else (none)))=some (r1,r2):=by first|(rw [hy316];with_reducible exact H)|(have H2_:=(Option.bind_some _ _).symm.trans H;rw [hy316];with_reducible exact H2_)|(have H2_:=(Option.bind_some _ _).symm.trans H;with_reducible exact H2_)|with_reducible exact H|(rw [hy316];exact H)|exact H
 have Ny316:=ζa hy316
 clear hy316
 have HC2:=ζa H
 clear H
 go_enter Tryz.func148,Tryz.ntmps148
 go_upto_region 2 with (first|((with_reducible refine δx (N:=8) rfl ?_);(try (refine gate_guard (by rfl) ?_;dsimp only));refine Kd.R_lit Kd.string _ 9 ?hg (N:=8) ?hd (xs:=([]:List ByteArray)) (inner:=[]) (ok:=fun _=>True) (okp:=fun _=>True) ?hr ?hp (fun _ hk=>hk) trivial (Below.refl _ _) (Nat.le_refl _) (by simp) ?_;(case hd=>rfl);(case hg=>rfl);(case hr=>first|(go_simp;done)|(go_simp;rfl));(case hp=>exact (Reps.none _ _));intro v317 w3 ho4 hb hg_ hnew_;clear hg_ hnew_;(first|rw [← Ny316.out] at ho4|(simp only [Int.reduceToNat] at ho4;rw [← Ny316.out] at ho4));have n0_:=ζa (Kd.R_lower ho4 (δs (by repeat (first|(with_reducible first|exact HB.out|apply δk|apply δi|apply δj)|exact HB.out))));have n1_:=ζa (δr (by repeat (first|(with_reducible first|exact HB.out|apply δk|apply δi|apply δj)|exact HB.out)) hb);clear HB;have HO318:=n0_;have HB:=n1_;clear n0_ n1_;clear hb ho4))
 repeat (go_quiet (first|((with_reducible refine δx (N:=8) rfl ?_);(try (refine gate_guard (by rfl) ?_;dsimp only));refine Kd.R_lit Kd.string _ 9 ?hg (N:=8) ?hd (xs:=([]:List ByteArray)) (inner:=[]) (ok:=fun _=>True) (okp:=fun _=>True) ?hr ?hp (fun _ hk=>hk) trivial (Below.refl _ _) (Nat.le_refl _) (by simp) ?_;(case hd=>rfl);(case hg=>rfl);(case hr=>first|(go_simp;done)|(go_simp;rfl));(case hp=>exact (Reps.none _ _));intro v317 w3 ho4 hb hg_ hnew_;clear hg_ hnew_;(first|rw [← Ny316.out] at ho4|(simp only [Int.reduceToNat] at ho4;rw [← Ny316.out] at ho4));have n0_:=ζa (Kd.R_lower ho4 (δs (by repeat (first|(with_reducible first|exact HB.out|apply δk|apply δi|apply δj)|exact HB.out))));have n1_:=ζa (δr (by repeat (first|(with_reducible first|exact HB.out|apply δk|apply δi|apply δj)|exact HB.out)) hb);clear HB;have HO318:=n0_;have HB:=n1_;clear n0_ n1_;clear hb ho4));go_upto_region 2 with (first|((with_reducible refine δx (N:=8) rfl ?_);(try (refine gate_guard (by rfl) ?_;dsimp only));refine Kd.R_lit Kd.string _ 9 ?hg (N:=8) ?hd (xs:=([]:List ByteArray)) (inner:=[]) (ok:=fun _=>True) (okp:=fun _=>True) ?hr ?hp (fun _ hk=>hk) trivial (Below.refl _ _) (Nat.le_refl _) (by simp) ?_;(case hd=>rfl);(case hg=>rfl);(case hr=>first|(go_simp;done)|(go_simp;rfl));(case hp=>exact (Reps.none _ _));intro v317 w3 ho4 hb hg_ hnew_;clear hg_ hnew_;(first|rw [← Ny316.out] at ho4|(simp only [Int.reduceToNat] at ho4;rw [← Ny316.out] at ho4));have n0_:=ζa (Kd.R_lower ho4 (δs (by repeat (first|(with_reducible first|exact HB.out|apply δk|apply δi|apply δj)|exact HB.out))));have n1_:=ζa (δr (by repeat (first|(with_reducible first|exact HB.out|apply δk|apply δi|apply δj)|exact HB.out)) hb);clear HB;have HO318:=n0_;have HB:=n1_;clear n0_ n1_;clear hb ho4)))
 (try simp only [ζl,δa,δb,δc])
 go_cut [15] (fun v15 wc => ∃ (kq:Nat) (x15_1:Bool),v15 = .bool x15_1∧Aside0 (spec_l02Read.j0 kq a0 y316 x15_1=some (r1,r2))∧Aside0 (kq≤k)∧Aside0 (Kd.R Kd.string 9 wc w.heap.size (fun _=>True) v317 y316)∧Aside0 (Below w.heap.size w wc))
 case first =>
  have H:=HC2.out
  clear HC2
  by_cases c5:a0.toList=([]:List UInt8)
  ·
   rw [if_pos c5] at H
   have c5b0:(a0.toList == ([]:List UInt8))=τ:=beq_iff_eq.mpr c5
   have c5b1:(a0.toList != ([]:List UInt8))=φ:=bne_eq_false_iff_eq.mpr c5
   clear c5
   (first|rw [c5b0]|(simp only [i64_w,i32_w];rw [c5b0])|skip)
   have H':=ζa H
   clear H
   go_wp2
   repeat (go_quiet (fail);try go_wp2)
   go_meet
   case rel=>exact ⟨_,(τ),(by first|rfl|(simp;done)|(simp [*];done)),H',⟨by first|omega|exact Nat.le_refl _⟩,⟨by (with_reducible repeat (first|apply ζd|apply ζc|apply ζe));exact HO318.out⟩,⟨by repeat (first|(with_reducible first|exact HB.out|apply δk|apply δi|apply δj)|exact HB.out)⟩⟩
  ·
   rw [if_neg c5] at H
   have c5b0:(a0.toList == ([]:List UInt8))=φ:=beq_eq_false_iff_ne.mpr c5
   have c5b1:(a0.toList != ([]:List UInt8))=τ:=bne_iff_ne.mpr c5
   (first|rw [c5b0]|(simp only [i64_w,i32_w];rw [c5b0])|skip)
   by_cases c6:0<(a0.size:Int)
   ·
    rw [if_pos c6] at H
    have c6b0:decide (0<(a0.size:Int))=τ:=decide_eq_true c6
    have c6b1:decide (0<a0.size)=τ:=decide_eq_true (by omega)
    clear c6
    have H':=ζa H
    clear H
    have p7:0≤(0:Int):=(by omega)
    have q7:0<a0.size:=(by have:(0:Int)<(a0.size:Int):=of_decide_eq_true (by first|(with_reducible assumption)|assumption);omega)
    have hx7 : ∀ h:0<a0.size,((a0[0]'h).toNat:Int)=bt a0 0:=bt_at a0 0
    clear p7
    have qi7:(0<(a0.size:Int))=True:=eq_true (of_decide_eq_true (by first|(with_reducible assumption)|assumption))
    replace q7:=eq_true q7
    go_wp2
    repeat (go_quiet (fail);try go_wp2)
    go_meet
    case rel=>exact ⟨_,(decide ((bt a0 0) > 40)),(by first|rfl|(simp;done)|(simp [*];done)),H',⟨by first|omega|exact Nat.le_refl _⟩,⟨by (with_reducible repeat (first|apply ζd|apply ζc|apply ζe));exact HO318.out⟩,⟨by repeat (first|(with_reducible first|exact HB.out|apply δk|apply δi|apply δj)|exact HB.out)⟩⟩
   ·
    rw [if_neg c6] at H
    exact absurd H (by simp)
 case rest =>
  clear HC2
  try clear c1
  try clear p2
  try clear c5
  try clear c5b0
  try clear c5b1
  try clear c6
  try clear c6b0
  try clear c6b1
  try clear p7
  try clear q7
  try clear hx7
  try clear qi7
  try clear p7
  try clear q7
  obtain ⟨kq,x15_1,rfl,HA,HJ1,HO_4,HB⟩:=hcut
  cases kq with
  | zero=>exact absurd HA.out (by simp [spec_l02Read.j0])
  | succ kj1 =>
   have H:=HA.out
   clear HA
   simp only [spec_l02Read.j0] at H
   by_cases c8:x15_1=τ
   ·
    subst c8
    have H1:(some (y316,φ))=some (r1,r2):=by rw [if_pos rfl] at H;exact H
    clear H
    have H:=H1
    clear H1
    simp only [Option.some.injEq,Prod.mk.injEq] at H
    obtain ⟨rfl,rfl⟩:=H
    go_wp2
    repeat (go_quiet (fail);try go_wp2)
    go_ret2
    exact ⟨_,by first|rfl|(simp [errW_none,errW_some] <;> rfl)|(simp [*,errW_none,errW_some] <;> rfl),by (with_reducible repeat (first|apply ζd|apply ζc|apply ζe));exact HO_4.out,by repeat (first|(with_reducible first|exact HB.out|apply δk|apply δi|apply δj)|exact HB.out)⟩
   ·
    replace c8:=Bool.eq_false_iff.mpr c8
    subst c8
    have H1:(if 0<(a0.size:Int) then (spec_l02Read.l0 kj1 a0 y316 1 (ζm (bt a0 0))) else (none))=some (r1,r2):=by rw [if_neg (show ¬ (φ=τ) by decide)] at H;exact H
    clear H
    have H:=H1
    clear H1
    by_cases c9:0<(a0.size:Int)
    ·
     rw [if_pos c9] at H
     have c9b0:decide (0<(a0.size:Int))=τ:=decide_eq_true c9
     have c9b1:decide (0<a0.size)=τ:=decide_eq_true (by omega)
     clear c9
     have H':=ζa H
     clear H
     have p10:0≤(0:Int):=(by omega)
     have q10:0<a0.size:=(by have:(0:Int)<(a0.size:Int):=of_decide_eq_true (by first|(with_reducible assumption)|assumption);omega)
     have hx10 : ∀ h:0<a0.size,((a0[0]'h).toNat:Int)=bt a0 0:=bt_at a0 0
     clear p10
     have qi10:(0<(a0.size:Int))=True:=eq_true (of_decide_eq_true (by first|(with_reducible assumption)|assumption))
     replace q10:=eq_true q10
     go_wp2
     repeat (go_quiet (fail);try go_wp2)
     go_loopg [4,5,6] kj1 (fun kq v4 v5 v6 w' => ∃ (x4_2:List ByteArray) (x5_2:Int) (x6_2:Int),v5 = .int .i64 x5_2∧v6 = .int .i64 x6_2∧Aside0 (spec_l02Read.l0 kq a0 x4_2 x5_2 x6_2=some (r1,r2))∧Aside0 (kq≤kj1)∧Aside0 (Kd.R Kd.string 9 w' w.heap.size (fun _=>True) v4 x4_2)∧Aside0 (Below w.heap.size w w'))
     case atStart=>exact ⟨(y316),(1),(ζm (bt a0 0)),(by first|rfl|(simp;done)|(simp [*];done)),(by first|rfl|(simp;done)|(simp [*];done)),H',⟨Nat.le_refl _⟩,⟨by (with_reducible repeat (first|apply ζd|apply ζc|apply ζe));exact HO_4.out⟩,⟨by repeat (first|(with_reducible first|exact HB.out|apply δk|apply δi|apply δj)|exact HB.out)⟩⟩
     case round =>
      clear H'
      try clear c1
      try clear p1
      try clear q1
      try clear hx1
      try clear qi1
      try clear p2
      try clear c5
      try clear c5b0
      try clear c5b1
      try clear c6
      try clear c6b0
      try clear c6b1
      try clear p6
      try clear p7
      try clear q7
      try clear hx7
      try clear qi7
      try clear c8
      try clear c9
      try clear c9b0
      try clear c9b1
      try clear p10
      try clear q10
      try clear hx10
      try clear qi10
      try clear p10
      try clear p2
      try clear p7
      try clear q10
      try clear q7
      obtain ⟨x4_2,x5_2,x6_2,rfl,rfl,HA,HK2,HO_4,HB⟩:=hrel
      cases gk with
      | zero=>exact absurd HA.out (by simp [spec_l02Read.l0])
      | succ k2 =>
       have H:=HA.out
       clear HA
       simp only [spec_l02Read.l0] at H
       by_cases c11:x6_2 > 0
       ·
        rw [if_pos c11] at H
        have c11b0:decide (0<x6_2)=τ:=decide_eq_true c11
        clear c11
        by_cases c12:(ζm (x5_2+2)) > (a0.size:Int)
        ·
         rw [if_pos c12] at H
         have c12b0:decide ((a0.size:Int)<(ζm (x5_2+2)))=τ:=decide_eq_true c12
         clear c12
         obtain ⟨y322,hy322⟩ : ∃ y_:List ByteArray,y_=(([]:List ByteArray)):=⟨_,rfl⟩
         replace H:(some (y322,φ))=some (r1,r2):=by first|(rw [hy322];with_reducible exact H)|(have H2_:=(Option.bind_some _ _).symm.trans H;rw [hy322];with_reducible exact H2_)|(have H2_:=(Option.bind_some _ _).symm.trans H;with_reducible exact H2_)|with_reducible exact H|(rw [hy322];exact H)|exact H
         have Ny322:=ζa hy322
         clear hy322
         simp only [Option.some.injEq,Prod.mk.injEq] at H
         obtain ⟨rfl,rfl⟩:=H
         go_wp2_with (first|((with_reducible refine δx (N:=29) rfl ?_);(try (refine gate_guard (by rfl) ?_;dsimp only));refine Kd.R_lit Kd.string _ 9 ?hg (N:=29) ?hd (xs:=([]:List ByteArray)) (inner:=[]) (ok:=fun _=>True) (okp:=fun _=>True) ?hr ?hp (fun _ hk=>hk) trivial (Below.refl _ _) (Nat.le_refl _) (by simp) ?_;(case hd=>rfl);(case hg=>rfl);(case hr=>first|(go_simp;done)|(go_simp;rfl));(case hp=>exact (Reps.none _ _));intro v323 w13 ho14 hb hg_ hnew_;clear hg_ hnew_;(first|rw [← Ny322.out] at ho14|(simp only [Int.reduceToNat] at ho14;rw [← Ny322.out] at ho14));have n0_:=ζa (Kd.R_elder' (by (with_reducible repeat (first|apply ζd|apply ζc|apply ζe));exact HO_4.out) (Kd.R_base ho14) hb);have n1_:=ζa (Kd.R_lower (Kd.R_new' ho14 (Kd.R_lt (by (with_reducible repeat (first|apply ζd|apply ζc|apply ζe));exact HO_4.out))) (δs (by repeat (first|(with_reducible first|exact HB.out|apply δk|apply δi|apply δj)|exact HB.out))));have n2_:=ζa (δr (by repeat (first|(with_reducible first|exact HB.out|apply δk|apply δi|apply δj)|exact HB.out)) hb);clear HO_4;clear HB;have HO_4:=n0_;have HO324:=n1_;have HB:=n2_;clear n0_ n1_ n2_;clear hb ho14))
         repeat (go_quiet (first|((with_reducible refine δx (N:=29) rfl ?_);(try (refine gate_guard (by rfl) ?_;dsimp only));refine Kd.R_lit Kd.string _ 9 ?hg (N:=29) ?hd (xs:=([]:List ByteArray)) (inner:=[]) (ok:=fun _=>True) (okp:=fun _=>True) ?hr ?hp (fun _ hk=>hk) trivial (Below.refl _ _) (Nat.le_refl _) (by simp) ?_;(case hd=>rfl);(case hg=>rfl);(case hr=>first|(go_simp;done)|(go_simp;rfl));(case hp=>exact (Reps.none _ _));intro v323 w13 ho14 hb hg_ hnew_;clear hg_ hnew_;(first|rw [← Ny322.out] at ho14|(simp only [Int.reduceToNat] at ho14;rw [← Ny322.out] at ho14));have n0_:=ζa (Kd.R_elder' (by (with_reducible repeat (first|apply ζd|apply ζc|apply ζe));exact HO_4.out) (Kd.R_base ho14) hb);have n1_:=ζa (Kd.R_lower (Kd.R_new' ho14 (Kd.R_lt (by (with_reducible repeat (first|apply ζd|apply ζc|apply ζe));exact HO_4.out))) (δs (by repeat (first|(with_reducible first|exact HB.out|apply δk|apply δi|apply δj)|exact HB.out))));have n2_:=ζa (δr (by repeat (first|(with_reducible first|exact HB.out|apply δk|apply δi|apply δj)|exact HB.out)) hb);clear HO_4;clear HB;have HO_4:=n0_;have HO324:=n1_;have HB:=n2_;clear n0_ n1_ n2_;clear hb ho14));try go_wp2_with (first|((with_reducible refine δx (N:=29) rfl ?_);(try (refine gate_guard (by rfl) ?_;dsimp only));refine Kd.R_lit Kd.string _ 9 ?hg (N:=29) ?hd (xs:=([]:List ByteArray)) (inner:=[]) (ok:=fun _=>True) (okp:=fun _=>True) ?hr ?hp (fun _ hk=>hk) trivial (Below.refl _ _) (Nat.le_refl _) (by simp) ?_;(case hd=>rfl);(case hg=>rfl);(case hr=>first|(go_simp;done)|(go_simp;rfl));(case hp=>exact (Reps.none _ _));intro v323 w13 ho14 hb hg_ hnew_;clear hg_ hnew_;(first|rw [← Ny322.out] at ho14|(simp only [Int.reduceToNat] at ho14;rw [← Ny322.out] at ho14));have n0_:=ζa (Kd.R_elder' (by (with_reducible repeat (first|apply ζd|apply ζc|apply ζe));exact HO_4.out) (Kd.R_base ho14) hb);have n1_:=ζa (Kd.R_lower (Kd.R_new' ho14 (Kd.R_lt (by (with_reducible repeat (first|apply ζd|apply ζc|apply ζe));exact HO_4.out))) (δs (by repeat (first|(with_reducible first|exact HB.out|apply δk|apply δi|apply δj)|exact HB.out))));have n2_:=ζa (δr (by repeat (first|(with_reducible first|exact HB.out|apply δk|apply δi|apply δj)|exact HB.out)) hb);clear HO_4;clear HB;have HO_4:=n0_;have HO324:=n1_;have HB:=n2_;clear n0_ n1_ n2_;clear hb ho14)))
         go_ret2
         exact ⟨_,by first|rfl|(simp [errW_none,errW_some] <;> rfl)|(simp [*,errW_none,errW_some] <;> rfl),by (with_reducible repeat (first|apply ζd|apply ζc|apply ζe));exact Kd.R_mono HO324.out (fun _ hk=>trivial),by repeat (first|(with_reducible first|exact HB.out|apply δk|apply δi|apply δj)|exact HB.out)⟩
        ·
         rw [if_neg c12] at H
         have c12b0:decide ((a0.size:Int)<(ζm (x5_2+2)))=φ:=decide_eq_false c12
         clear c12
         by_cases c15:0≤x5_2
         ·
          rw [if_pos c15] at H
          have c15b0:decide (0≤x5_2)=τ:=decide_eq_true c15
          clear c15
          by_cases c16:x5_2<(a0.size:Int)
          ·
           rw [if_pos c16] at H
           have c16b0:decide (x5_2<(a0.size:Int))=τ:=decide_eq_true c16
           clear c16
           obtain ⟨ji18,hji18⟩ : ∃ j_:Int,(ζm (x5_2+1))=j_:=⟨_,rfl⟩
           replace H:(if 0≤(ji18) then (if (ji18)<(a0.size:Int) then (if (ζm ((ζm ((ζm (bt a0 x5_2)) * 256))+(ζm (bt a0 (ji18))))) > 1000 then (some ((([]:List ByteArray)),φ)) else (if (ζm ((ζm (x5_2+2))+(ζm ((ζm ((ζm (bt a0 x5_2)) * 256))+(ζm (bt a0 (ji18))))))) > (a0.size:Int) then (some ((([]:List ByteArray)),φ)) else (if 0≤(ζm (x5_2+2)) then (if (ζm (x5_2+2))≤(ζm ((ζm (x5_2+2))+(ζm ((ζm ((ζm (bt a0 x5_2)) * 256))+(ζm (bt a0 (ji18))))))) then (if (ζm ((ζm (x5_2+2))+(ζm ((ζm ((ζm (bt a0 x5_2)) * 256))+(ζm (bt a0 (ji18)))))))≤(a0.size:Int) then (if x4_2.length<8796093022208 then (spec_l02Read.l0 k2 a0 (x4_2 ++ [a0.extract ((ζm (x5_2+2)):Int).toNat ((ζm ((ζm (x5_2+2))+(ζm ((ζm ((ζm (bt a0 x5_2)) * 256))+(ζm (bt a0 (ji18))))))):Int).toNat]) (ζm (x5_2+(ζm (2+(ζm ((ζm ((ζm (bt a0 x5_2)) * 256))+(ζm (bt a0 (ji18))))))))) (ζm (x6_2 - 1))) else (none)) else (none)) else (none)) else (none)))) else (none)) else (none))=some (r1,r2):=by first|(rw [hji18] at H;exact H)|(simp only [hji18] at H ⊢;exact H)
           have hji18w:(IntKind.i64.wrap (x5_2+1))=ji18:=(i64_w _).trans hji18
           by_cases c19:0≤(ji18)
           ·
            rw [if_pos c19] at H
            have c19b0:decide (0≤(ji18))=τ:=decide_eq_true c19
            clear c19
            by_cases c20:(ji18)<(a0.size:Int)
            ·
             rw [if_pos c20] at H
             have c20b0:decide ((ji18)<(a0.size:Int))=τ:=decide_eq_true c20
             clear c20
             by_cases c22:(ζm ((ζm ((ζm (bt a0 x5_2)) * 256))+(ζm (bt a0 (ji18))))) > 1000
             ·
              rw [if_pos c22] at H
              have c22b0:decide (1000<(ζm ((ζm ((ζm (bt a0 x5_2)) * 256))+(ζm (bt a0 (ji18))))))=τ:=decide_eq_true c22
              clear c22
              obtain ⟨y325,hy325⟩ : ∃ y_:List ByteArray,y_=(([]:List ByteArray)):=⟨_,rfl⟩
              replace H:(some (y325,φ))=some (r1,r2):=by first|(rw [hy325];with_reducible exact H)|(have H2_:=(Option.bind_some _ _).symm.trans H;rw [hy325];with_reducible exact H2_)|(have H2_:=(Option.bind_some _ _).symm.trans H;with_reducible exact H2_)|with_reducible exact H|(rw [hy325];exact H)|exact H
              have Ny325:=ζa hy325
              clear hy325
              simp only [Option.some.injEq,Prod.mk.injEq] at H
              obtain ⟨rfl,rfl⟩:=H
              have p17:0≤(x5_2:Int):=of_decide_eq_true (by first|(with_reducible assumption)|assumption)
              have q17:x5_2<(a0.size:Int):=of_decide_eq_true (by first|(with_reducible assumption)|assumption)
              have hx17:=bt_at a0 x5_2
              replace p17:=eq_true p17
              replace q17:=eq_true q17
              have p21:0≤((ji18):Int):=of_decide_eq_true (by first|(with_reducible assumption)|assumption)
              have q21:(ji18)<(a0.size:Int):=of_decide_eq_true (by first|(with_reducible assumption)|assumption)
              have hx21:=bt_at a0 (ji18)
              replace p21:=eq_true p21
              replace q21:=eq_true q21
              go_wp2_with (first|((with_reducible refine δx (N:=52) rfl ?_);(try (refine gate_guard (by rfl) ?_;dsimp only));refine Kd.R_lit Kd.string _ 9 ?hg (N:=52) ?hd (xs:=([]:List ByteArray)) (inner:=[]) (ok:=fun _=>True) (okp:=fun _=>True) ?hr ?hp (fun _ hk=>hk) trivial (Below.refl _ _) (Nat.le_refl _) (by simp) ?_;(case hd=>rfl);(case hg=>rfl);(case hr=>first|(go_simp;done)|(go_simp;rfl));(case hp=>exact (Reps.none _ _));intro v326 w23 ho24 hb hg_ hnew_;clear hg_ hnew_;(first|rw [← Ny325.out] at ho24|(simp only [Int.reduceToNat] at ho24;rw [← Ny325.out] at ho24));have n0_:=ζa (Kd.R_elder' (by (with_reducible repeat (first|apply ζd|apply ζc|apply ζe));exact HO_4.out) (Kd.R_base ho24) hb);have n1_:=ζa (Kd.R_lower (Kd.R_new' ho24 (Kd.R_lt (by (with_reducible repeat (first|apply ζd|apply ζc|apply ζe));exact HO_4.out))) (δs (by repeat (first|(with_reducible first|exact HB.out|apply δk|apply δi|apply δj)|exact HB.out))));have n2_:=ζa (δr (by repeat (first|(with_reducible first|exact HB.out|apply δk|apply δi|apply δj)|exact HB.out)) hb);clear HO_4;clear HB;have HO_4:=n0_;have HO327:=n1_;have HB:=n2_;clear n0_ n1_ n2_;clear hb ho24))
              repeat (go_quiet (first|((with_reducible refine δx (N:=52) rfl ?_);(try (refine gate_guard (by rfl) ?_;dsimp only));refine Kd.R_lit Kd.string _ 9 ?hg (N:=52) ?hd (xs:=([]:List ByteArray)) (inner:=[]) (ok:=fun _=>True) (okp:=fun _=>True) ?hr ?hp (fun _ hk=>hk) trivial (Below.refl _ _) (Nat.le_refl _) (by simp) ?_;(case hd=>rfl);(case hg=>rfl);(case hr=>first|(go_simp;done)|(go_simp;rfl));(case hp=>exact (Reps.none _ _));intro v326 w23 ho24 hb hg_ hnew_;clear hg_ hnew_;(first|rw [← Ny325.out] at ho24|(simp only [Int.reduceToNat] at ho24;rw [← Ny325.out] at ho24));have n0_:=ζa (Kd.R_elder' (by (with_reducible repeat (first|apply ζd|apply ζc|apply ζe));exact HO_4.out) (Kd.R_base ho24) hb);have n1_:=ζa (Kd.R_lower (Kd.R_new' ho24 (Kd.R_lt (by (with_reducible repeat (first|apply ζd|apply ζc|apply ζe));exact HO_4.out))) (δs (by repeat (first|(with_reducible first|exact HB.out|apply δk|apply δi|apply δj)|exact HB.out))));have n2_:=ζa (δr (by repeat (first|(with_reducible first|exact HB.out|apply δk|apply δi|apply δj)|exact HB.out)) hb);clear HO_4;clear HB;have HO_4:=n0_;have HO327:=n1_;have HB:=n2_;clear n0_ n1_ n2_;clear hb ho24));try go_wp2_with (first|((with_reducible refine δx (N:=52) rfl ?_);(try (refine gate_guard (by rfl) ?_;dsimp only));refine Kd.R_lit Kd.string _ 9 ?hg (N:=52) ?hd (xs:=([]:List ByteArray)) (inner:=[]) (ok:=fun _=>True) (okp:=fun _=>True) ?hr ?hp (fun _ hk=>hk) trivial (Below.refl _ _) (Nat.le_refl _) (by simp) ?_;(case hd=>rfl);(case hg=>rfl);(case hr=>first|(go_simp;done)|(go_simp;rfl));(case hp=>exact (Reps.none _ _));intro v326 w23 ho24 hb hg_ hnew_;clear hg_ hnew_;(first|rw [← Ny325.out] at ho24|(simp only [Int.reduceToNat] at ho24;rw [← Ny325.out] at ho24));have n0_:=ζa (Kd.R_elder' (by (with_reducible repeat (first|apply ζd|apply ζc|apply ζe));exact HO_4.out) (Kd.R_base ho24) hb);have n1_:=ζa (Kd.R_lower (Kd.R_new' ho24 (Kd.R_lt (by (with_reducible repeat (first|apply ζd|apply ζc|apply ζe));exact HO_4.out))) (δs (by repeat (first|(with_reducible first|exact HB.out|apply δk|apply δi|apply δj)|exact HB.out))));have n2_:=ζa (δr (by repeat (first|(with_reducible first|exact HB.out|apply δk|apply δi|apply δj)|exact HB.out)) hb);clear HO_4;clear HB;have HO_4:=n0_;have HO327:=n1_;have HB:=n2_;clear n0_ n1_ n2_;clear hb ho24)))
              go_ret2
              exact ⟨_,by first|rfl|(simp [errW_none,errW_some] <;> rfl)|(simp only [← hji18];first|rfl|(simp [errW_none,errW_some] <;> rfl))|(simp [*,errW_none,errW_some] <;> rfl),by (with_reducible repeat (first|apply ζd|apply ζc|apply ζe));exact Kd.R_mono HO327.out (fun _ hk=>trivial),by repeat (first|(with_reducible first|exact HB.out|apply δk|apply δi|apply δj)|exact HB.out)⟩
             ·
              rw [if_neg c22] at H
              have c22b0:decide (1000<(ζm ((ζm ((ζm (bt a0 x5_2)) * 256))+(ζm (bt a0 (ji18))))))=φ:=decide_eq_false c22
              clear c22
              by_cases c25:(ζm ((ζm (x5_2+2))+(ζm ((ζm ((ζm (bt a0 x5_2)) * 256))+(ζm (bt a0 (ji18))))))) > (a0.size:Int)
              ·
               rw [if_pos c25] at H
               have c25b0:decide ((a0.size:Int)<(ζm ((ζm (x5_2+2))+(ζm ((ζm ((ζm (bt a0 x5_2)) * 256))+(ζm (bt a0 (ji18))))))))=τ:=decide_eq_true c25
               clear c25
               obtain ⟨y328,hy328⟩ : ∃ y_:List ByteArray,y_=(([]:List ByteArray)):=⟨_,rfl⟩
               replace H:(some (y328,φ))=some (r1,r2):=by first|(rw [hy328];with_reducible exact H)|(have H2_:=(Option.bind_some _ _).symm.trans H;rw [hy328];with_reducible exact H2_)|(have H2_:=(Option.bind_some _ _).symm.trans H;with_reducible exact H2_)|with_reducible exact H|(rw [hy328];exact H)|exact H
               have Ny328:=ζa hy328
               clear hy328
               simp only [Option.some.injEq,Prod.mk.injEq] at H
               obtain ⟨rfl,rfl⟩:=H
               have p17:0≤(x5_2:Int):=of_decide_eq_true (by first|(with_reducible assumption)|assumption)
               have q17:x5_2<(a0.size:Int):=of_decide_eq_true (by first|(with_reducible assumption)|assumption)
               have hx17:=bt_at a0 x5_2
               replace p17:=eq_true p17
               replace q17:=eq_true q17
               have p21:0≤((ji18):Int):=of_decide_eq_true (by first|(with_reducible assumption)|assumption)
               have q21:(ji18)<(a0.size:Int):=of_decide_eq_true (by first|(with_reducible assumption)|assumption)
               have hx21:=bt_at a0 (ji18)
               replace p21:=eq_true p21
               replace q21:=eq_true q21
               go_wp2_with (first|((with_reducible refine δx (N:=52) rfl ?_);(try (refine gate_guard (by rfl) ?_;dsimp only));refine Kd.R_lit Kd.string _ 9 ?hg (N:=52) ?hd (xs:=([]:List ByteArray)) (inner:=[]) (ok:=fun _=>True) (okp:=fun _=>True) ?hr ?hp (fun _ hk=>hk) trivial (Below.refl _ _) (Nat.le_refl _) (by simp) ?_;(case hd=>rfl);(case hg=>rfl);(case hr=>first|(go_simp;done)|(go_simp;rfl));(case hp=>exact (Reps.none _ _));intro v329 w26 ho27 hb hg_ hnew_;clear hg_ hnew_;(first|rw [← Ny328.out] at ho27|(simp only [Int.reduceToNat] at ho27;rw [← Ny328.out] at ho27));have n0_:=ζa (Kd.R_elder' (by (with_reducible repeat (first|apply ζd|apply ζc|apply ζe));exact HO_4.out) (Kd.R_base ho27) hb);have n1_:=ζa (Kd.R_lower (Kd.R_new' ho27 (Kd.R_lt (by (with_reducible repeat (first|apply ζd|apply ζc|apply ζe));exact HO_4.out))) (δs (by repeat (first|(with_reducible first|exact HB.out|apply δk|apply δi|apply δj)|exact HB.out))));have n2_:=ζa (δr (by repeat (first|(with_reducible first|exact HB.out|apply δk|apply δi|apply δj)|exact HB.out)) hb);clear HO_4;clear HB;have HO_4:=n0_;have HO330:=n1_;have HB:=n2_;clear n0_ n1_ n2_;clear hb ho27))
               repeat (go_quiet (first|((with_reducible refine δx (N:=52) rfl ?_);(try (refine gate_guard (by rfl) ?_;dsimp only));refine Kd.R_lit Kd.string _ 9 ?hg (N:=52) ?hd (xs:=([]:List ByteArray)) (inner:=[]) (ok:=fun _=>True) (okp:=fun _=>True) ?hr ?hp (fun _ hk=>hk) trivial (Below.refl _ _) (Nat.le_refl _) (by simp) ?_;(case hd=>rfl);(case hg=>rfl);(case hr=>first|(go_simp;done)|(go_simp;rfl));(case hp=>exact (Reps.none _ _));intro v329 w26 ho27 hb hg_ hnew_;clear hg_ hnew_;(first|rw [← Ny328.out] at ho27|(simp only [Int.reduceToNat] at ho27;rw [← Ny328.out] at ho27));have n0_:=ζa (Kd.R_elder' (by (with_reducible repeat (first|apply ζd|apply ζc|apply ζe));exact HO_4.out) (Kd.R_base ho27) hb);have n1_:=ζa (Kd.R_lower (Kd.R_new' ho27 (Kd.R_lt (by (with_reducible repeat (first|apply ζd|apply ζc|apply ζe));exact HO_4.out))) (δs (by repeat (first|(with_reducible first|exact HB.out|apply δk|apply δi|apply δj)|exact HB.out))));have n2_:=ζa (δr (by repeat (first|(with_reducible first|exact HB.out|apply δk|apply δi|apply δj)|exact HB.out)) hb);clear HO_4;clear HB;have HO_4:=n0_;have HO330:=n1_;have HB:=n2_;clear n0_ n1_ n2_;clear hb ho27));try go_wp2_with (first|((with_reducible refine δx (N:=52) rfl ?_);(try (refine gate_guard (by rfl) ?_;dsimp only));refine Kd.R_lit Kd.string _ 9 ?hg (N:=52) ?hd (xs:=([]:List ByteArray)) (inner:=[]) (ok:=fun _=>True) (okp:=fun _=>True) ?hr ?hp (fun _ hk=>hk) trivial (Below.refl _ _) (Nat.le_refl _) (by simp) ?_;(case hd=>rfl);(case hg=>rfl);(case hr=>first|(go_simp;done)|(go_simp;rfl));(case hp=>exact (Reps.none _ _));intro v329 w26 ho27 hb hg_ hnew_;clear hg_ hnew_;(first|rw [← Ny328.out] at ho27|(simp only [Int.reduceToNat] at ho27;rw [← Ny328.out] at ho27));have n0_:=ζa (Kd.R_elder' (by (with_reducible repeat (first|apply ζd|apply ζc|apply ζe));exact HO_4.out) (Kd.R_base ho27) hb);have n1_:=ζa (Kd.R_lower (Kd.R_new' ho27 (Kd.R_lt (by (with_reducible repeat (first|apply ζd|apply ζc|apply ζe));exact HO_4.out))) (δs (by repeat (first|(with_reducible first|exact HB.out|apply δk|apply δi|apply δj)|exact HB.out))));have n2_:=ζa (δr (by repeat (first|(with_reducible first|exact HB.out|apply δk|apply δi|apply δj)|exact HB.out)) hb);clear HO_4;clear HB;have HO_4:=n0_;have HO330:=n1_;have HB:=n2_;clear n0_ n1_ n2_;clear hb ho27)))
               go_ret2
               exact ⟨_,by first|rfl|(simp [errW_none,errW_some] <;> rfl)|(simp only [← hji18];first|rfl|(simp [errW_none,errW_some] <;> rfl))|(simp [*,errW_none,errW_some] <;> rfl),by (with_reducible repeat (first|apply ζd|apply ζc|apply ζe));exact Kd.R_mono HO330.out (fun _ hk=>trivial),by repeat (first|(with_reducible first|exact HB.out|apply δk|apply δi|apply δj)|exact HB.out)⟩
              ·
               rw [if_neg c25] at H
               have c25b0:decide ((a0.size:Int)<(ζm ((ζm (x5_2+2))+(ζm ((ζm ((ζm (bt a0 x5_2)) * 256))+(ζm (bt a0 (ji18))))))))=φ:=decide_eq_false c25
               clear c25
               obtain ⟨ji28,hji28⟩ : ∃ j_:Int,(ζm (x5_2+2))=j_:=⟨_,rfl⟩
               replace H:(if 0≤(ji28) then (if (ji28)≤(ζm ((ji28)+(ζm ((ζm ((ζm (bt a0 x5_2)) * 256))+(ζm (bt a0 (ji18))))))) then (if (ζm ((ji28)+(ζm ((ζm ((ζm (bt a0 x5_2)) * 256))+(ζm (bt a0 (ji18)))))))≤(a0.size:Int) then (if x4_2.length<8796093022208 then (spec_l02Read.l0 k2 a0 (x4_2 ++ [a0.extract ((ji28):Int).toNat ((ζm ((ji28)+(ζm ((ζm ((ζm (bt a0 x5_2)) * 256))+(ζm (bt a0 (ji18))))))):Int).toNat]) (ζm (x5_2+(ζm (2+(ζm ((ζm ((ζm (bt a0 x5_2)) * 256))+(ζm (bt a0 (ji18))))))))) (ζm (x6_2 - 1))) else (none)) else (none)) else (none)) else (none))=some (r1,r2):=by first|(rw [hji28] at H;exact H)|(simp only [hji28] at H ⊢;exact H)
               (try rw [hji28] at c12b0)
               (try rw [hji28] at c25b0)
               have hji28w:(IntKind.i64.wrap (x5_2+2))=ji28:=(i64_w _).trans hji28
               by_cases c29:0≤(ji28)
               ·
                rw [if_pos c29] at H
                have c29b0:=eq_true c29
                have c29b1:decide (0≤(ji28))=τ:=decide_eq_true c29
                clear c29
                by_cases c30:(ji28)≤(ζm ((ji28)+(ζm ((ζm ((ζm (bt a0 x5_2)) * 256))+(ζm (bt a0 (ji18)))))))
                ·
                 rw [if_pos c30] at H
                 have c30b0:=eq_true c30
                 have c30b1:decide ((ji28)≤(ζm ((ji28)+(ζm ((ζm ((ζm (bt a0 x5_2)) * 256))+(ζm (bt a0 (ji18))))))))=τ:=decide_eq_true c30
                 by_cases c31:(ζm ((ji28)+(ζm ((ζm ((ζm (bt a0 x5_2)) * 256))+(ζm (bt a0 (ji18)))))))≤(a0.size:Int)
                 ·
                  rw [if_pos c31] at H
                  have c31b0:=eq_true c31
                  have c31b1:decide ((ζm ((ji28)+(ζm ((ζm ((ζm (bt a0 x5_2)) * 256))+(ζm (bt a0 (ji18)))))))≤(a0.size:Int))=τ:=decide_eq_true c31
                  by_cases c32:x4_2.length<8796093022208
                  ·
                   rw [if_pos c32] at H
                   have LMc32:=ζa c32
                   clear c32
                   obtain ⟨y331,hy331⟩ : ∃ y_:List ByteArray,y_=(x4_2 ++ [a0.extract ((ji28):Int).toNat ((ζm ((ji28)+(ζm ((ζm ((ζm (bt a0 x5_2)) * 256))+(ζm (bt a0 (ji18))))))):Int).toNat]):=⟨_,rfl⟩
                   replace H:(spec_l02Read.l0 k2 a0 y331 (ζm (x5_2+(ζm (2+(ζm ((ζm ((ζm (bt a0 x5_2)) * 256))+(ζm (bt a0 (ji18))))))))) (ζm (x6_2 - 1)))=some (r1,r2):=by first|(rw [hy331];with_reducible exact H)|(have H2_:=(Option.bind_some _ _).symm.trans H;rw [hy331];with_reducible exact H2_)|(have H2_:=(Option.bind_some _ _).symm.trans H;with_reducible exact H2_)|with_reducible exact H|(rw [hy331];exact H)|exact H
                   have Ny331:=ζa hy331
                   clear hy331
                   have H':=ζa H
                   clear H
                   have p17:0≤(x5_2:Int):=of_decide_eq_true (by first|(with_reducible assumption)|assumption)
                   have q17:x5_2<(a0.size:Int):=of_decide_eq_true (by first|(with_reducible assumption)|assumption)
                   have hx17:=bt_at a0 x5_2
                   replace p17:=eq_true p17
                   replace q17:=eq_true q17
                   have p21:0≤((ji18):Int):=of_decide_eq_true (by first|(with_reducible assumption)|assumption)
                   have q21:(ji18)<(a0.size:Int):=of_decide_eq_true (by first|(with_reducible assumption)|assumption)
                   have hx21:=bt_at a0 (ji18)
                   replace p21:=eq_true p21
                   replace q21:=eq_true q21
                   go_wp2_with (first|((with_reducible refine δy (b:=.append) (xs:=#[.tmp 53,.tmp 62]) rfl ?_);(try (refine gate_guard (by rfl) ?_;dsimp only));at_builtin;refine Kd.R_append Kd.string (w0:=w) w.heap.size rfl (.tmp 53) (.tmp 62) 75 9 (.string ⟨#[]⟩) 16 rfl Tryz.underlying75 info9 rfl (by decide) (by omega) u4 x4_2 (a0.extract ((ji28):Int).toNat ((ζm ((ji28)+(ζm ((ζm ((ζm (bt a0 x5_2)) * 256))+(ζm (bt a0 (ji18))))))):Int).toNat) [.string (a0.extract ((ji28):Int).toNat ((ζm ((ji28)+(ζm ((ζm ((ζm (bt a0 x5_2)) * 256))+(ζm (bt a0 (ji18))))))):Int).toNat)] (fun _=>True) (fun _=>False) rfl rfl ?aP (fun _ hk=>hk.elim) ?aF ?aO ?aB ?aS ?aL ?_;(case aP=>exact rfl);(case aB=>exact (by repeat (first|(with_reducible first|exact HB.out|apply δk|apply δi|apply δj)|exact HB.out)));(case aF=>exact (fun _ _=>trivial));(case aO=>exact (by (with_reducible repeat (first|apply ζd|apply ζc|apply ζe));exact HO_4.out));(case aS=>exact (δs (by repeat (first|(with_reducible first|exact HB.out|apply δk|apply δi|apply δj)|exact HB.out))));(case aL=>have:=LMc32.out;omega);intro v332 w33 ho hb hg hat;rw [← Ny331.out] at ho;have n0_:=ζa (hb);have n1_:=ζa (ho);clear HB;clear HO_4;have HB:=n0_;have HO333:=n1_;clear n0_ n1_;clear ho hb hg hat))
                   repeat (go_quiet (first|((with_reducible refine δy (b:=.append) (xs:=#[.tmp 53,.tmp 62]) rfl ?_);(try (refine gate_guard (by rfl) ?_;dsimp only));at_builtin;refine Kd.R_append Kd.string (w0:=w) w.heap.size rfl (.tmp 53) (.tmp 62) 75 9 (.string ⟨#[]⟩) 16 rfl Tryz.underlying75 info9 rfl (by decide) (by omega) u4 x4_2 (a0.extract ((ji28):Int).toNat ((ζm ((ji28)+(ζm ((ζm ((ζm (bt a0 x5_2)) * 256))+(ζm (bt a0 (ji18))))))):Int).toNat) [.string (a0.extract ((ji28):Int).toNat ((ζm ((ji28)+(ζm ((ζm ((ζm (bt a0 x5_2)) * 256))+(ζm (bt a0 (ji18))))))):Int).toNat)] (fun _=>True) (fun _=>False) rfl rfl ?aP (fun _ hk=>hk.elim) ?aF ?aO ?aB ?aS ?aL ?_;(case aP=>exact rfl);(case aB=>exact (by repeat (first|(with_reducible first|exact HB.out|apply δk|apply δi|apply δj)|exact HB.out)));(case aF=>exact (fun _ _=>trivial));(case aO=>exact (by (with_reducible repeat (first|apply ζd|apply ζc|apply ζe));exact HO_4.out));(case aS=>exact (δs (by repeat (first|(with_reducible first|exact HB.out|apply δk|apply δi|apply δj)|exact HB.out))));(case aL=>have:=LMc32.out;omega);intro v332 w33 ho hb hg hat;rw [← Ny331.out] at ho;have n0_:=ζa (hb);have n1_:=ζa (ho);clear HB;clear HO_4;have HB:=n0_;have HO333:=n1_;clear n0_ n1_;clear ho hb hg hat));try go_wp2_with (first|((with_reducible refine δy (b:=.append) (xs:=#[.tmp 53,.tmp 62]) rfl ?_);(try (refine gate_guard (by rfl) ?_;dsimp only));at_builtin;refine Kd.R_append Kd.string (w0:=w) w.heap.size rfl (.tmp 53) (.tmp 62) 75 9 (.string ⟨#[]⟩) 16 rfl Tryz.underlying75 info9 rfl (by decide) (by omega) u4 x4_2 (a0.extract ((ji28):Int).toNat ((ζm ((ji28)+(ζm ((ζm ((ζm (bt a0 x5_2)) * 256))+(ζm (bt a0 (ji18))))))):Int).toNat) [.string (a0.extract ((ji28):Int).toNat ((ζm ((ji28)+(ζm ((ζm ((ζm (bt a0 x5_2)) * 256))+(ζm (bt a0 (ji18))))))):Int).toNat)] (fun _=>True) (fun _=>False) rfl rfl ?aP (fun _ hk=>hk.elim) ?aF ?aO ?aB ?aS ?aL ?_;(case aP=>exact rfl);(case aB=>exact (by repeat (first|(with_reducible first|exact HB.out|apply δk|apply δi|apply δj)|exact HB.out)));(case aF=>exact (fun _ _=>trivial));(case aO=>exact (by (with_reducible repeat (first|apply ζd|apply ζc|apply ζe));exact HO_4.out));(case aS=>exact (δs (by repeat (first|(with_reducible first|exact HB.out|apply δk|apply δi|apply δj)|exact HB.out))));(case aL=>have:=LMc32.out;omega);intro v332 w33 ho hb hg hat;rw [← Ny331.out] at ho;have n0_:=ζa (hb);have n1_:=ζa (ho);clear HB;clear HO_4;have HB:=n0_;have HO333:=n1_;clear n0_ n1_;clear ho hb hg hat)))
                   go_roundg k2
                   case measure=>have:=HJ1.out;have:=HK2.out;omega
                   case rel=>exact ⟨(y331),(ζm (x5_2+(ζm (2+(ζm ((ζm ((ζm (bt a0 x5_2)) * 256))+(ζm (bt a0 (ji18))))))))),(ζm (x6_2 - 1)),(by first|rfl|(simp;done)|(simp only [← hji18] <;> (first|rfl|simp))|(simp [*];done)),(by first|rfl|(simp;done)|(simp [*];done)),H',⟨by have:=HJ1.out;have:=HK2.out;omega⟩,⟨by (with_reducible repeat (first|apply ζd|apply ζc|apply ζe));exact HO333.out⟩,⟨by repeat (first|(with_reducible first|exact HB.out|apply δk|apply δi|apply δj)|exact HB.out)⟩⟩
                  ·
                   rw [if_neg c32] at H
                   exact absurd H (by simp)
                 ·
                  rw [if_neg c31] at H
                  exact absurd H (by simp)
                ·
                 rw [if_neg c30] at H
                 exact absurd H (by simp)
               ·
                rw [if_neg c29] at H
                exact absurd H (by simp)
            ·
             rw [if_neg c20] at H
             exact absurd H (by simp)
           ·
            rw [if_neg c19] at H
            exact absurd H (by simp)
          ·
           rw [if_neg c16] at H
           exact absurd H (by simp)
         ·
          rw [if_neg c15] at H
          exact absurd H (by simp)
       ·
        rw [if_neg c11] at H
        have c11b0:decide (0<x6_2)=φ:=decide_eq_false c11
        clear c11
        by_cases c34:x5_2=(a0.size:Int)
        ·
         rw [if_pos c34] at H
         have c34b0:(x5_2 == (a0.size:Int))=τ:=beq_iff_eq.mpr c34
         have c34b1:(x5_2 != (a0.size:Int))=φ:=bne_eq_false_iff_eq.mpr c34
         clear c34
         simp only [Option.some.injEq,Prod.mk.injEq] at H
         obtain ⟨rfl,rfl⟩:=H
         go_wp2
         repeat (go_quiet (fail);try go_wp2)
         go_ret2
         exact ⟨_,by first|rfl|(simp [errW_none,errW_some] <;> rfl)|(simp [*,errW_none,errW_some] <;> rfl),by (with_reducible repeat (first|apply ζd|apply ζc|apply ζe));exact HO_4.out,by repeat (first|(with_reducible first|exact HB.out|apply δk|apply δi|apply δj)|exact HB.out)⟩
        ·
         rw [if_neg c34] at H
         have c34b0:(x5_2 == (a0.size:Int))=φ:=beq_eq_false_iff_ne.mpr c34
         have c34b1:(x5_2 != (a0.size:Int))=τ:=bne_iff_ne.mpr c34
         obtain ⟨y319,hy319⟩ : ∃ y_:List ByteArray,y_=(([]:List ByteArray)):=⟨_,rfl⟩
         replace H:(some (y319,φ))=some (r1,r2):=by first|(rw [hy319];with_reducible exact H)|(have H2_:=(Option.bind_some _ _).symm.trans H;rw [hy319];with_reducible exact H2_)|(have H2_:=(Option.bind_some _ _).symm.trans H;with_reducible exact H2_)|with_reducible exact H|(rw [hy319];exact H)|exact H
         have Ny319:=ζa hy319
         clear hy319
         simp only [Option.some.injEq,Prod.mk.injEq] at H
         obtain ⟨rfl,rfl⟩:=H
         go_wp2_with (first|((with_reducible refine δx (N:=72) rfl ?_);(try (refine gate_guard (by rfl) ?_;dsimp only));refine Kd.R_lit Kd.string _ 9 ?hg (N:=72) ?hd (xs:=([]:List ByteArray)) (inner:=[]) (ok:=fun _=>True) (okp:=fun _=>True) ?hr ?hp (fun _ hk=>hk) trivial (Below.refl _ _) (Nat.le_refl _) (by simp) ?_;(case hd=>rfl);(case hg=>rfl);(case hr=>first|(go_simp;done)|(go_simp;rfl));(case hp=>exact (Reps.none _ _));intro v320 w35 ho36 hb hg_ hnew_;clear hg_ hnew_;(first|rw [← Ny319.out] at ho36|(simp only [Int.reduceToNat] at ho36;rw [← Ny319.out] at ho36));have n0_:=ζa (Kd.R_elder' (by (with_reducible repeat (first|apply ζd|apply ζc|apply ζe));exact HO_4.out) (Kd.R_base ho36) hb);have n1_:=ζa (Kd.R_lower (Kd.R_new' ho36 (Kd.R_lt (by (with_reducible repeat (first|apply ζd|apply ζc|apply ζe));exact HO_4.out))) (δs (by repeat (first|(with_reducible first|exact HB.out|apply δk|apply δi|apply δj)|exact HB.out))));have n2_:=ζa (δr (by repeat (first|(with_reducible first|exact HB.out|apply δk|apply δi|apply δj)|exact HB.out)) hb);clear HO_4;clear HB;have HO_4:=n0_;have HO321:=n1_;have HB:=n2_;clear n0_ n1_ n2_;clear hb ho36))
         repeat (go_quiet (first|((with_reducible refine δx (N:=72) rfl ?_);(try (refine gate_guard (by rfl) ?_;dsimp only));refine Kd.R_lit Kd.string _ 9 ?hg (N:=72) ?hd (xs:=([]:List ByteArray)) (inner:=[]) (ok:=fun _=>True) (okp:=fun _=>True) ?hr ?hp (fun _ hk=>hk) trivial (Below.refl _ _) (Nat.le_refl _) (by simp) ?_;(case hd=>rfl);(case hg=>rfl);(case hr=>first|(go_simp;done)|(go_simp;rfl));(case hp=>exact (Reps.none _ _));intro v320 w35 ho36 hb hg_ hnew_;clear hg_ hnew_;(first|rw [← Ny319.out] at ho36|(simp only [Int.reduceToNat] at ho36;rw [← Ny319.out] at ho36));have n0_:=ζa (Kd.R_elder' (by (with_reducible repeat (first|apply ζd|apply ζc|apply ζe));exact HO_4.out) (Kd.R_base ho36) hb);have n1_:=ζa (Kd.R_lower (Kd.R_new' ho36 (Kd.R_lt (by (with_reducible repeat (first|apply ζd|apply ζc|apply ζe));exact HO_4.out))) (δs (by repeat (first|(with_reducible first|exact HB.out|apply δk|apply δi|apply δj)|exact HB.out))));have n2_:=ζa (δr (by repeat (first|(with_reducible first|exact HB.out|apply δk|apply δi|apply δj)|exact HB.out)) hb);clear HO_4;clear HB;have HO_4:=n0_;have HO321:=n1_;have HB:=n2_;clear n0_ n1_ n2_;clear hb ho36));try go_wp2_with (first|((with_reducible refine δx (N:=72) rfl ?_);(try (refine gate_guard (by rfl) ?_;dsimp only));refine Kd.R_lit Kd.string _ 9 ?hg (N:=72) ?hd (xs:=([]:List ByteArray)) (inner:=[]) (ok:=fun _=>True) (okp:=fun _=>True) ?hr ?hp (fun _ hk=>hk) trivial (Below.refl _ _) (Nat.le_refl _) (by simp) ?_;(case hd=>rfl);(case hg=>rfl);(case hr=>first|(go_simp;done)|(go_simp;rfl));(case hp=>exact (Reps.none _ _));intro v320 w35 ho36 hb hg_ hnew_;clear hg_ hnew_;(first|rw [← Ny319.out] at ho36|(simp only [Int.reduceToNat] at ho36;rw [← Ny319.out] at ho36));have n0_:=ζa (Kd.R_elder' (by (with_reducible repeat (first|apply ζd|apply ζc|apply ζe));exact HO_4.out) (Kd.R_base ho36) hb);have n1_:=ζa (Kd.R_lower (Kd.R_new' ho36 (Kd.R_lt (by (with_reducible repeat (first|apply ζd|apply ζc|apply ζe));exact HO_4.out))) (δs (by repeat (first|(with_reducible first|exact HB.out|apply δk|apply δi|apply δj)|exact HB.out))));have n2_:=ζa (δr (by repeat (first|(with_reducible first|exact HB.out|apply δk|apply δi|apply δj)|exact HB.out)) hb);clear HO_4;clear HB;have HO_4:=n0_;have HO321:=n1_;have HB:=n2_;clear n0_ n1_ n2_;clear hb ho36)))
         go_ret2
         exact ⟨_,by first|rfl|(simp [errW_none,errW_some] <;> rfl)|(simp [*,errW_none,errW_some] <;> rfl),by (with_reducible repeat (first|apply ζd|apply ζc|apply ζe));exact Kd.R_mono HO321.out (fun _ hk=>trivial),by repeat (first|(with_reducible first|exact HB.out|apply δk|apply δi|apply δj)|exact HB.out)⟩
    ·
     rw [if_neg c9] at H
     exact absurd H (by simp)



/-! ### spec_l08Denom: function 88 -/
def spec_l08Denom.f (a0:ByteArray):Option (Bool):=if a0.toList=([120]:List UInt8) then (some τ) else (if a0.toList=([121]:List UInt8) then (some τ) else (if a0.toList=([118,120]:List UInt8) then (some τ) else (some (a0.toList == ([118,121]:List UInt8)))))
set_option maxHeartbeats 8000000 in
set_option maxRecDepth 100000 in
theorem spec_l08Denom.calls (a0:ByteArray) (r:Bool) (w:World) (h:spec_l08Denom.f a0=some r) :
  Calls Tryz.prog 88 #[.string a0] w fun e w'=>e = .returned (.bool r)∧Drawn0 w w':=by
 have H:(if a0.toList=([120]:List UInt8) then (some τ) else (if a0.toList=([121]:List UInt8) then (some τ) else (if a0.toList=([118,120]:List UInt8) then (some τ) else (some (a0.toList == ([118,121]:List UInt8))))))=some r:=h
 clear h
 by_cases c2:a0.toList=([120]:List UInt8)
 ·
  rw [if_pos c2] at H
  have c2b0:(a0.toList == ([120]:List UInt8))=τ:=beq_iff_eq.mpr c2
  have c2b1:(a0.toList != ([120]:List UInt8))=φ:=bne_eq_false_iff_eq.mpr c2
  clear c2
  obtain rfl:=Option.some.inj H
  go_enter Tryz.func88,Tryz.ntmps88
  go_wp2
  go_ret
  exact ⟨by first|rfl|(simp;done)|(simp [*];done),by repeat (first|exact Drawn0.refl _|apply Drawn0.step)⟩
 ·
  rw [if_neg c2] at H
  have c2b0:(a0.toList == ([120]:List UInt8))=φ:=beq_eq_false_iff_ne.mpr c2
  have c2b1:(a0.toList != ([120]:List UInt8))=τ:=bne_iff_ne.mpr c2
  by_cases c3:a0.toList=([121]:List UInt8)
  ·
   rw [if_pos c3] at H
   have c3b0:(a0.toList == ([121]:List UInt8))=τ:=beq_iff_eq.mpr c3
   have c3b1:(a0.toList != ([121]:List UInt8))=φ:=bne_eq_false_iff_eq.mpr c3
   clear c3
   obtain rfl:=Option.some.inj H
   go_enter Tryz.func88,Tryz.ntmps88
   go_wp2
   go_ret
   exact ⟨by first|rfl|(simp;done)|(simp [*];done),by repeat (first|exact Drawn0.refl _|apply Drawn0.step)⟩
  ·
   rw [if_neg c3] at H
   have c3b0:(a0.toList == ([121]:List UInt8))=φ:=beq_eq_false_iff_ne.mpr c3
   have c3b1:(a0.toList != ([121]:List UInt8))=τ:=bne_iff_ne.mpr c3
   by_cases c4:a0.toList=([118,120]:List UInt8)
   ·
    rw [if_pos c4] at H
    have c4b0:(a0.toList == ([118,120]:List UInt8))=τ:=beq_iff_eq.mpr c4
    have c4b1:(a0.toList != ([118,120]:List UInt8))=φ:=bne_eq_false_iff_eq.mpr c4
    clear c4
    obtain rfl:=Option.some.inj H
    go_enter Tryz.func88,Tryz.ntmps88
    go_wp2
    go_ret
    exact ⟨by first|rfl|(simp;done)|(simp [*];done),by repeat (first|exact Drawn0.refl _|apply Drawn0.step)⟩
   ·
    rw [if_neg c4] at H
    have c4b0:(a0.toList == ([118,120]:List UInt8))=φ:=beq_eq_false_iff_ne.mpr c4
    have c4b1:(a0.toList != ([118,120]:List UInt8))=τ:=bne_iff_ne.mpr c4
    obtain rfl:=Option.some.inj H
    go_enter Tryz.func88,Tryz.ntmps88
    go_wp2
    go_ret
    exact ⟨by first|rfl|(simp;done)|(simp [*];done),by repeat (first|exact Drawn0.refl _|apply Drawn0.step)⟩


open Go.Proofs.YtabmfhnhmoiljaaGreatDoorW.PrintWords renaming below_size → δs, below_alloc → δk, pw_below_drewN → δi, below_drew1 → δj, below_step → δr
open Go.Proofs.YtabmfhnhmoiljaaGreatDoorW.PrintWords.Kd renaming R_reads' → ζg

/-! ### spec_l08Read: function 97 -/
def spec_l08Read.f (k:Nat) (a0:ByteArray):Option (ByteArray × Int × ByteArray × ByteArray × Bool):=(spec_l02Read.f k a0).bind fun bt491=>(if bt491.2=τ then (if (bt491.1.length:Int)=5 then (if 0<(bt491.1.length:Int) then (if (rdOf ByteArray.empty bt491.1 0).toList=([116]:List UInt8) then (if 1<(bt491.1.length:Int) then ((spec_l08Denom.f (rdOf ByteArray.empty bt491.1 1)).bind fun t497=>(if t497=τ then (if 3<(bt491.1.length:Int) then ((spec_l08Name.f k (rdOf ByteArray.empty bt491.1 3)).bind fun t499=>(if t499=τ then (if 4<(bt491.1.length:Int) then ((spec_l08Name.f k (rdOf ByteArray.empty bt491.1 4)).bind fun t501=>(if t501=τ then (if 2<(bt491.1.length:Int) then ((spec_l02Of.f k (rdOf ByteArray.empty bt491.1 2)).bind fun t503=>(some (rdOf ByteArray.empty bt491.1 1,t503,rdOf ByteArray.empty bt491.1 3,rdOf ByteArray.empty bt491.1 4,decide (t503 > 0)))) else (none)) else (some ((⟨#[]⟩:ByteArray),0,(⟨#[]⟩:ByteArray),(⟨#[]⟩:ByteArray),φ)))) else (none)) else (some ((⟨#[]⟩:ByteArray),0,(⟨#[]⟩:ByteArray),(⟨#[]⟩:ByteArray),φ)))) else (none)) else (some ((⟨#[]⟩:ByteArray),0,(⟨#[]⟩:ByteArray),(⟨#[]⟩:ByteArray),φ)))) else (none)) else (some ((⟨#[]⟩:ByteArray),0,(⟨#[]⟩:ByteArray),(⟨#[]⟩:ByteArray),φ))) else (none)) else (some ((⟨#[]⟩:ByteArray),0,(⟨#[]⟩:ByteArray),(⟨#[]⟩:ByteArray),φ))) else (some ((⟨#[]⟩:ByteArray),0,(⟨#[]⟩:ByteArray),(⟨#[]⟩:ByteArray),φ)))
set_option maxHeartbeats 8000000 in
set_option maxRecDepth 100000 in
theorem spec_l08Read.calls (k:Nat) (a0:ByteArray) (r1:ByteArray) (r2:Int) (r3:ByteArray) (r4:ByteArray) (r5:Bool) (w:World) (h:spec_l08Read.f k a0=some (r1,r2,r3,r4,r5)) :
  Calls Tryz.prog 97 #[.string a0] w fun e w'=>e = .returned (.tuple #[.string r1,.int .i64 r2,.string r3,.string r4,.bool r5])∧Below w.heap.size w w':=by
 have HB:=ζa (Below.refl w.heap.size w)
 have H:((spec_l02Read.f k a0).bind fun bt491=>(if bt491.2=τ then (if (bt491.1.length:Int)=5 then (if 0<(bt491.1.length:Int) then (if (rdOf ByteArray.empty bt491.1 0).toList=([116]:List UInt8) then (if 1<(bt491.1.length:Int) then ((spec_l08Denom.f (rdOf ByteArray.empty bt491.1 1)).bind fun t497=>(if t497=τ then (if 3<(bt491.1.length:Int) then ((spec_l08Name.f k (rdOf ByteArray.empty bt491.1 3)).bind fun t499=>(if t499=τ then (if 4<(bt491.1.length:Int) then ((spec_l08Name.f k (rdOf ByteArray.empty bt491.1 4)).bind fun t501=>(if t501=τ then (if 2<(bt491.1.length:Int) then ((spec_l02Of.f k (rdOf ByteArray.empty bt491.1 2)).bind fun t503=>(some (rdOf ByteArray.empty bt491.1 1,t503,rdOf ByteArray.empty bt491.1 3,rdOf ByteArray.empty bt491.1 4,decide (t503 > 0)))) else (none)) else (some ((⟨#[]⟩:ByteArray),0,(⟨#[]⟩:ByteArray),(⟨#[]⟩:ByteArray),φ)))) else (none)) else (some ((⟨#[]⟩:ByteArray),0,(⟨#[]⟩:ByteArray),(⟨#[]⟩:ByteArray),φ)))) else (none)) else (some ((⟨#[]⟩:ByteArray),0,(⟨#[]⟩:ByteArray),(⟨#[]⟩:ByteArray),φ)))) else (none)) else (some ((⟨#[]⟩:ByteArray),0,(⟨#[]⟩:ByteArray),(⟨#[]⟩:ByteArray),φ))) else (none)) else (some ((⟨#[]⟩:ByteArray),0,(⟨#[]⟩:ByteArray),(⟨#[]⟩:ByteArray),φ))) else (some ((⟨#[]⟩:ByteArray),0,(⟨#[]⟩:ByteArray),(⟨#[]⟩:ByteArray),φ))))=some (r1,r2,r3,r4,r5):=h
 clear h
 replace H:=Option.bind_eq_some_iff.mp H
 obtain ⟨⟨t491,t492⟩,A20,H⟩:=H
 replace H:(if t492=τ then (if (t491.length:Int)=5 then (if 0<(t491.length:Int) then (if (rdOf ByteArray.empty t491 0).toList=([116]:List UInt8) then (if 1<(t491.length:Int) then ((spec_l08Denom.f (rdOf ByteArray.empty t491 1)).bind fun t497=>(if t497=τ then (if 3<(t491.length:Int) then ((spec_l08Name.f k (rdOf ByteArray.empty t491 3)).bind fun t499=>(if t499=τ then (if 4<(t491.length:Int) then ((spec_l08Name.f k (rdOf ByteArray.empty t491 4)).bind fun t501=>(if t501=τ then (if 2<(t491.length:Int) then ((spec_l02Of.f k (rdOf ByteArray.empty t491 2)).bind fun t503=>(some (rdOf ByteArray.empty t491 1,t503,rdOf ByteArray.empty t491 3,rdOf ByteArray.empty t491 4,decide (t503 > 0)))) else (none)) else (some ((⟨#[]⟩:ByteArray),0,(⟨#[]⟩:ByteArray),(⟨#[]⟩:ByteArray),φ)))) else (none)) else (some ((⟨#[]⟩:ByteArray),0,(⟨#[]⟩:ByteArray),(⟨#[]⟩:ByteArray),φ)))) else (none)) else (some ((⟨#[]⟩:ByteArray),0,(⟨#[]⟩:ByteArray),(⟨#[]⟩:ByteArray),φ)))) else (none)) else (some ((⟨#[]⟩:ByteArray),0,(⟨#[]⟩:ByteArray),(⟨#[]⟩:ByteArray),φ))) else (none)) else (some ((⟨#[]⟩:ByteArray),0,(⟨#[]⟩:ByteArray),(⟨#[]⟩:ByteArray),φ))) else (some ((⟨#[]⟩:ByteArray),0,(⟨#[]⟩:ByteArray),(⟨#[]⟩:ByteArray),φ)))=some (r1,r2,r3,r4,r5):=H
 have A2:=ζa A20
 clear A20
 by_cases c3:t492=τ
 ·
  subst c3
  have H1:(if (t491.length:Int)=5 then (if 0<(t491.length:Int) then (if (rdOf ByteArray.empty t491 0).toList=([116]:List UInt8) then (if 1<(t491.length:Int) then ((spec_l08Denom.f (rdOf ByteArray.empty t491 1)).bind fun t497=>(if t497=τ then (if 3<(t491.length:Int) then ((spec_l08Name.f k (rdOf ByteArray.empty t491 3)).bind fun t499=>(if t499=τ then (if 4<(t491.length:Int) then ((spec_l08Name.f k (rdOf ByteArray.empty t491 4)).bind fun t501=>(if t501=τ then (if 2<(t491.length:Int) then ((spec_l02Of.f k (rdOf ByteArray.empty t491 2)).bind fun t503=>(some (rdOf ByteArray.empty t491 1,t503,rdOf ByteArray.empty t491 3,rdOf ByteArray.empty t491 4,decide (t503 > 0)))) else (none)) else (some ((⟨#[]⟩:ByteArray),0,(⟨#[]⟩:ByteArray),(⟨#[]⟩:ByteArray),φ)))) else (none)) else (some ((⟨#[]⟩:ByteArray),0,(⟨#[]⟩:ByteArray),(⟨#[]⟩:ByteArray),φ)))) else (none)) else (some ((⟨#[]⟩:ByteArray),0,(⟨#[]⟩:ByteArray),(⟨#[]⟩:ByteArray),φ)))) else (none)) else (some ((⟨#[]⟩:ByteArray),0,(⟨#[]⟩:ByteArray),(⟨#[]⟩:ByteArray),φ))) else (none)) else (some ((⟨#[]⟩:ByteArray),0,(⟨#[]⟩:ByteArray),(⟨#[]⟩:ByteArray),φ)))=some (r1,r2,r3,r4,r5):=by rw [if_pos rfl] at H;exact H
  clear H
  have H:=H1
  clear H1
  by_cases c4:(t491.length:Int)=5
  ·
   rw [if_pos c4] at H
   have c4b0:((t491.length:Int) == 5)=τ:=beq_iff_eq.mpr c4
   have c4b1:((t491.length:Int) != 5)=φ:=bne_eq_false_iff_eq.mpr c4
   clear c4
   by_cases c5:0<(t491.length:Int)
   ·
    rw [if_pos c5] at H
    have c5b0:decide (0<(t491.length:Int))=τ:=decide_eq_true c5
    have c5b1:decide (0<t491.length)=τ:=decide_eq_true (by omega)
    clear c5
    by_cases c6:(rdOf ByteArray.empty t491 0).toList=([116]:List UInt8)
    ·
     rw [if_pos c6] at H
     have c6b0:((rdOf ByteArray.empty t491 0).toList == ([116]:List UInt8))=τ:=beq_iff_eq.mpr c6
     have c6b1:((rdOf ByteArray.empty t491 0).toList != ([116]:List UInt8))=φ:=bne_eq_false_iff_eq.mpr c6
     clear c6
     by_cases c7:1<(t491.length:Int)
     ·
      rw [if_pos c7] at H
      have c7b0:decide (1<(t491.length:Int))=τ:=decide_eq_true c7
      have c7b1:decide (1<t491.length)=τ:=decide_eq_true (by omega)
      clear c7
      replace H:=Option.bind_eq_some_iff.mp H
      obtain ⟨t497,A80,H⟩:=H
      replace H:(if t497=τ then (if 3<(t491.length:Int) then ((spec_l08Name.f k (rdOf ByteArray.empty t491 3)).bind fun t499=>(if t499=τ then (if 4<(t491.length:Int) then ((spec_l08Name.f k (rdOf ByteArray.empty t491 4)).bind fun t501=>(if t501=τ then (if 2<(t491.length:Int) then ((spec_l02Of.f k (rdOf ByteArray.empty t491 2)).bind fun t503=>(some (rdOf ByteArray.empty t491 1,t503,rdOf ByteArray.empty t491 3,rdOf ByteArray.empty t491 4,decide (t503 > 0)))) else (none)) else (some ((⟨#[]⟩:ByteArray),0,(⟨#[]⟩:ByteArray),(⟨#[]⟩:ByteArray),φ)))) else (none)) else (some ((⟨#[]⟩:ByteArray),0,(⟨#[]⟩:ByteArray),(⟨#[]⟩:ByteArray),φ)))) else (none)) else (some ((⟨#[]⟩:ByteArray),0,(⟨#[]⟩:ByteArray),(⟨#[]⟩:ByteArray),φ)))=some (r1,r2,r3,r4,r5):=H
      have A8:=ζa A80
      clear A80
      by_cases c9:t497=τ
      ·
       subst c9
       have H1:(if 3<(t491.length:Int) then ((spec_l08Name.f k (rdOf ByteArray.empty t491 3)).bind fun t499=>(if t499=τ then (if 4<(t491.length:Int) then ((spec_l08Name.f k (rdOf ByteArray.empty t491 4)).bind fun t501=>(if t501=τ then (if 2<(t491.length:Int) then ((spec_l02Of.f k (rdOf ByteArray.empty t491 2)).bind fun t503=>(some (rdOf ByteArray.empty t491 1,t503,rdOf ByteArray.empty t491 3,rdOf ByteArray.empty t491 4,decide (t503 > 0)))) else (none)) else (some ((⟨#[]⟩:ByteArray),0,(⟨#[]⟩:ByteArray),(⟨#[]⟩:ByteArray),φ)))) else (none)) else (some ((⟨#[]⟩:ByteArray),0,(⟨#[]⟩:ByteArray),(⟨#[]⟩:ByteArray),φ)))) else (none))=some (r1,r2,r3,r4,r5):=by rw [if_pos rfl] at H;exact H
       clear H
       have H:=H1
       clear H1
       by_cases c10:3<(t491.length:Int)
       ·
        rw [if_pos c10] at H
        have c10b0:decide (3<(t491.length:Int))=τ:=decide_eq_true c10
        have c10b1:decide (3<t491.length)=τ:=decide_eq_true (by omega)
        clear c10
        replace H:=Option.bind_eq_some_iff.mp H
        obtain ⟨t499,A110,H⟩:=H
        replace H:(if t499=τ then (if 4<(t491.length:Int) then ((spec_l08Name.f k (rdOf ByteArray.empty t491 4)).bind fun t501=>(if t501=τ then (if 2<(t491.length:Int) then ((spec_l02Of.f k (rdOf ByteArray.empty t491 2)).bind fun t503=>(some (rdOf ByteArray.empty t491 1,t503,rdOf ByteArray.empty t491 3,rdOf ByteArray.empty t491 4,decide (t503 > 0)))) else (none)) else (some ((⟨#[]⟩:ByteArray),0,(⟨#[]⟩:ByteArray),(⟨#[]⟩:ByteArray),φ)))) else (none)) else (some ((⟨#[]⟩:ByteArray),0,(⟨#[]⟩:ByteArray),(⟨#[]⟩:ByteArray),φ)))=some (r1,r2,r3,r4,r5):=H
        have A11:=ζa A110
        clear A110
        by_cases c12:t499=τ
        ·
         subst c12
         have H1:(if 4<(t491.length:Int) then ((spec_l08Name.f k (rdOf ByteArray.empty t491 4)).bind fun t501=>(if t501=τ then (if 2<(t491.length:Int) then ((spec_l02Of.f k (rdOf ByteArray.empty t491 2)).bind fun t503=>(some (rdOf ByteArray.empty t491 1,t503,rdOf ByteArray.empty t491 3,rdOf ByteArray.empty t491 4,decide (t503 > 0)))) else (none)) else (some ((⟨#[]⟩:ByteArray),0,(⟨#[]⟩:ByteArray),(⟨#[]⟩:ByteArray),φ)))) else (none))=some (r1,r2,r3,r4,r5):=by rw [if_pos rfl] at H;exact H
         clear H
         have H:=H1
         clear H1
         by_cases c13:4<(t491.length:Int)
         ·
          rw [if_pos c13] at H
          have c13b0:decide (4<(t491.length:Int))=τ:=decide_eq_true c13
          have c13b1:decide (4<t491.length)=τ:=decide_eq_true (by omega)
          clear c13
          replace H:=Option.bind_eq_some_iff.mp H
          obtain ⟨t501,A140,H⟩:=H
          replace H:(if t501=τ then (if 2<(t491.length:Int) then ((spec_l02Of.f k (rdOf ByteArray.empty t491 2)).bind fun t503=>(some (rdOf ByteArray.empty t491 1,t503,rdOf ByteArray.empty t491 3,rdOf ByteArray.empty t491 4,decide (t503 > 0)))) else (none)) else (some ((⟨#[]⟩:ByteArray),0,(⟨#[]⟩:ByteArray),(⟨#[]⟩:ByteArray),φ)))=some (r1,r2,r3,r4,r5):=H
          have A14:=ζa A140
          clear A140
          by_cases c15:t501=τ
          ·
           subst c15
           have H1:(if 2<(t491.length:Int) then ((spec_l02Of.f k (rdOf ByteArray.empty t491 2)).bind fun t503=>(some (rdOf ByteArray.empty t491 1,t503,rdOf ByteArray.empty t491 3,rdOf ByteArray.empty t491 4,decide (t503 > 0)))) else (none))=some (r1,r2,r3,r4,r5):=by rw [if_pos rfl] at H;exact H
           clear H
           have H:=H1
           clear H1
           by_cases c16:2<(t491.length:Int)
           ·
            rw [if_pos c16] at H
            have c16b0:decide (2<(t491.length:Int))=τ:=decide_eq_true c16
            have c16b1:decide (2<t491.length)=τ:=decide_eq_true (by omega)
            clear c16
            replace H:=Option.bind_eq_some_iff.mp H
            obtain ⟨t503,A170,H⟩:=H
            replace H:(some (rdOf ByteArray.empty t491 1,t503,rdOf ByteArray.empty t491 3,rdOf ByteArray.empty t491 4,decide (t503 > 0)))=some (r1,r2,r3,r4,r5):=H
            have A17:=ζa A170
            clear A170
            simp only [Option.some.injEq,Prod.mk.injEq] at H
            obtain ⟨rfl,rfl,rfl,rfl,rfl⟩:=H
            go_enter Tryz.func97,Tryz.ntmps97
            go_wp2_with (first|(go_at_call 148;(with_reducible refine (spec_l02Read.calls k a0 t491 τ _ A2.out).mono ?_);rintro e w18 ⟨v493,rfl,ho0,hb⟩;have n0_:=ζa (Kd.R_lower ho0 (δs (by repeat (first|(with_reducible first|exact HB.out|apply δk|apply δi|apply δj)|exact HB.out))));have n1_:=ζa (δr (by repeat (first|(with_reducible first|exact HB.out|apply δk|apply δi|apply δj)|exact HB.out)) hb);clear HB;have HO494:=n0_;have HB:=n1_;clear n0_ n1_;(try clear hb);(try clear hb2);(try clear hk);(try clear hi);(try clear ho0);obtain ⟨Ao19,co19,eo19⟩:=Kd.R_slice HO494.out;subst eo19;have p495:0≤(0:Int):=(by omega);have q495:0<(t491.length:Int):=of_decide_eq_true (by first|(with_reducible assumption)|assumption);obtain ⟨ad495,e495,hx495_0⟩:=Kd.at_string (ζg HO494.out).2.2 0 p495 q495;cases e495;have qi495:(0<t491.length)=True:=eq_true (by omega);(try rw [show ((0:Int)).toNat=0 from rfl] at hx495_0);(try rw [Addr.add_zero'] at hx495_0);replace p495:=eq_true p495;replace q495:=eq_true q495;have p496:0≤(1:Int):=(by omega);have q496:1<(t491.length:Int):=of_decide_eq_true (by first|(with_reducible assumption)|assumption);obtain ⟨ad496,e496,hx496_0⟩:=Kd.at_string (ζg HO494.out).2.2 1 p496 q496;obtain rfl:ad495=ad496:=(by injection e496);(try simp only [show (1:Int).toNat=1 from rfl,Nat.reduceMul,Nat.reduceEqDiff,Go.Addr.add,↓reduceIte] at hx496_0);have qi496:(1<t491.length)=True:=eq_true (by omega);(try rw [show ((1:Int)).toNat=1 from rfl] at hx496_0);replace p496:=eq_true p496;replace q496:=eq_true q496)|(go_at_call 88;(with_reducible refine (spec_l08Denom.calls (rdOf ByteArray.empty t491 1) τ _ A8.out).mono ?_);rintro e w' ⟨rfl,⟨nd,rfl⟩⟩;(try first|exact ⟨rfl,_,World.drewN_drewN _ _ _⟩|exact ⟨rfl,_,Eq.trans (World.drewN_drewN _ _ _) (congrArg (World.drewN _) (Nat.add_assoc _ _ _))⟩);have p498:0≤(3:Int):=(by omega);have q498:3<(t491.length:Int):=of_decide_eq_true (by first|(with_reducible assumption)|assumption);obtain ⟨ad498,e498,hx498_0⟩:=Kd.at_string (ζg HO494.out).2.2 3 p498 q498;obtain rfl:ad495=ad498:=(by injection e498);(try simp only [show (3:Int).toNat=3 from rfl,Nat.reduceMul,Nat.reduceEqDiff,Go.Addr.add,↓reduceIte] at hx498_0);have qi498:(3<t491.length)=True:=eq_true (by omega);(try rw [show ((3:Int)).toNat=3 from rfl] at hx498_0);replace p498:=eq_true p498;replace q498:=eq_true q498)|(go_at_call 76;(with_reducible refine (spec_l08Name.calls k (rdOf ByteArray.empty t491 3) τ _ A11.out).mono ?_);rintro e w' ⟨rfl,⟨nd,rfl⟩⟩;(try first|exact ⟨rfl,_,World.drewN_drewN _ _ _⟩|exact ⟨rfl,_,Eq.trans (World.drewN_drewN _ _ _) (congrArg (World.drewN _) (Nat.add_assoc _ _ _))⟩);have p500:0≤(4:Int):=(by omega);have q500:4<(t491.length:Int):=of_decide_eq_true (by first|(with_reducible assumption)|assumption);obtain ⟨ad500,e500,hx500_0⟩:=Kd.at_string (ζg HO494.out).2.2 4 p500 q500;obtain rfl:ad495=ad500:=(by injection e500);(try simp only [show (4:Int).toNat=4 from rfl,Nat.reduceMul,Nat.reduceEqDiff,Go.Addr.add,↓reduceIte] at hx500_0);have qi500:(4<t491.length)=True:=eq_true (by omega);(try rw [show ((4:Int)).toNat=4 from rfl] at hx500_0);replace p500:=eq_true p500;replace q500:=eq_true q500)|(go_at_call 76;(with_reducible refine (spec_l08Name.calls k (rdOf ByteArray.empty t491 4) τ _ A14.out).mono ?_);rintro e w' ⟨rfl,⟨nd,rfl⟩⟩;(try first|exact ⟨rfl,_,World.drewN_drewN _ _ _⟩|exact ⟨rfl,_,Eq.trans (World.drewN_drewN _ _ _) (congrArg (World.drewN _) (Nat.add_assoc _ _ _))⟩);have p502:0≤(2:Int):=(by omega);have q502:2<(t491.length:Int):=of_decide_eq_true (by first|(with_reducible assumption)|assumption);obtain ⟨ad502,e502,hx502_0⟩:=Kd.at_string (ζg HO494.out).2.2 2 p502 q502;obtain rfl:ad495=ad502:=(by injection e502);(try simp only [show (2:Int).toNat=2 from rfl,Nat.reduceMul,Nat.reduceEqDiff,Go.Addr.add,↓reduceIte] at hx502_0);have qi502:(2<t491.length)=True:=eq_true (by omega);(try rw [show ((2:Int)).toNat=2 from rfl] at hx502_0);replace p502:=eq_true p502;replace q502:=eq_true q502)|(go_at_call 149;(with_reducible refine (spec_l02Of.calls k (rdOf ByteArray.empty t491 2) t503 _ A17.out).mono ?_);rintro e w' ⟨rfl,⟨nd,rfl⟩⟩;(try first|exact ⟨rfl,_,World.drewN_drewN _ _ _⟩|exact ⟨rfl,_,Eq.trans (World.drewN_drewN _ _ _) (congrArg (World.drewN _) (Nat.add_assoc _ _ _))⟩);have p504:0≤(1:Int):=(by omega);have q504:1<(t491.length:Int):=of_decide_eq_true (by first|(with_reducible assumption)|assumption);obtain ⟨ad504,e504,hx504_0⟩:=Kd.at_string (ζg HO494.out).2.2 1 p504 q504;obtain rfl:ad495=ad504:=(by injection e504);(try simp only [show (1:Int).toNat=1 from rfl,Nat.reduceMul,Nat.reduceEqDiff,Go.Addr.add,↓reduceIte] at hx504_0);have qi504:(1<t491.length)=True:=eq_true (by omega);(try rw [show ((1:Int)).toNat=1 from rfl] at hx504_0);replace p504:=eq_true p504;replace q504:=eq_true q504;have p505:0≤(3:Int):=(by omega);have q505:3<(t491.length:Int):=of_decide_eq_true (by first|(with_reducible assumption)|assumption);obtain ⟨ad505,e505,hx505_0⟩:=Kd.at_string (ζg HO494.out).2.2 3 p505 q505;obtain rfl:ad495=ad505:=(by injection e505);(try simp only [show (3:Int).toNat=3 from rfl,Nat.reduceMul,Nat.reduceEqDiff,Go.Addr.add,↓reduceIte] at hx505_0);have qi505:(3<t491.length)=True:=eq_true (by omega);(try rw [show ((3:Int)).toNat=3 from rfl] at hx505_0);replace p505:=eq_true p505;replace q505:=eq_true q505;have p506:0≤(4:Int):=(by omega);have q506:4<(t491.length:Int):=of_decide_eq_true (by first|(with_reducible assumption)|assumption);obtain ⟨ad506,e506,hx506_0⟩:=Kd.at_string (ζg HO494.out).2.2 4 p506 q506;obtain rfl:ad495=ad506:=(by injection e506);(try simp only [show (4:Int).toNat=4 from rfl,Nat.reduceMul,Nat.reduceEqDiff,Go.Addr.add,↓reduceIte] at hx506_0);have qi506:(4<t491.length)=True:=eq_true (by omega);(try rw [show ((4:Int)).toNat=4 from rfl] at hx506_0);replace p506:=eq_true p506;replace q506:=eq_true q506))
            repeat (go_quiet (first|(go_at_call 148;(with_reducible refine (spec_l02Read.calls k a0 t491 τ _ A2.out).mono ?_);rintro e w18 ⟨v493,rfl,ho0,hb⟩;have n0_:=ζa (Kd.R_lower ho0 (δs (by repeat (first|(with_reducible first|exact HB.out|apply δk|apply δi|apply δj)|exact HB.out))));have n1_:=ζa (δr (by repeat (first|(with_reducible first|exact HB.out|apply δk|apply δi|apply δj)|exact HB.out)) hb);clear HB;have HO494:=n0_;have HB:=n1_;clear n0_ n1_;(try clear hb);(try clear hb2);(try clear hk);(try clear hi);(try clear ho0);obtain ⟨Ao19,co19,eo19⟩:=Kd.R_slice HO494.out;subst eo19;have p495:0≤(0:Int):=(by omega);have q495:0<(t491.length:Int):=of_decide_eq_true (by first|(with_reducible assumption)|assumption);obtain ⟨ad495,e495,hx495_0⟩:=Kd.at_string (ζg HO494.out).2.2 0 p495 q495;cases e495;have qi495:(0<t491.length)=True:=eq_true (by omega);(try rw [show ((0:Int)).toNat=0 from rfl] at hx495_0);(try rw [Addr.add_zero'] at hx495_0);replace p495:=eq_true p495;replace q495:=eq_true q495;have p496:0≤(1:Int):=(by omega);have q496:1<(t491.length:Int):=of_decide_eq_true (by first|(with_reducible assumption)|assumption);obtain ⟨ad496,e496,hx496_0⟩:=Kd.at_string (ζg HO494.out).2.2 1 p496 q496;obtain rfl:ad495=ad496:=(by injection e496);(try simp only [show (1:Int).toNat=1 from rfl,Nat.reduceMul,Nat.reduceEqDiff,Go.Addr.add,↓reduceIte] at hx496_0);have qi496:(1<t491.length)=True:=eq_true (by omega);(try rw [show ((1:Int)).toNat=1 from rfl] at hx496_0);replace p496:=eq_true p496;replace q496:=eq_true q496)|(go_at_call 88;(with_reducible refine (spec_l08Denom.calls (rdOf ByteArray.empty t491 1) τ _ A8.out).mono ?_);rintro e w' ⟨rfl,⟨nd,rfl⟩⟩;(try first|exact ⟨rfl,_,World.drewN_drewN _ _ _⟩|exact ⟨rfl,_,Eq.trans (World.drewN_drewN _ _ _) (congrArg (World.drewN _) (Nat.add_assoc _ _ _))⟩);have p498:0≤(3:Int):=(by omega);have q498:3<(t491.length:Int):=of_decide_eq_true (by first|(with_reducible assumption)|assumption);obtain ⟨ad498,e498,hx498_0⟩:=Kd.at_string (ζg HO494.out).2.2 3 p498 q498;obtain rfl:ad495=ad498:=(by injection e498);(try simp only [show (3:Int).toNat=3 from rfl,Nat.reduceMul,Nat.reduceEqDiff,Go.Addr.add,↓reduceIte] at hx498_0);have qi498:(3<t491.length)=True:=eq_true (by omega);(try rw [show ((3:Int)).toNat=3 from rfl] at hx498_0);replace p498:=eq_true p498;replace q498:=eq_true q498)|(go_at_call 76;(with_reducible refine (spec_l08Name.calls k (rdOf ByteArray.empty t491 3) τ _ A11.out).mono ?_);rintro e w' ⟨rfl,⟨nd,rfl⟩⟩;(try first|exact ⟨rfl,_,World.drewN_drewN _ _ _⟩|exact ⟨rfl,_,Eq.trans (World.drewN_drewN _ _ _) (congrArg (World.drewN _) (Nat.add_assoc _ _ _))⟩);have p500:0≤(4:Int):=(by omega);have q500:4<(t491.length:Int):=of_decide_eq_true (by first|(with_reducible assumption)|assumption);obtain ⟨ad500,e500,hx500_0⟩:=Kd.at_string (ζg HO494.out).2.2 4 p500 q500;obtain rfl:ad495=ad500:=(by injection e500);(try simp only [show (4:Int).toNat=4 from rfl,Nat.reduceMul,Nat.reduceEqDiff,Go.Addr.add,↓reduceIte] at hx500_0);have qi500:(4<t491.length)=True:=eq_true (by omega);(try rw [show ((4:Int)).toNat=4 from rfl] at hx500_0);replace p500:=eq_true p500;replace q500:=eq_true q500)|(go_at_call 76;(with_reducible refine (spec_l08Name.calls k (rdOf ByteArray.empty t491 4) τ _ A14.out).mono ?_);rintro e w' ⟨rfl,⟨nd,rfl⟩⟩;(try first|exact ⟨rfl,_,World.drewN_drewN _ _ _⟩|exact ⟨rfl,_,Eq.trans (World.drewN_drewN _ _ _) (congrArg (World.drewN _) (Nat.add_assoc _ _ _))⟩);have p502:0≤(2:Int):=(by omega);have q502:2<(t491.length:Int):=of_decide_eq_true (by first|(with_reducible assumption)|assumption);obtain ⟨ad502,e502,hx502_0⟩:=Kd.at_string (ζg HO494.out).2.2 2 p502 q502;obtain rfl:ad495=ad502:=(by injection e502);(try simp only [show (2:Int).toNat=2 from rfl,Nat.reduceMul,Nat.reduceEqDiff,Go.Addr.add,↓reduceIte] at hx502_0);have qi502:(2<t491.length)=True:=eq_true (by omega);(try rw [show ((2:Int)).toNat=2 from rfl] at hx502_0);replace p502:=eq_true p502;replace q502:=eq_true q502)|(go_at_call 149;(with_reducible refine (spec_l02Of.calls k (rdOf ByteArray.empty t491 2) t503 _ A17.out).mono ?_);rintro e w' ⟨rfl,⟨nd,rfl⟩⟩;(try first|exact ⟨rfl,_,World.drewN_drewN _ _ _⟩|exact ⟨rfl,_,Eq.trans (World.drewN_drewN _ _ _) (congrArg (World.drewN _) (Nat.add_assoc _ _ _))⟩);have p504:0≤(1:Int):=(by omega);have q504:1<(t491.length:Int):=of_decide_eq_true (by first|(with_reducible assumption)|assumption);obtain ⟨ad504,e504,hx504_0⟩:=Kd.at_string (ζg HO494.out).2.2 1 p504 q504;obtain rfl:ad495=ad504:=(by injection e504);(try simp only [show (1:Int).toNat=1 from rfl,Nat.reduceMul,Nat.reduceEqDiff,Go.Addr.add,↓reduceIte] at hx504_0);have qi504:(1<t491.length)=True:=eq_true (by omega);(try rw [show ((1:Int)).toNat=1 from rfl] at hx504_0);replace p504:=eq_true p504;replace q504:=eq_true q504;have p505:0≤(3:Int):=(by omega);have q505:3<(t491.length:Int):=of_decide_eq_true (by first|(with_reducible assumption)|assumption);obtain ⟨ad505,e505,hx505_0⟩:=Kd.at_string (ζg HO494.out).2.2 3 p505 q505;obtain rfl:ad495=ad505:=(by injection e505);(try simp only [show (3:Int).toNat=3 from rfl,Nat.reduceMul,Nat.reduceEqDiff,Go.Addr.add,↓reduceIte] at hx505_0);have qi505:(3<t491.length)=True:=eq_true (by omega);(try rw [show ((3:Int)).toNat=3 from rfl] at hx505_0);replace p505:=eq_true p505;replace q505:=eq_true q505;have p506:0≤(4:Int):=(by omega);have q506:4<(t491.length:Int):=of_decide_eq_true (by first|(with_reducible assumption)|assumption);obtain ⟨ad506,e506,hx506_0⟩:=Kd.at_string (ζg HO494.out).2.2 4 p506 q506;obtain rfl:ad495=ad506:=(by injection e506);(try simp only [show (4:Int).toNat=4 from rfl,Nat.reduceMul,Nat.reduceEqDiff,Go.Addr.add,↓reduceIte] at hx506_0);have qi506:(4<t491.length)=True:=eq_true (by omega);(try rw [show ((4:Int)).toNat=4 from rfl] at hx506_0);replace p506:=eq_true p506;replace q506:=eq_true q506));try go_wp2_with (first|(go_at_call 148;(with_reducible refine (spec_l02Read.calls k a0 t491 τ _ A2.out).mono ?_);rintro e w18 ⟨v493,rfl,ho0,hb⟩;have n0_:=ζa (Kd.R_lower ho0 (δs (by repeat (first|(with_reducible first|exact HB.out|apply δk|apply δi|apply δj)|exact HB.out))));have n1_:=ζa (δr (by repeat (first|(with_reducible first|exact HB.out|apply δk|apply δi|apply δj)|exact HB.out)) hb);clear HB;have HO494:=n0_;have HB:=n1_;clear n0_ n1_;(try clear hb);(try clear hb2);(try clear hk);(try clear hi);(try clear ho0);obtain ⟨Ao19,co19,eo19⟩:=Kd.R_slice HO494.out;subst eo19;have p495:0≤(0:Int):=(by omega);have q495:0<(t491.length:Int):=of_decide_eq_true (by first|(with_reducible assumption)|assumption);obtain ⟨ad495,e495,hx495_0⟩:=Kd.at_string (ζg HO494.out).2.2 0 p495 q495;cases e495;have qi495:(0<t491.length)=True:=eq_true (by omega);(try rw [show ((0:Int)).toNat=0 from rfl] at hx495_0);(try rw [Addr.add_zero'] at hx495_0);replace p495:=eq_true p495;replace q495:=eq_true q495;have p496:0≤(1:Int):=(by omega);have q496:1<(t491.length:Int):=of_decide_eq_true (by first|(with_reducible assumption)|assumption);obtain ⟨ad496,e496,hx496_0⟩:=Kd.at_string (ζg HO494.out).2.2 1 p496 q496;obtain rfl:ad495=ad496:=(by injection e496);(try simp only [show (1:Int).toNat=1 from rfl,Nat.reduceMul,Nat.reduceEqDiff,Go.Addr.add,↓reduceIte] at hx496_0);have qi496:(1<t491.length)=True:=eq_true (by omega);(try rw [show ((1:Int)).toNat=1 from rfl] at hx496_0);replace p496:=eq_true p496;replace q496:=eq_true q496)|(go_at_call 88;(with_reducible refine (spec_l08Denom.calls (rdOf ByteArray.empty t491 1) τ _ A8.out).mono ?_);rintro e w' ⟨rfl,⟨nd,rfl⟩⟩;(try first|exact ⟨rfl,_,World.drewN_drewN _ _ _⟩|exact ⟨rfl,_,Eq.trans (World.drewN_drewN _ _ _) (congrArg (World.drewN _) (Nat.add_assoc _ _ _))⟩);have p498:0≤(3:Int):=(by omega);have q498:3<(t491.length:Int):=of_decide_eq_true (by first|(with_reducible assumption)|assumption);obtain ⟨ad498,e498,hx498_0⟩:=Kd.at_string (ζg HO494.out).2.2 3 p498 q498;obtain rfl:ad495=ad498:=(by injection e498);(try simp only [show (3:Int).toNat=3 from rfl,Nat.reduceMul,Nat.reduceEqDiff,Go.Addr.add,↓reduceIte] at hx498_0);have qi498:(3<t491.length)=True:=eq_true (by omega);(try rw [show ((3:Int)).toNat=3 from rfl] at hx498_0);replace p498:=eq_true p498;replace q498:=eq_true q498)|(go_at_call 76;(with_reducible refine (spec_l08Name.calls k (rdOf ByteArray.empty t491 3) τ _ A11.out).mono ?_);rintro e w' ⟨rfl,⟨nd,rfl⟩⟩;(try first|exact ⟨rfl,_,World.drewN_drewN _ _ _⟩|exact ⟨rfl,_,Eq.trans (World.drewN_drewN _ _ _) (congrArg (World.drewN _) (Nat.add_assoc _ _ _))⟩);have p500:0≤(4:Int):=(by omega);have q500:4<(t491.length:Int):=of_decide_eq_true (by first|(with_reducible assumption)|assumption);obtain ⟨ad500,e500,hx500_0⟩:=Kd.at_string (ζg HO494.out).2.2 4 p500 q500;obtain rfl:ad495=ad500:=(by injection e500);(try simp only [show (4:Int).toNat=4 from rfl,Nat.reduceMul,Nat.reduceEqDiff,Go.Addr.add,↓reduceIte] at hx500_0);have qi500:(4<t491.length)=True:=eq_true (by omega);(try rw [show ((4:Int)).toNat=4 from rfl] at hx500_0);replace p500:=eq_true p500;replace q500:=eq_true q500)|(go_at_call 76;(with_reducible refine (spec_l08Name.calls k (rdOf ByteArray.empty t491 4) τ _ A14.out).mono ?_);rintro e w' ⟨rfl,⟨nd,rfl⟩⟩;(try first|exact ⟨rfl,_,World.drewN_drewN _ _ _⟩|exact ⟨rfl,_,Eq.trans (World.drewN_drewN _ _ _) (congrArg (World.drewN _) (Nat.add_assoc _ _ _))⟩);have p502:0≤(2:Int):=(by omega);have q502:2<(t491.length:Int):=of_decide_eq_true (by first|(with_reducible assumption)|assumption);obtain ⟨ad502,e502,hx502_0⟩:=Kd.at_string (ζg HO494.out).2.2 2 p502 q502;obtain rfl:ad495=ad502:=(by injection e502);(try simp only [show (2:Int).toNat=2 from rfl,Nat.reduceMul,Nat.reduceEqDiff,Go.Addr.add,↓reduceIte] at hx502_0);have qi502:(2<t491.length)=True:=eq_true (by omega);(try rw [show ((2:Int)).toNat=2 from rfl] at hx502_0);replace p502:=eq_true p502;replace q502:=eq_true q502)|(go_at_call 149;(with_reducible refine (spec_l02Of.calls k (rdOf ByteArray.empty t491 2) t503 _ A17.out).mono ?_);rintro e w' ⟨rfl,⟨nd,rfl⟩⟩;(try first|exact ⟨rfl,_,World.drewN_drewN _ _ _⟩|exact ⟨rfl,_,Eq.trans (World.drewN_drewN _ _ _) (congrArg (World.drewN _) (Nat.add_assoc _ _ _))⟩);have p504:0≤(1:Int):=(by omega);have q504:1<(t491.length:Int):=of_decide_eq_true (by first|(with_reducible assumption)|assumption);obtain ⟨ad504,e504,hx504_0⟩:=Kd.at_string (ζg HO494.out).2.2 1 p504 q504;obtain rfl:ad495=ad504:=(by injection e504);(try simp only [show (1:Int).toNat=1 from rfl,Nat.reduceMul,Nat.reduceEqDiff,Go.Addr.add,↓reduceIte] at hx504_0);have qi504:(1<t491.length)=True:=eq_true (by omega);(try rw [show ((1:Int)).toNat=1 from rfl] at hx504_0);replace p504:=eq_true p504;replace q504:=eq_true q504;have p505:0≤(3:Int):=(by omega);have q505:3<(t491.length:Int):=of_decide_eq_true (by first|(with_reducible assumption)|assumption);obtain ⟨ad505,e505,hx505_0⟩:=Kd.at_string (ζg HO494.out).2.2 3 p505 q505;obtain rfl:ad495=ad505:=(by injection e505);(try simp only [show (3:Int).toNat=3 from rfl,Nat.reduceMul,Nat.reduceEqDiff,Go.Addr.add,↓reduceIte] at hx505_0);have qi505:(3<t491.length)=True:=eq_true (by omega);(try rw [show ((3:Int)).toNat=3 from rfl] at hx505_0);replace p505:=eq_true p505;replace q505:=eq_true q505;have p506:0≤(4:Int):=(by omega);have q506:4<(t491.length:Int):=of_decide_eq_true (by first|(with_reducible assumption)|assumption);obtain ⟨ad506,e506,hx506_0⟩:=Kd.at_string (ζg HO494.out).2.2 4 p506 q506;obtain rfl:ad495=ad506:=(by injection e506);(try simp only [show (4:Int).toNat=4 from rfl,Nat.reduceMul,Nat.reduceEqDiff,Go.Addr.add,↓reduceIte] at hx506_0);have qi506:(4<t491.length)=True:=eq_true (by omega);(try rw [show ((4:Int)).toNat=4 from rfl] at hx506_0);replace p506:=eq_true p506;replace q506:=eq_true q506)))
            refine bodyPost_ret (results_list (rs:=[.tmp 2,.tmp 3,.tmp 4,.tmp 5,.tmp 6]) rfl (by simp) (.tmp (.tmp (.tmp (.tmp (.tmp .nil)))))) rfl ?_
            exact ⟨by first|rfl|(simp [errW_none,errW_some] <;> rfl)|(simp [*,errW_none,errW_some] <;> rfl),by repeat (first|(with_reducible first|exact HB.out|apply δk|apply δi|apply δj)|exact HB.out)⟩
           ·
            rw [if_neg c16] at H
            exact absurd H (by simp)
          ·
           replace c15:=Bool.eq_false_iff.mpr c15
           subst c15
           have H1:(some ((⟨#[]⟩:ByteArray),0,(⟨#[]⟩:ByteArray),(⟨#[]⟩:ByteArray),φ))=some (r1,r2,r3,r4,r5):=by rw [if_neg (show ¬ (φ=τ) by decide)] at H;exact H
           clear H
           have H:=H1
           clear H1
           simp only [Option.some.injEq,Prod.mk.injEq] at H
           obtain ⟨rfl,rfl,rfl,rfl,rfl⟩:=H
           go_enter Tryz.func97,Tryz.ntmps97
           go_wp2_with (first|(go_at_call 148;(with_reducible refine (spec_l02Read.calls k a0 t491 τ _ A2.out).mono ?_);rintro e w20 ⟨v493,rfl,ho0,hb⟩;have n0_:=ζa (Kd.R_lower ho0 (δs (by repeat (first|(with_reducible first|exact HB.out|apply δk|apply δi|apply δj)|exact HB.out))));have n1_:=ζa (δr (by repeat (first|(with_reducible first|exact HB.out|apply δk|apply δi|apply δj)|exact HB.out)) hb);clear HB;have HO494:=n0_;have HB:=n1_;clear n0_ n1_;(try clear hb);(try clear hb2);(try clear hk);(try clear hi);(try clear ho0);obtain ⟨Ao21,co21,eo21⟩:=Kd.R_slice HO494.out;subst eo21;have p495:0≤(0:Int):=(by omega);have q495:0<(t491.length:Int):=of_decide_eq_true (by first|(with_reducible assumption)|assumption);obtain ⟨ad495,e495,hx495_0⟩:=Kd.at_string (ζg HO494.out).2.2 0 p495 q495;cases e495;have qi495:(0<t491.length)=True:=eq_true (by omega);(try rw [show ((0:Int)).toNat=0 from rfl] at hx495_0);(try rw [Addr.add_zero'] at hx495_0);replace p495:=eq_true p495;replace q495:=eq_true q495;have p496:0≤(1:Int):=(by omega);have q496:1<(t491.length:Int):=of_decide_eq_true (by first|(with_reducible assumption)|assumption);obtain ⟨ad496,e496,hx496_0⟩:=Kd.at_string (ζg HO494.out).2.2 1 p496 q496;obtain rfl:ad495=ad496:=(by injection e496);(try simp only [show (1:Int).toNat=1 from rfl,Nat.reduceMul,Nat.reduceEqDiff,Go.Addr.add,↓reduceIte] at hx496_0);have qi496:(1<t491.length)=True:=eq_true (by omega);(try rw [show ((1:Int)).toNat=1 from rfl] at hx496_0);replace p496:=eq_true p496;replace q496:=eq_true q496)|(go_at_call 88;(with_reducible refine (spec_l08Denom.calls (rdOf ByteArray.empty t491 1) τ _ A8.out).mono ?_);rintro e w' ⟨rfl,⟨nd,rfl⟩⟩;(try first|exact ⟨rfl,_,World.drewN_drewN _ _ _⟩|exact ⟨rfl,_,Eq.trans (World.drewN_drewN _ _ _) (congrArg (World.drewN _) (Nat.add_assoc _ _ _))⟩);have p498:0≤(3:Int):=(by omega);have q498:3<(t491.length:Int):=of_decide_eq_true (by first|(with_reducible assumption)|assumption);obtain ⟨ad498,e498,hx498_0⟩:=Kd.at_string (ζg HO494.out).2.2 3 p498 q498;obtain rfl:ad495=ad498:=(by injection e498);(try simp only [show (3:Int).toNat=3 from rfl,Nat.reduceMul,Nat.reduceEqDiff,Go.Addr.add,↓reduceIte] at hx498_0);have qi498:(3<t491.length)=True:=eq_true (by omega);(try rw [show ((3:Int)).toNat=3 from rfl] at hx498_0);replace p498:=eq_true p498;replace q498:=eq_true q498)|(go_at_call 76;(with_reducible refine (spec_l08Name.calls k (rdOf ByteArray.empty t491 3) τ _ A11.out).mono ?_);rintro e w' ⟨rfl,⟨nd,rfl⟩⟩;(try first|exact ⟨rfl,_,World.drewN_drewN _ _ _⟩|exact ⟨rfl,_,Eq.trans (World.drewN_drewN _ _ _) (congrArg (World.drewN _) (Nat.add_assoc _ _ _))⟩);have p500:0≤(4:Int):=(by omega);have q500:4<(t491.length:Int):=of_decide_eq_true (by first|(with_reducible assumption)|assumption);obtain ⟨ad500,e500,hx500_0⟩:=Kd.at_string (ζg HO494.out).2.2 4 p500 q500;obtain rfl:ad495=ad500:=(by injection e500);(try simp only [show (4:Int).toNat=4 from rfl,Nat.reduceMul,Nat.reduceEqDiff,Go.Addr.add,↓reduceIte] at hx500_0);have qi500:(4<t491.length)=True:=eq_true (by omega);(try rw [show ((4:Int)).toNat=4 from rfl] at hx500_0);replace p500:=eq_true p500;replace q500:=eq_true q500)|(go_at_call 76;(with_reducible refine (spec_l08Name.calls k (rdOf ByteArray.empty t491 4) φ _ A14.out).mono ?_);rintro e w' ⟨rfl,⟨nd,rfl⟩⟩;(try first|exact ⟨rfl,_,World.drewN_drewN _ _ _⟩|exact ⟨rfl,_,Eq.trans (World.drewN_drewN _ _ _) (congrArg (World.drewN _) (Nat.add_assoc _ _ _))⟩)))
           repeat (go_quiet (first|(go_at_call 148;(with_reducible refine (spec_l02Read.calls k a0 t491 τ _ A2.out).mono ?_);rintro e w20 ⟨v493,rfl,ho0,hb⟩;have n0_:=ζa (Kd.R_lower ho0 (δs (by repeat (first|(with_reducible first|exact HB.out|apply δk|apply δi|apply δj)|exact HB.out))));have n1_:=ζa (δr (by repeat (first|(with_reducible first|exact HB.out|apply δk|apply δi|apply δj)|exact HB.out)) hb);clear HB;have HO494:=n0_;have HB:=n1_;clear n0_ n1_;(try clear hb);(try clear hb2);(try clear hk);(try clear hi);(try clear ho0);obtain ⟨Ao21,co21,eo21⟩:=Kd.R_slice HO494.out;subst eo21;have p495:0≤(0:Int):=(by omega);have q495:0<(t491.length:Int):=of_decide_eq_true (by first|(with_reducible assumption)|assumption);obtain ⟨ad495,e495,hx495_0⟩:=Kd.at_string (ζg HO494.out).2.2 0 p495 q495;cases e495;have qi495:(0<t491.length)=True:=eq_true (by omega);(try rw [show ((0:Int)).toNat=0 from rfl] at hx495_0);(try rw [Addr.add_zero'] at hx495_0);replace p495:=eq_true p495;replace q495:=eq_true q495;have p496:0≤(1:Int):=(by omega);have q496:1<(t491.length:Int):=of_decide_eq_true (by first|(with_reducible assumption)|assumption);obtain ⟨ad496,e496,hx496_0⟩:=Kd.at_string (ζg HO494.out).2.2 1 p496 q496;obtain rfl:ad495=ad496:=(by injection e496);(try simp only [show (1:Int).toNat=1 from rfl,Nat.reduceMul,Nat.reduceEqDiff,Go.Addr.add,↓reduceIte] at hx496_0);have qi496:(1<t491.length)=True:=eq_true (by omega);(try rw [show ((1:Int)).toNat=1 from rfl] at hx496_0);replace p496:=eq_true p496;replace q496:=eq_true q496)|(go_at_call 88;(with_reducible refine (spec_l08Denom.calls (rdOf ByteArray.empty t491 1) τ _ A8.out).mono ?_);rintro e w' ⟨rfl,⟨nd,rfl⟩⟩;(try first|exact ⟨rfl,_,World.drewN_drewN _ _ _⟩|exact ⟨rfl,_,Eq.trans (World.drewN_drewN _ _ _) (congrArg (World.drewN _) (Nat.add_assoc _ _ _))⟩);have p498:0≤(3:Int):=(by omega);have q498:3<(t491.length:Int):=of_decide_eq_true (by first|(with_reducible assumption)|assumption);obtain ⟨ad498,e498,hx498_0⟩:=Kd.at_string (ζg HO494.out).2.2 3 p498 q498;obtain rfl:ad495=ad498:=(by injection e498);(try simp only [show (3:Int).toNat=3 from rfl,Nat.reduceMul,Nat.reduceEqDiff,Go.Addr.add,↓reduceIte] at hx498_0);have qi498:(3<t491.length)=True:=eq_true (by omega);(try rw [show ((3:Int)).toNat=3 from rfl] at hx498_0);replace p498:=eq_true p498;replace q498:=eq_true q498)|(go_at_call 76;(with_reducible refine (spec_l08Name.calls k (rdOf ByteArray.empty t491 3) τ _ A11.out).mono ?_);rintro e w' ⟨rfl,⟨nd,rfl⟩⟩;(try first|exact ⟨rfl,_,World.drewN_drewN _ _ _⟩|exact ⟨rfl,_,Eq.trans (World.drewN_drewN _ _ _) (congrArg (World.drewN _) (Nat.add_assoc _ _ _))⟩);have p500:0≤(4:Int):=(by omega);have q500:4<(t491.length:Int):=of_decide_eq_true (by first|(with_reducible assumption)|assumption);obtain ⟨ad500,e500,hx500_0⟩:=Kd.at_string (ζg HO494.out).2.2 4 p500 q500;obtain rfl:ad495=ad500:=(by injection e500);(try simp only [show (4:Int).toNat=4 from rfl,Nat.reduceMul,Nat.reduceEqDiff,Go.Addr.add,↓reduceIte] at hx500_0);have qi500:(4<t491.length)=True:=eq_true (by omega);(try rw [show ((4:Int)).toNat=4 from rfl] at hx500_0);replace p500:=eq_true p500;replace q500:=eq_true q500)|(go_at_call 76;(with_reducible refine (spec_l08Name.calls k (rdOf ByteArray.empty t491 4) φ _ A14.out).mono ?_);rintro e w' ⟨rfl,⟨nd,rfl⟩⟩;(try first|exact ⟨rfl,_,World.drewN_drewN _ _ _⟩|exact ⟨rfl,_,Eq.trans (World.drewN_drewN _ _ _) (congrArg (World.drewN _) (Nat.add_assoc _ _ _))⟩)));try go_wp2_with (first|(go_at_call 148;(with_reducible refine (spec_l02Read.calls k a0 t491 τ _ A2.out).mono ?_);rintro e w20 ⟨v493,rfl,ho0,hb⟩;have n0_:=ζa (Kd.R_lower ho0 (δs (by repeat (first|(with_reducible first|exact HB.out|apply δk|apply δi|apply δj)|exact HB.out))));have n1_:=ζa (δr (by repeat (first|(with_reducible first|exact HB.out|apply δk|apply δi|apply δj)|exact HB.out)) hb);clear HB;have HO494:=n0_;have HB:=n1_;clear n0_ n1_;(try clear hb);(try clear hb2);(try clear hk);(try clear hi);(try clear ho0);obtain ⟨Ao21,co21,eo21⟩:=Kd.R_slice HO494.out;subst eo21;have p495:0≤(0:Int):=(by omega);have q495:0<(t491.length:Int):=of_decide_eq_true (by first|(with_reducible assumption)|assumption);obtain ⟨ad495,e495,hx495_0⟩:=Kd.at_string (ζg HO494.out).2.2 0 p495 q495;cases e495;have qi495:(0<t491.length)=True:=eq_true (by omega);(try rw [show ((0:Int)).toNat=0 from rfl] at hx495_0);(try rw [Addr.add_zero'] at hx495_0);replace p495:=eq_true p495;replace q495:=eq_true q495;have p496:0≤(1:Int):=(by omega);have q496:1<(t491.length:Int):=of_decide_eq_true (by first|(with_reducible assumption)|assumption);obtain ⟨ad496,e496,hx496_0⟩:=Kd.at_string (ζg HO494.out).2.2 1 p496 q496;obtain rfl:ad495=ad496:=(by injection e496);(try simp only [show (1:Int).toNat=1 from rfl,Nat.reduceMul,Nat.reduceEqDiff,Go.Addr.add,↓reduceIte] at hx496_0);have qi496:(1<t491.length)=True:=eq_true (by omega);(try rw [show ((1:Int)).toNat=1 from rfl] at hx496_0);replace p496:=eq_true p496;replace q496:=eq_true q496)|(go_at_call 88;(with_reducible refine (spec_l08Denom.calls (rdOf ByteArray.empty t491 1) τ _ A8.out).mono ?_);rintro e w' ⟨rfl,⟨nd,rfl⟩⟩;(try first|exact ⟨rfl,_,World.drewN_drewN _ _ _⟩|exact ⟨rfl,_,Eq.trans (World.drewN_drewN _ _ _) (congrArg (World.drewN _) (Nat.add_assoc _ _ _))⟩);have p498:0≤(3:Int):=(by omega);have q498:3<(t491.length:Int):=of_decide_eq_true (by first|(with_reducible assumption)|assumption);obtain ⟨ad498,e498,hx498_0⟩:=Kd.at_string (ζg HO494.out).2.2 3 p498 q498;obtain rfl:ad495=ad498:=(by injection e498);(try simp only [show (3:Int).toNat=3 from rfl,Nat.reduceMul,Nat.reduceEqDiff,Go.Addr.add,↓reduceIte] at hx498_0);have qi498:(3<t491.length)=True:=eq_true (by omega);(try rw [show ((3:Int)).toNat=3 from rfl] at hx498_0);replace p498:=eq_true p498;replace q498:=eq_true q498)|(go_at_call 76;(with_reducible refine (spec_l08Name.calls k (rdOf ByteArray.empty t491 3) τ _ A11.out).mono ?_);rintro e w' ⟨rfl,⟨nd,rfl⟩⟩;(try first|exact ⟨rfl,_,World.drewN_drewN _ _ _⟩|exact ⟨rfl,_,Eq.trans (World.drewN_drewN _ _ _) (congrArg (World.drewN _) (Nat.add_assoc _ _ _))⟩);have p500:0≤(4:Int):=(by omega);have q500:4<(t491.length:Int):=of_decide_eq_true (by first|(with_reducible assumption)|assumption);obtain ⟨ad500,e500,hx500_0⟩:=Kd.at_string (ζg HO494.out).2.2 4 p500 q500;obtain rfl:ad495=ad500:=(by injection e500);(try simp only [show (4:Int).toNat=4 from rfl,Nat.reduceMul,Nat.reduceEqDiff,Go.Addr.add,↓reduceIte] at hx500_0);have qi500:(4<t491.length)=True:=eq_true (by omega);(try rw [show ((4:Int)).toNat=4 from rfl] at hx500_0);replace p500:=eq_true p500;replace q500:=eq_true q500)|(go_at_call 76;(with_reducible refine (spec_l08Name.calls k (rdOf ByteArray.empty t491 4) φ _ A14.out).mono ?_);rintro e w' ⟨rfl,⟨nd,rfl⟩⟩;(try first|exact ⟨rfl,_,World.drewN_drewN _ _ _⟩|exact ⟨rfl,_,Eq.trans (World.drewN_drewN _ _ _) (congrArg (World.drewN _) (Nat.add_assoc _ _ _))⟩))))
           refine bodyPost_ret (results_list (rs:=[.tmp 2,.tmp 3,.tmp 4,.tmp 5,.tmp 6]) rfl (by simp) (.tmp (.tmp (.tmp (.tmp (.tmp .nil)))))) rfl ?_
           exact ⟨by first|rfl|(simp [errW_none,errW_some] <;> rfl)|(simp [*,errW_none,errW_some] <;> rfl),by repeat (first|(with_reducible first|exact HB.out|apply δk|apply δi|apply δj)|exact HB.out)⟩
         ·
          rw [if_neg c13] at H
          exact absurd H (by simp)
        ·
         replace c12:=Bool.eq_false_iff.mpr c12
         subst c12
         have H1:(some ((⟨#[]⟩:ByteArray),0,(⟨#[]⟩:ByteArray),(⟨#[]⟩:ByteArray),φ))=some (r1,r2,r3,r4,r5):=by rw [if_neg (show ¬ (φ=τ) by decide)] at H;exact H
         clear H
         have H:=H1
         clear H1
         simp only [Option.some.injEq,Prod.mk.injEq] at H
         obtain ⟨rfl,rfl,rfl,rfl,rfl⟩:=H
         go_enter Tryz.func97,Tryz.ntmps97
         go_wp2_with (first|(go_at_call 148;(with_reducible refine (spec_l02Read.calls k a0 t491 τ _ A2.out).mono ?_);rintro e w22 ⟨v493,rfl,ho0,hb⟩;have n0_:=ζa (Kd.R_lower ho0 (δs (by repeat (first|(with_reducible first|exact HB.out|apply δk|apply δi|apply δj)|exact HB.out))));have n1_:=ζa (δr (by repeat (first|(with_reducible first|exact HB.out|apply δk|apply δi|apply δj)|exact HB.out)) hb);clear HB;have HO494:=n0_;have HB:=n1_;clear n0_ n1_;(try clear hb);(try clear hb2);(try clear hk);(try clear hi);(try clear ho0);obtain ⟨Ao23,co23,eo23⟩:=Kd.R_slice HO494.out;subst eo23;have p495:0≤(0:Int):=(by omega);have q495:0<(t491.length:Int):=of_decide_eq_true (by first|(with_reducible assumption)|assumption);obtain ⟨ad495,e495,hx495_0⟩:=Kd.at_string (ζg HO494.out).2.2 0 p495 q495;cases e495;have qi495:(0<t491.length)=True:=eq_true (by omega);(try rw [show ((0:Int)).toNat=0 from rfl] at hx495_0);(try rw [Addr.add_zero'] at hx495_0);replace p495:=eq_true p495;replace q495:=eq_true q495;have p496:0≤(1:Int):=(by omega);have q496:1<(t491.length:Int):=of_decide_eq_true (by first|(with_reducible assumption)|assumption);obtain ⟨ad496,e496,hx496_0⟩:=Kd.at_string (ζg HO494.out).2.2 1 p496 q496;obtain rfl:ad495=ad496:=(by injection e496);(try simp only [show (1:Int).toNat=1 from rfl,Nat.reduceMul,Nat.reduceEqDiff,Go.Addr.add,↓reduceIte] at hx496_0);have qi496:(1<t491.length)=True:=eq_true (by omega);(try rw [show ((1:Int)).toNat=1 from rfl] at hx496_0);replace p496:=eq_true p496;replace q496:=eq_true q496)|(go_at_call 88;(with_reducible refine (spec_l08Denom.calls (rdOf ByteArray.empty t491 1) τ _ A8.out).mono ?_);rintro e w' ⟨rfl,⟨nd,rfl⟩⟩;(try first|exact ⟨rfl,_,World.drewN_drewN _ _ _⟩|exact ⟨rfl,_,Eq.trans (World.drewN_drewN _ _ _) (congrArg (World.drewN _) (Nat.add_assoc _ _ _))⟩);have p498:0≤(3:Int):=(by omega);have q498:3<(t491.length:Int):=of_decide_eq_true (by first|(with_reducible assumption)|assumption);obtain ⟨ad498,e498,hx498_0⟩:=Kd.at_string (ζg HO494.out).2.2 3 p498 q498;obtain rfl:ad495=ad498:=(by injection e498);(try simp only [show (3:Int).toNat=3 from rfl,Nat.reduceMul,Nat.reduceEqDiff,Go.Addr.add,↓reduceIte] at hx498_0);have qi498:(3<t491.length)=True:=eq_true (by omega);(try rw [show ((3:Int)).toNat=3 from rfl] at hx498_0);replace p498:=eq_true p498;replace q498:=eq_true q498)|(go_at_call 76;(with_reducible refine (spec_l08Name.calls k (rdOf ByteArray.empty t491 3) φ _ A11.out).mono ?_);rintro e w' ⟨rfl,⟨nd,rfl⟩⟩;(try first|exact ⟨rfl,_,World.drewN_drewN _ _ _⟩|exact ⟨rfl,_,Eq.trans (World.drewN_drewN _ _ _) (congrArg (World.drewN _) (Nat.add_assoc _ _ _))⟩)))
         repeat (go_quiet (first|(go_at_call 148;(with_reducible refine (spec_l02Read.calls k a0 t491 τ _ A2.out).mono ?_);rintro e w22 ⟨v493,rfl,ho0,hb⟩;have n0_:=ζa (Kd.R_lower ho0 (δs (by repeat (first|(with_reducible first|exact HB.out|apply δk|apply δi|apply δj)|exact HB.out))));have n1_:=ζa (δr (by repeat (first|(with_reducible first|exact HB.out|apply δk|apply δi|apply δj)|exact HB.out)) hb);clear HB;have HO494:=n0_;have HB:=n1_;clear n0_ n1_;(try clear hb);(try clear hb2);(try clear hk);(try clear hi);(try clear ho0);obtain ⟨Ao23,co23,eo23⟩:=Kd.R_slice HO494.out;subst eo23;have p495:0≤(0:Int):=(by omega);have q495:0<(t491.length:Int):=of_decide_eq_true (by first|(with_reducible assumption)|assumption);obtain ⟨ad495,e495,hx495_0⟩:=Kd.at_string (ζg HO494.out).2.2 0 p495 q495;cases e495;have qi495:(0<t491.length)=True:=eq_true (by omega);(try rw [show ((0:Int)).toNat=0 from rfl] at hx495_0);(try rw [Addr.add_zero'] at hx495_0);replace p495:=eq_true p495;replace q495:=eq_true q495;have p496:0≤(1:Int):=(by omega);have q496:1<(t491.length:Int):=of_decide_eq_true (by first|(with_reducible assumption)|assumption);obtain ⟨ad496,e496,hx496_0⟩:=Kd.at_string (ζg HO494.out).2.2 1 p496 q496;obtain rfl:ad495=ad496:=(by injection e496);(try simp only [show (1:Int).toNat=1 from rfl,Nat.reduceMul,Nat.reduceEqDiff,Go.Addr.add,↓reduceIte] at hx496_0);have qi496:(1<t491.length)=True:=eq_true (by omega);(try rw [show ((1:Int)).toNat=1 from rfl] at hx496_0);replace p496:=eq_true p496;replace q496:=eq_true q496)|(go_at_call 88;(with_reducible refine (spec_l08Denom.calls (rdOf ByteArray.empty t491 1) τ _ A8.out).mono ?_);rintro e w' ⟨rfl,⟨nd,rfl⟩⟩;(try first|exact ⟨rfl,_,World.drewN_drewN _ _ _⟩|exact ⟨rfl,_,Eq.trans (World.drewN_drewN _ _ _) (congrArg (World.drewN _) (Nat.add_assoc _ _ _))⟩);have p498:0≤(3:Int):=(by omega);have q498:3<(t491.length:Int):=of_decide_eq_true (by first|(with_reducible assumption)|assumption);obtain ⟨ad498,e498,hx498_0⟩:=Kd.at_string (ζg HO494.out).2.2 3 p498 q498;obtain rfl:ad495=ad498:=(by injection e498);(try simp only [show (3:Int).toNat=3 from rfl,Nat.reduceMul,Nat.reduceEqDiff,Go.Addr.add,↓reduceIte] at hx498_0);have qi498:(3<t491.length)=True:=eq_true (by omega);(try rw [show ((3:Int)).toNat=3 from rfl] at hx498_0);replace p498:=eq_true p498;replace q498:=eq_true q498)|(go_at_call 76;(with_reducible refine (spec_l08Name.calls k (rdOf ByteArray.empty t491 3) φ _ A11.out).mono ?_);rintro e w' ⟨rfl,⟨nd,rfl⟩⟩;(try first|exact ⟨rfl,_,World.drewN_drewN _ _ _⟩|exact ⟨rfl,_,Eq.trans (World.drewN_drewN _ _ _) (congrArg (World.drewN _) (Nat.add_assoc _ _ _))⟩)));try go_wp2_with (first|(go_at_call 148;(with_reducible refine (spec_l02Read.calls k a0 t491 τ _ A2.out).mono ?_);rintro e w22 ⟨v493,rfl,ho0,hb⟩;have n0_:=ζa (Kd.R_lower ho0 (δs (by repeat (first|(with_reducible first|exact HB.out|apply δk|apply δi|apply δj)|exact HB.out))));have n1_:=ζa (δr (by repeat (first|(with_reducible first|exact HB.out|apply δk|apply δi|apply δj)|exact HB.out)) hb);clear HB;have HO494:=n0_;have HB:=n1_;clear n0_ n1_;(try clear hb);(try clear hb2);(try clear hk);(try clear hi);(try clear ho0);obtain ⟨Ao23,co23,eo23⟩:=Kd.R_slice HO494.out;subst eo23;have p495:0≤(0:Int):=(by omega);have q495:0<(t491.length:Int):=of_decide_eq_true (by first|(with_reducible assumption)|assumption);obtain ⟨ad495,e495,hx495_0⟩:=Kd.at_string (ζg HO494.out).2.2 0 p495 q495;cases e495;have qi495:(0<t491.length)=True:=eq_true (by omega);(try rw [show ((0:Int)).toNat=0 from rfl] at hx495_0);(try rw [Addr.add_zero'] at hx495_0);replace p495:=eq_true p495;replace q495:=eq_true q495;have p496:0≤(1:Int):=(by omega);have q496:1<(t491.length:Int):=of_decide_eq_true (by first|(with_reducible assumption)|assumption);obtain ⟨ad496,e496,hx496_0⟩:=Kd.at_string (ζg HO494.out).2.2 1 p496 q496;obtain rfl:ad495=ad496:=(by injection e496);(try simp only [show (1:Int).toNat=1 from rfl,Nat.reduceMul,Nat.reduceEqDiff,Go.Addr.add,↓reduceIte] at hx496_0);have qi496:(1<t491.length)=True:=eq_true (by omega);(try rw [show ((1:Int)).toNat=1 from rfl] at hx496_0);replace p496:=eq_true p496;replace q496:=eq_true q496)|(go_at_call 88;(with_reducible refine (spec_l08Denom.calls (rdOf ByteArray.empty t491 1) τ _ A8.out).mono ?_);rintro e w' ⟨rfl,⟨nd,rfl⟩⟩;(try first|exact ⟨rfl,_,World.drewN_drewN _ _ _⟩|exact ⟨rfl,_,Eq.trans (World.drewN_drewN _ _ _) (congrArg (World.drewN _) (Nat.add_assoc _ _ _))⟩);have p498:0≤(3:Int):=(by omega);have q498:3<(t491.length:Int):=of_decide_eq_true (by first|(with_reducible assumption)|assumption);obtain ⟨ad498,e498,hx498_0⟩:=Kd.at_string (ζg HO494.out).2.2 3 p498 q498;obtain rfl:ad495=ad498:=(by injection e498);(try simp only [show (3:Int).toNat=3 from rfl,Nat.reduceMul,Nat.reduceEqDiff,Go.Addr.add,↓reduceIte] at hx498_0);have qi498:(3<t491.length)=True:=eq_true (by omega);(try rw [show ((3:Int)).toNat=3 from rfl] at hx498_0);replace p498:=eq_true p498;replace q498:=eq_true q498)|(go_at_call 76;(with_reducible refine (spec_l08Name.calls k (rdOf ByteArray.empty t491 3) φ _ A11.out).mono ?_);rintro e w' ⟨rfl,⟨nd,rfl⟩⟩;(try first|exact ⟨rfl,_,World.drewN_drewN _ _ _⟩|exact ⟨rfl,_,Eq.trans (World.drewN_drewN _ _ _) (congrArg (World.drewN _) (Nat.add_assoc _ _ _))⟩))))
         refine bodyPost_ret (results_list (rs:=[.tmp 2,.tmp 3,.tmp 4,.tmp 5,.tmp 6]) rfl (by simp) (.tmp (.tmp (.tmp (.tmp (.tmp .nil)))))) rfl ?_
         exact ⟨by first|rfl|(simp [errW_none,errW_some] <;> rfl)|(simp [*,errW_none,errW_some] <;> rfl),by repeat (first|(with_reducible first|exact HB.out|apply δk|apply δi|apply δj)|exact HB.out)⟩
       ·
        rw [if_neg c10] at H
        exact absurd H (by simp)
      ·
       replace c9:=Bool.eq_false_iff.mpr c9
       subst c9
       have H1:(some ((⟨#[]⟩:ByteArray),0,(⟨#[]⟩:ByteArray),(⟨#[]⟩:ByteArray),φ))=some (r1,r2,r3,r4,r5):=by rw [if_neg (show ¬ (φ=τ) by decide)] at H;exact H
       clear H
       have H:=H1
       clear H1
       simp only [Option.some.injEq,Prod.mk.injEq] at H
       obtain ⟨rfl,rfl,rfl,rfl,rfl⟩:=H
       go_enter Tryz.func97,Tryz.ntmps97
       go_wp2_with (first|(go_at_call 148;(with_reducible refine (spec_l02Read.calls k a0 t491 τ _ A2.out).mono ?_);rintro e w24 ⟨v493,rfl,ho0,hb⟩;have n0_:=ζa (Kd.R_lower ho0 (δs (by repeat (first|(with_reducible first|exact HB.out|apply δk|apply δi|apply δj)|exact HB.out))));have n1_:=ζa (δr (by repeat (first|(with_reducible first|exact HB.out|apply δk|apply δi|apply δj)|exact HB.out)) hb);clear HB;have HO494:=n0_;have HB:=n1_;clear n0_ n1_;(try clear hb);(try clear hb2);(try clear hk);(try clear hi);(try clear ho0);obtain ⟨Ao25,co25,eo25⟩:=Kd.R_slice HO494.out;subst eo25;have p495:0≤(0:Int):=(by omega);have q495:0<(t491.length:Int):=of_decide_eq_true (by first|(with_reducible assumption)|assumption);obtain ⟨ad495,e495,hx495_0⟩:=Kd.at_string (ζg HO494.out).2.2 0 p495 q495;cases e495;have qi495:(0<t491.length)=True:=eq_true (by omega);(try rw [show ((0:Int)).toNat=0 from rfl] at hx495_0);(try rw [Addr.add_zero'] at hx495_0);replace p495:=eq_true p495;replace q495:=eq_true q495;have p496:0≤(1:Int):=(by omega);have q496:1<(t491.length:Int):=of_decide_eq_true (by first|(with_reducible assumption)|assumption);obtain ⟨ad496,e496,hx496_0⟩:=Kd.at_string (ζg HO494.out).2.2 1 p496 q496;obtain rfl:ad495=ad496:=(by injection e496);(try simp only [show (1:Int).toNat=1 from rfl,Nat.reduceMul,Nat.reduceEqDiff,Go.Addr.add,↓reduceIte] at hx496_0);have qi496:(1<t491.length)=True:=eq_true (by omega);(try rw [show ((1:Int)).toNat=1 from rfl] at hx496_0);replace p496:=eq_true p496;replace q496:=eq_true q496)|(go_at_call 88;(with_reducible refine (spec_l08Denom.calls (rdOf ByteArray.empty t491 1) φ _ A8.out).mono ?_);rintro e w' ⟨rfl,⟨nd,rfl⟩⟩;(try first|exact ⟨rfl,_,World.drewN_drewN _ _ _⟩|exact ⟨rfl,_,Eq.trans (World.drewN_drewN _ _ _) (congrArg (World.drewN _) (Nat.add_assoc _ _ _))⟩)))
       repeat (go_quiet (first|(go_at_call 148;(with_reducible refine (spec_l02Read.calls k a0 t491 τ _ A2.out).mono ?_);rintro e w24 ⟨v493,rfl,ho0,hb⟩;have n0_:=ζa (Kd.R_lower ho0 (δs (by repeat (first|(with_reducible first|exact HB.out|apply δk|apply δi|apply δj)|exact HB.out))));have n1_:=ζa (δr (by repeat (first|(with_reducible first|exact HB.out|apply δk|apply δi|apply δj)|exact HB.out)) hb);clear HB;have HO494:=n0_;have HB:=n1_;clear n0_ n1_;(try clear hb);(try clear hb2);(try clear hk);(try clear hi);(try clear ho0);obtain ⟨Ao25,co25,eo25⟩:=Kd.R_slice HO494.out;subst eo25;have p495:0≤(0:Int):=(by omega);have q495:0<(t491.length:Int):=of_decide_eq_true (by first|(with_reducible assumption)|assumption);obtain ⟨ad495,e495,hx495_0⟩:=Kd.at_string (ζg HO494.out).2.2 0 p495 q495;cases e495;have qi495:(0<t491.length)=True:=eq_true (by omega);(try rw [show ((0:Int)).toNat=0 from rfl] at hx495_0);(try rw [Addr.add_zero'] at hx495_0);replace p495:=eq_true p495;replace q495:=eq_true q495;have p496:0≤(1:Int):=(by omega);have q496:1<(t491.length:Int):=of_decide_eq_true (by first|(with_reducible assumption)|assumption);obtain ⟨ad496,e496,hx496_0⟩:=Kd.at_string (ζg HO494.out).2.2 1 p496 q496;obtain rfl:ad495=ad496:=(by injection e496);(try simp only [show (1:Int).toNat=1 from rfl,Nat.reduceMul,Nat.reduceEqDiff,Go.Addr.add,↓reduceIte] at hx496_0);have qi496:(1<t491.length)=True:=eq_true (by omega);(try rw [show ((1:Int)).toNat=1 from rfl] at hx496_0);replace p496:=eq_true p496;replace q496:=eq_true q496)|(go_at_call 88;(with_reducible refine (spec_l08Denom.calls (rdOf ByteArray.empty t491 1) φ _ A8.out).mono ?_);rintro e w' ⟨rfl,⟨nd,rfl⟩⟩;(try first|exact ⟨rfl,_,World.drewN_drewN _ _ _⟩|exact ⟨rfl,_,Eq.trans (World.drewN_drewN _ _ _) (congrArg (World.drewN _) (Nat.add_assoc _ _ _))⟩)));try go_wp2_with (first|(go_at_call 148;(with_reducible refine (spec_l02Read.calls k a0 t491 τ _ A2.out).mono ?_);rintro e w24 ⟨v493,rfl,ho0,hb⟩;have n0_:=ζa (Kd.R_lower ho0 (δs (by repeat (first|(with_reducible first|exact HB.out|apply δk|apply δi|apply δj)|exact HB.out))));have n1_:=ζa (δr (by repeat (first|(with_reducible first|exact HB.out|apply δk|apply δi|apply δj)|exact HB.out)) hb);clear HB;have HO494:=n0_;have HB:=n1_;clear n0_ n1_;(try clear hb);(try clear hb2);(try clear hk);(try clear hi);(try clear ho0);obtain ⟨Ao25,co25,eo25⟩:=Kd.R_slice HO494.out;subst eo25;have p495:0≤(0:Int):=(by omega);have q495:0<(t491.length:Int):=of_decide_eq_true (by first|(with_reducible assumption)|assumption);obtain ⟨ad495,e495,hx495_0⟩:=Kd.at_string (ζg HO494.out).2.2 0 p495 q495;cases e495;have qi495:(0<t491.length)=True:=eq_true (by omega);(try rw [show ((0:Int)).toNat=0 from rfl] at hx495_0);(try rw [Addr.add_zero'] at hx495_0);replace p495:=eq_true p495;replace q495:=eq_true q495;have p496:0≤(1:Int):=(by omega);have q496:1<(t491.length:Int):=of_decide_eq_true (by first|(with_reducible assumption)|assumption);obtain ⟨ad496,e496,hx496_0⟩:=Kd.at_string (ζg HO494.out).2.2 1 p496 q496;obtain rfl:ad495=ad496:=(by injection e496);(try simp only [show (1:Int).toNat=1 from rfl,Nat.reduceMul,Nat.reduceEqDiff,Go.Addr.add,↓reduceIte] at hx496_0);have qi496:(1<t491.length)=True:=eq_true (by omega);(try rw [show ((1:Int)).toNat=1 from rfl] at hx496_0);replace p496:=eq_true p496;replace q496:=eq_true q496)|(go_at_call 88;(with_reducible refine (spec_l08Denom.calls (rdOf ByteArray.empty t491 1) φ _ A8.out).mono ?_);rintro e w' ⟨rfl,⟨nd,rfl⟩⟩;(try first|exact ⟨rfl,_,World.drewN_drewN _ _ _⟩|exact ⟨rfl,_,Eq.trans (World.drewN_drewN _ _ _) (congrArg (World.drewN _) (Nat.add_assoc _ _ _))⟩))))
       refine bodyPost_ret (results_list (rs:=[.tmp 2,.tmp 3,.tmp 4,.tmp 5,.tmp 6]) rfl (by simp) (.tmp (.tmp (.tmp (.tmp (.tmp .nil)))))) rfl ?_
       exact ⟨by first|rfl|(simp [errW_none,errW_some] <;> rfl)|(simp [*,errW_none,errW_some] <;> rfl),by repeat (first|(with_reducible first|exact HB.out|apply δk|apply δi|apply δj)|exact HB.out)⟩
     ·
      rw [if_neg c7] at H
      exact absurd H (by simp)
    ·
     rw [if_neg c6] at H
     have c6b0:((rdOf ByteArray.empty t491 0).toList == ([116]:List UInt8))=φ:=beq_eq_false_iff_ne.mpr c6
     have c6b1:((rdOf ByteArray.empty t491 0).toList != ([116]:List UInt8))=τ:=bne_iff_ne.mpr c6
     simp only [Option.some.injEq,Prod.mk.injEq] at H
     obtain ⟨rfl,rfl,rfl,rfl,rfl⟩:=H
     go_enter Tryz.func97,Tryz.ntmps97
     go_wp2_with (first|(go_at_call 148;(with_reducible refine (spec_l02Read.calls k a0 t491 τ _ A2.out).mono ?_);rintro e w26 ⟨v493,rfl,ho0,hb⟩;have n0_:=ζa (Kd.R_lower ho0 (δs (by repeat (first|(with_reducible first|exact HB.out|apply δk|apply δi|apply δj)|exact HB.out))));have n1_:=ζa (δr (by repeat (first|(with_reducible first|exact HB.out|apply δk|apply δi|apply δj)|exact HB.out)) hb);clear HB;have HO494:=n0_;have HB:=n1_;clear n0_ n1_;(try clear hb);(try clear hb2);(try clear hk);(try clear hi);(try clear ho0);obtain ⟨Ao27,co27,eo27⟩:=Kd.R_slice HO494.out;subst eo27;have p495:0≤(0:Int):=(by omega);have q495:0<(t491.length:Int):=of_decide_eq_true (by first|(with_reducible assumption)|assumption);obtain ⟨ad495,e495,hx495_0⟩:=Kd.at_string (ζg HO494.out).2.2 0 p495 q495;cases e495;have qi495:(0<t491.length)=True:=eq_true (by omega);(try rw [show ((0:Int)).toNat=0 from rfl] at hx495_0);(try rw [Addr.add_zero'] at hx495_0);replace p495:=eq_true p495;replace q495:=eq_true q495))
     repeat (go_quiet (first|(go_at_call 148;(with_reducible refine (spec_l02Read.calls k a0 t491 τ _ A2.out).mono ?_);rintro e w26 ⟨v493,rfl,ho0,hb⟩;have n0_:=ζa (Kd.R_lower ho0 (δs (by repeat (first|(with_reducible first|exact HB.out|apply δk|apply δi|apply δj)|exact HB.out))));have n1_:=ζa (δr (by repeat (first|(with_reducible first|exact HB.out|apply δk|apply δi|apply δj)|exact HB.out)) hb);clear HB;have HO494:=n0_;have HB:=n1_;clear n0_ n1_;(try clear hb);(try clear hb2);(try clear hk);(try clear hi);(try clear ho0);obtain ⟨Ao27,co27,eo27⟩:=Kd.R_slice HO494.out;subst eo27;have p495:0≤(0:Int):=(by omega);have q495:0<(t491.length:Int):=of_decide_eq_true (by first|(with_reducible assumption)|assumption);obtain ⟨ad495,e495,hx495_0⟩:=Kd.at_string (ζg HO494.out).2.2 0 p495 q495;cases e495;have qi495:(0<t491.length)=True:=eq_true (by omega);(try rw [show ((0:Int)).toNat=0 from rfl] at hx495_0);(try rw [Addr.add_zero'] at hx495_0);replace p495:=eq_true p495;replace q495:=eq_true q495));try go_wp2_with (first|(go_at_call 148;(with_reducible refine (spec_l02Read.calls k a0 t491 τ _ A2.out).mono ?_);rintro e w26 ⟨v493,rfl,ho0,hb⟩;have n0_:=ζa (Kd.R_lower ho0 (δs (by repeat (first|(with_reducible first|exact HB.out|apply δk|apply δi|apply δj)|exact HB.out))));have n1_:=ζa (δr (by repeat (first|(with_reducible first|exact HB.out|apply δk|apply δi|apply δj)|exact HB.out)) hb);clear HB;have HO494:=n0_;have HB:=n1_;clear n0_ n1_;(try clear hb);(try clear hb2);(try clear hk);(try clear hi);(try clear ho0);obtain ⟨Ao27,co27,eo27⟩:=Kd.R_slice HO494.out;subst eo27;have p495:0≤(0:Int):=(by omega);have q495:0<(t491.length:Int):=of_decide_eq_true (by first|(with_reducible assumption)|assumption);obtain ⟨ad495,e495,hx495_0⟩:=Kd.at_string (ζg HO494.out).2.2 0 p495 q495;cases e495;have qi495:(0<t491.length)=True:=eq_true (by omega);(try rw [show ((0:Int)).toNat=0 from rfl] at hx495_0);(try rw [Addr.add_zero'] at hx495_0);replace p495:=eq_true p495;replace q495:=eq_true q495)))
     refine bodyPost_ret (results_list (rs:=[.tmp 2,.tmp 3,.tmp 4,.tmp 5,.tmp 6]) rfl (by simp) (.tmp (.tmp (.tmp (.tmp (.tmp .nil)))))) rfl ?_
     exact ⟨by first|rfl|(simp [errW_none,errW_some] <;> rfl)|(simp [*,errW_none,errW_some] <;> rfl),by repeat (first|(with_reducible first|exact HB.out|apply δk|apply δi|apply δj)|exact HB.out)⟩
   ·
    rw [if_neg c5] at H
    exact absurd H (by simp)
  ·
   rw [if_neg c4] at H
   have c4b0:((t491.length:Int) == 5)=φ:=beq_eq_false_iff_ne.mpr c4
   have c4b1:((t491.length:Int) != 5)=τ:=bne_iff_ne.mpr c4
   simp only [Option.some.injEq,Prod.mk.injEq] at H
   obtain ⟨rfl,rfl,rfl,rfl,rfl⟩:=H
   go_enter Tryz.func97,Tryz.ntmps97
   go_wp2_with (first|(go_at_call 148;(with_reducible refine (spec_l02Read.calls k a0 t491 τ _ A2.out).mono ?_);rintro e w28 ⟨v493,rfl,ho0,hb⟩;have n0_:=ζa (Kd.R_lower ho0 (δs (by repeat (first|(with_reducible first|exact HB.out|apply δk|apply δi|apply δj)|exact HB.out))));have n1_:=ζa (δr (by repeat (first|(with_reducible first|exact HB.out|apply δk|apply δi|apply δj)|exact HB.out)) hb);clear HB;have HO494:=n0_;have HB:=n1_;clear n0_ n1_;(try clear hb);(try clear hb2);(try clear hk);(try clear hi);(try clear ho0);obtain ⟨Ao29,co29,eo29⟩:=Kd.R_slice HO494.out;subst eo29))
   repeat (go_quiet (first|(go_at_call 148;(with_reducible refine (spec_l02Read.calls k a0 t491 τ _ A2.out).mono ?_);rintro e w28 ⟨v493,rfl,ho0,hb⟩;have n0_:=ζa (Kd.R_lower ho0 (δs (by repeat (first|(with_reducible first|exact HB.out|apply δk|apply δi|apply δj)|exact HB.out))));have n1_:=ζa (δr (by repeat (first|(with_reducible first|exact HB.out|apply δk|apply δi|apply δj)|exact HB.out)) hb);clear HB;have HO494:=n0_;have HB:=n1_;clear n0_ n1_;(try clear hb);(try clear hb2);(try clear hk);(try clear hi);(try clear ho0);obtain ⟨Ao29,co29,eo29⟩:=Kd.R_slice HO494.out;subst eo29));try go_wp2_with (first|(go_at_call 148;(with_reducible refine (spec_l02Read.calls k a0 t491 τ _ A2.out).mono ?_);rintro e w28 ⟨v493,rfl,ho0,hb⟩;have n0_:=ζa (Kd.R_lower ho0 (δs (by repeat (first|(with_reducible first|exact HB.out|apply δk|apply δi|apply δj)|exact HB.out))));have n1_:=ζa (δr (by repeat (first|(with_reducible first|exact HB.out|apply δk|apply δi|apply δj)|exact HB.out)) hb);clear HB;have HO494:=n0_;have HB:=n1_;clear n0_ n1_;(try clear hb);(try clear hb2);(try clear hk);(try clear hi);(try clear ho0);obtain ⟨Ao29,co29,eo29⟩:=Kd.R_slice HO494.out;subst eo29)))
   refine bodyPost_ret (results_list (rs:=[.tmp 2,.tmp 3,.tmp 4,.tmp 5,.tmp 6]) rfl (by simp) (.tmp (.tmp (.tmp (.tmp (.tmp .nil)))))) rfl ?_
   exact ⟨by first|rfl|(simp [errW_none,errW_some] <;> rfl)|(simp [*,errW_none,errW_some] <;> rfl),by repeat (first|(with_reducible first|exact HB.out|apply δk|apply δi|apply δj)|exact HB.out)⟩
 ·
  replace c3:=Bool.eq_false_iff.mpr c3
  subst c3
  have H1:(some ((⟨#[]⟩:ByteArray),0,(⟨#[]⟩:ByteArray),(⟨#[]⟩:ByteArray),φ))=some (r1,r2,r3,r4,r5):=by rw [if_neg (show ¬ (φ=τ) by decide)] at H;exact H
  clear H
  have H:=H1
  clear H1
  simp only [Option.some.injEq,Prod.mk.injEq] at H
  obtain ⟨rfl,rfl,rfl,rfl,rfl⟩:=H
  go_enter Tryz.func97,Tryz.ntmps97
  go_wp2_with (first|(go_at_call 148;(with_reducible refine (spec_l02Read.calls k a0 t491 φ _ A2.out).mono ?_);rintro e w30 ⟨v493,rfl,ho0,hb⟩;have n0_:=ζa (Kd.R_lower ho0 (δs (by repeat (first|(with_reducible first|exact HB.out|apply δk|apply δi|apply δj)|exact HB.out))));have n1_:=ζa (δr (by repeat (first|(with_reducible first|exact HB.out|apply δk|apply δi|apply δj)|exact HB.out)) hb);clear HB;have HO494:=n0_;have HB:=n1_;clear n0_ n1_;(try clear hb);(try clear hb2);(try clear hk);(try clear hi);(try clear ho0)))
  repeat (go_quiet (first|(go_at_call 148;(with_reducible refine (spec_l02Read.calls k a0 t491 φ _ A2.out).mono ?_);rintro e w30 ⟨v493,rfl,ho0,hb⟩;have n0_:=ζa (Kd.R_lower ho0 (δs (by repeat (first|(with_reducible first|exact HB.out|apply δk|apply δi|apply δj)|exact HB.out))));have n1_:=ζa (δr (by repeat (first|(with_reducible first|exact HB.out|apply δk|apply δi|apply δj)|exact HB.out)) hb);clear HB;have HO494:=n0_;have HB:=n1_;clear n0_ n1_;(try clear hb);(try clear hb2);(try clear hk);(try clear hi);(try clear ho0)));try go_wp2_with (first|(go_at_call 148;(with_reducible refine (spec_l02Read.calls k a0 t491 φ _ A2.out).mono ?_);rintro e w30 ⟨v493,rfl,ho0,hb⟩;have n0_:=ζa (Kd.R_lower ho0 (δs (by repeat (first|(with_reducible first|exact HB.out|apply δk|apply δi|apply δj)|exact HB.out))));have n1_:=ζa (δr (by repeat (first|(with_reducible first|exact HB.out|apply δk|apply δi|apply δj)|exact HB.out)) hb);clear HB;have HO494:=n0_;have HB:=n1_;clear n0_ n1_;(try clear hb);(try clear hb2);(try clear hk);(try clear hi);(try clear ho0))))
  refine bodyPost_ret (results_list (rs:=[.tmp 2,.tmp 3,.tmp 4,.tmp 5,.tmp 6]) rfl (by simp) (.tmp (.tmp (.tmp (.tmp (.tmp .nil)))))) rfl ?_
  exact ⟨by first|rfl|(simp [errW_none,errW_some] <;> rfl)|(simp [*,errW_none,errW_some] <;> rfl),by repeat (first|(with_reducible first|exact HB.out|apply δk|apply δi|apply δj)|exact HB.out)⟩


open Bool renaming true → τ

/-! ### spec_l05Supply: function 152 -/
def spec_l05Supply.f (a0:ByteArray):Option (ByteArray):=if 2+a0.size≤9223372036854775807 then (some ((⟨#[115,47]⟩:ByteArray) ++ a0)) else (none)
set_option maxHeartbeats 8000000 in
set_option maxRecDepth 100000 in
theorem spec_l05Supply.calls (a0:ByteArray) (r:ByteArray) (w:World) (h:spec_l05Supply.f a0=some r) :
  Calls Tryz.prog 152 #[.string a0] w fun e w'=>e = .returned (.string r)∧Drawn0 w w':=by
 have H:(if 2+a0.size≤9223372036854775807 then (some ((⟨#[115,47]⟩:ByteArray) ++ a0)) else (none))=some r:=h
 clear h
 by_cases c2:2+a0.size≤9223372036854775807
 ·
  rw [if_pos c2] at H
  have c2b0:=eq_true c2
  have c2b1:decide (2+a0.size≤9223372036854775807)=τ:=decide_eq_true c2
  try have c2b2:(9223372036854775807<2+a0.size)=False:=eq_false (Nat.not_lt.2 c2)
  obtain rfl:=Option.some.inj H
  go_enter Tryz.func152,Tryz.ntmps152
  go_wp2
  go_ret
  exact ⟨by first|rfl|(simp;done)|(simp [*];done),by repeat (first|exact Drawn0.refl _|apply Drawn0.step)⟩
 ·
  rw [if_neg c2] at H
  exact absurd H (by simp)



/-! ### spec_l05Mint: function 98 -/
def spec_l05Mint.f (k:Nat) (list:List S51) (account:ByteArray) (denom:ByteArray) (n:Int):Option (List S51 × Int) :=
 (spec_l05Supply.f denom).bind fun q1=>(spec_l05Add.f k list q1 n).bind fun q2=>if q2.2=0 then ((spec_l05Key.f account denom).bind fun q3=>(spec_l05Add.f k q2.1 q3 n).bind fun q4=>if q4.2=0 then (some (q4.1,0)) else (some (list,q4.2))) else (some (list,q2.2))
set_option maxHeartbeats 4000000 in
set_option maxRecDepth 100000 in
theorem spec_l05Mint.calls (k:Nat) (A_list:Option Addr) (c_list:Nat) (list:List S51) (account:ByteArray) (denom:ByteArray) (n:Int) (r1:List S51) (r2:Int) (w:World) (hr0_list:Kd.C k51 w A_list list.length list) (hc0_list:list.length≤c_list) (h:spec_l05Mint.f k list account denom n=some (r1,r2)) :
  Calls Tryz.prog 98 #[.slice A_list list.length c_list,.string account,.string denom,.int .i64 n] w fun e w' => ∃ v0_:Value,e = .returned (.tuple #[v0_,.int .i64 r2])∧Sf w w' (.slice A_list list.length c_list) list v0_ r1∧Below w.heap.size w w':=by
 have HR0_list:=ζa hr0_list
 have HC0_list:=ζa hc0_list
 clear hr0_list hc0_list
 have HB0:=ζa (Below.refl w.heap.size w)
 unfold spec_l05Mint.f at h
 have HH:=ζa h
 clear h
 go_enter Tryz.func98,Tryz.ntmps98
 have h:=HH.out
 clear HH
 obtain ⟨k1,h1_,h⟩:=Option.bind_eq_some_iff.mp h
 have HH:=ζa h
 have H1:=ζa h1_
 clear h h1_
 go_wp2_with fail
 refine (spec_l05Supply.calls denom k1 _ H1.out).mono ?_
 rintro e w1 ⟨rfl,hd⟩
 have hb:=hd.below
 clear hd
 have m_:=ζa (δr (by repeat (first|exact HB0.out|apply δk|apply δj|apply δi)) hb)
 clear hb
 have HB1:=m_
 clear m_
 have h:=HH.out
 clear HH
 obtain ⟨⟨o1,c1⟩,h2_,h⟩:=Option.bind_eq_some_iff.mp h
 have HH:=ζa h
 have H2:=ζa h2_
 clear h h2_
 go_wp2_with fail
 refine (spec_l05Add.calls k A_list c_list list k1 n o1 c1 _ (by repeat (first|exact Kd.C_below HR0_list.out HB1.out|apply Kd.C_alloc|apply Kd.C_drew|apply Kd.C_drewN)) HC0_list.out H2.out).mono ?_
 rintro e w2 ⟨v2,rfl,ho,hb⟩
 have hsf:=Sf.trans (by exact ⟨Or.inl ⟨rfl,rfl⟩⟩) ho hb (Below.size (show Below w.heap.size w _ from by repeat (first|exact HB1.out|apply δk|apply δj|apply δi)))
 obtain ⟨adr2,cap2,rfl,hl2,hq2⟩:=Sf.reads ho (Kd.C_below HR0_list.out (δr (by repeat (first|exact HB1.out|apply δk|apply δj|apply δi)) hb)) HC0_list.out
 have HC2:=ζa hl2
 have HRn2:=ζa hq2
 have HS2:=ζa hsf
 clear hl2 hq2 ho hsf
 have m_:=ζa (δr (by repeat (first|exact HB1.out|apply δk|apply δj|apply δi)) hb)
 clear hb
 have HB2:=m_
 clear m_
 have h:=HH.out
 clear HH
 by_cases cc3:c1=0
 ·
  rw [if_pos cc3] at h
  have HH:=ζa h
  clear h
  have f3a:(c1 == 0)=τ:=beq_iff_eq.mpr cc3
  have f3b:(c1 != 0)=φ:=bne_eq_false_iff_eq.mpr cc3
  have C3:=ζa cc3
  clear cc3
  have h:=HH.out
  clear HH
  obtain ⟨k2,h4_,h⟩:=Option.bind_eq_some_iff.mp h
  have HH:=ζa h
  have H4:=ζa h4_
  clear h h4_
  go_wp2_with fail
  refine (spec_l05Key.calls account denom k2 _ H4.out).mono ?_
  rintro e w4 ⟨rfl,hd⟩
  have hb:=hd.below
  clear hd
  have m_:=ζa (Kd.C_below (by repeat (first|exact HRn2.out|apply Kd.C_alloc|apply Kd.C_drew|apply Kd.C_drewN)) hb)
  clear HRn2
  have HRn2:=m_
  clear m_
  have m_:=ζa (Sf.below (by repeat (first|exact HS2.out|apply Sf.alloc|apply Sf.drew|apply Sf.drewN)) hb)
  clear HS2
  have HS2:=m_
  clear m_
  have m_:=ζa (δr (by repeat (first|exact HB2.out|apply δk|apply δj|apply δi)) hb)
  clear hb
  have HB4:=m_
  clear m_
  have h:=HH.out
  clear HH
  obtain ⟨⟨o2,c2⟩,h5_,h⟩:=Option.bind_eq_some_iff.mp h
  have HH:=ζa h
  have H5:=ζa h5_
  clear h h5_
  go_wp2_with fail
  refine (spec_l05Add.calls k adr2 cap2 o1 k2 n o2 c2 _ (by repeat (first|exact HRn2.out|apply Kd.C_alloc|apply Kd.C_drew|apply Kd.C_drewN)) HC2.out H5.out).mono ?_
  rintro e w5 ⟨v5,rfl,ho,hb⟩
  have hsf:=Sf.trans (by repeat (first|exact HS2.out|apply Sf.alloc|apply Sf.drew|apply Sf.drewN)) ho hb (Below.size (show Below w.heap.size w _ from by repeat (first|exact HB4.out|apply δk|apply δj|apply δi)))
  have m_:=ζa (Kd.C_below (by repeat (first|exact HRn2.out|apply Kd.C_alloc|apply Kd.C_drew|apply Kd.C_drewN)) hb)
  clear HRn2
  have HRn2:=m_
  clear m_
  have m_:=ζa (Sf.below (by repeat (first|exact HS2.out|apply Sf.alloc|apply Sf.drew|apply Sf.drewN)) hb)
  clear HS2
  have HS2:=m_
  clear m_
  obtain ⟨adr5,cap5,rfl,hl5,hq5⟩:=Sf.reads ho (HRn2.out) HC2.out
  have HC5:=ζa hl5
  have HRn5:=ζa hq5
  have HS5:=ζa hsf
  clear hl5 hq5 ho hsf
  have m_:=ζa (δr (by repeat (first|exact HB4.out|apply δk|apply δj|apply δi)) hb)
  clear hb
  have HB5:=m_
  clear m_
  have h:=HH.out
  clear HH
  by_cases cc6:c2=0
  ·
   rw [if_pos cc6] at h
   have HH:=ζa h
   clear h
   have f6a:(c2 == 0)=τ:=beq_iff_eq.mpr cc6
   have f6b:(c2 != 0)=φ:=bne_eq_false_iff_eq.mpr cc6
   have C6:=ζa cc6
   clear cc6
   have h:=HH.out
   clear HH
   simp only [Option.some.injEq,Prod.mk.injEq] at h
   obtain ⟨rfl,rfl⟩:=h
   go_wp2
   go_ret2
   exact ⟨_,rfl,(by repeat (first|exact HS5.out|apply Sf.alloc|apply Sf.drew|apply Sf.drewN)),(by repeat (first|exact HB5.out|apply δk|apply δj|apply δi))⟩
  ·
   rw [if_neg cc6] at h
   have HH:=ζa h
   clear h
   have f6a:(c2 == 0)=φ:=beq_eq_false_iff_ne.mpr cc6
   have f6b:(c2 != 0)=τ:=bne_iff_ne.mpr cc6
   have C6:=ζa cc6
   clear cc6
   have h:=HH.out
   clear HH
   simp only [Option.some.injEq,Prod.mk.injEq] at h
   obtain ⟨rfl,rfl⟩:=h
   go_wp2
   go_ret2
   exact ⟨_,rfl,⟨Or.inl ⟨rfl,rfl⟩⟩,(by repeat (first|exact HB5.out|apply δk|apply δj|apply δi))⟩
 ·
  rw [if_neg cc3] at h
  have HH:=ζa h
  clear h
  have f3a:(c1 == 0)=φ:=beq_eq_false_iff_ne.mpr cc3
  have f3b:(c1 != 0)=τ:=bne_iff_ne.mpr cc3
  have C3:=ζa cc3
  clear cc3
  have h:=HH.out
  clear HH
  simp only [Option.some.injEq,Prod.mk.injEq] at h
  obtain ⟨rfl,rfl⟩:=h
  go_wp2
  go_ret2
  exact ⟨_,rfl,⟨Or.inl ⟨rfl,rfl⟩⟩,(by repeat (first|exact HB2.out|apply δk|apply δj|apply δi))⟩

end Go.Proofs.YtabmfhnhmoiljaaGreatDoor.Q
