/- Parts of the proof: what single Go functions compute, each with its walk, and plain laws over these. -/
import Derived.Test.YtabmfhnhmoiljaaGreatDoorM0
import Derived.Test.YtabmfhnhmoiljaaGreatDoorM2
namespace Go.Proofs.YtabmfhnhmoiljaaGreatDoor.Q
open Go.RowKit Go.Proofs.YtabmfhnhmoiljaaGreatDoorW.PrintWords Go.Proofs.YtabmfhnhmoiljaaGreatDoorW.PrintLast Go.Proofs.YtabmfhnhmoiljaaGreatDoorW.PrintMore
open Go.RowKit renaming wrap64 → ζm
open Go.Proofs.YtabmfhnhmoiljaaGreatDoorW.PrintWords.Aside0 renaming mk → ζa
open Go.Proofs.YtabmfhnhmoiljaaGreatDoorW.PrintWords renaming gate_callee → δv
open List renaming map_toArray → δd, map_cons → δe, map_nil → δf, length_drop → δg, length_take → δh
open Bool renaming true → τ, false → φ
attribute [local go_sem] max2_int min2_int max_two min_two max_three min_three max_four min_four   -- for this text's walks alone
set_option linter.unusedVariables false
set_option linter.unusedSimpArgs false

/-! ### impl_NameOK: function 169 -/
def impl_NameOK.l0:Nat→ByteArray→Int→Int→Option (Bool)
 | 0,_,_,_=>none
 | k+1,x0,x7,x8=>if x8<x7 then (if 0≤x8 then (if x8<(x0.size:Int) then (if (bt x0 x8) ≥ 97 then (if (bt x0 x8)≤122 then (impl_NameOK.l0 k x0 x7 (ζm (x8+1))) else (if (bt x0 x8) ≥ 65 then (if (bt x0 x8)≤90 then (impl_NameOK.l0 k x0 x7 (ζm (x8+1))) else (if ((bt x0 x8)=95) then (impl_NameOK.l0 k x0 x7 (ζm (x8+1))) else (if x8=0 then (some φ) else (if (bt x0 x8)<48 then (some φ) else (if (bt x0 x8) > 57 then (some φ) else (impl_NameOK.l0 k x0 x7 (ζm (x8+1)))))))) else (if ((bt x0 x8)=95) then (impl_NameOK.l0 k x0 x7 (ζm (x8+1))) else (if x8=0 then (some φ) else (if (bt x0 x8)<48 then (some φ) else (if (bt x0 x8) > 57 then (some φ) else (impl_NameOK.l0 k x0 x7 (ζm (x8+1))))))))) else (if (bt x0 x8) ≥ 65 then (if (bt x0 x8)≤90 then (impl_NameOK.l0 k x0 x7 (ζm (x8+1))) else (if ((bt x0 x8)=95) then (impl_NameOK.l0 k x0 x7 (ζm (x8+1))) else (if x8=0 then (some φ) else (if (bt x0 x8)<48 then (some φ) else (if (bt x0 x8) > 57 then (some φ) else (impl_NameOK.l0 k x0 x7 (ζm (x8+1)))))))) else (if ((bt x0 x8)=95) then (impl_NameOK.l0 k x0 x7 (ζm (x8+1))) else (if x8=0 then (some φ) else (if (bt x0 x8)<48 then (some φ) else (if (bt x0 x8) > 57 then (some φ) else (impl_NameOK.l0 k x0 x7 (ζm (x8+1))))))))) else (none)) else (none)) else ((impl_within.f (x0.size:Int) 1 40).bind fun t161=>(some t161))
def impl_NameOK.f (k:Nat) (a0:ByteArray):Option (Bool):=impl_NameOK.l0 k a0 (a0.size:Int) 0
set_option maxHeartbeats 8000000 in
set_option maxRecDepth 100000 in
theorem impl_NameOK.calls (k:Nat) (a0:ByteArray) (r:Bool) (w:World) (h:impl_NameOK.f k a0=some r) :
  Calls Tryz.prog 169 #[.string a0] w fun e w'=>e = .returned (.bool r)∧Drawn0 w w':=by
 have H:(impl_NameOK.l0 k a0 (a0.size:Int) 0)=some r:=h
 clear h
 have H':=ζa H
 clear H
 go_enter Tryz.func169,Tryz.ntmps169
 go_wp2
 go_loopg [8] k (fun kq v8 w' => ∃ (x8_1:Int),v8 = .int .i64 x8_1∧Aside0 (impl_NameOK.l0 kq a0 (a0.size:Int) x8_1=some r)∧Aside0 (kq≤k)∧Drawn0 w w')
 case atStart=>exact ⟨(0),(by first|rfl|(simp;done)|(simp [*];done)),H',⟨Nat.le_refl _⟩,by repeat (first|exact Drawn0.refl _|apply Drawn0.step)⟩
 case round =>
  clear H'
  try clear c1
  obtain ⟨x8_1,rfl,HA,HK1,⟨m1,rfl⟩⟩:=hrel
  cases gk with
  | zero=>exact absurd HA.out (by simp [impl_NameOK.l0])
  | succ k1 =>
   have H:=HA.out
   clear HA
   simp only [impl_NameOK.l0] at H
   by_cases c2:x8_1<(a0.size:Int)
   ·
    rw [if_pos c2] at H
    have c2b0:decide (x8_1<(a0.size:Int))=τ:=decide_eq_true c2
    clear c2
    by_cases c3:0≤x8_1
    ·
     rw [if_pos c3] at H
     have c3b0:decide (0≤x8_1)=τ:=decide_eq_true c3
     clear c3
     by_cases c4:x8_1<(a0.size:Int)
     ·
      rw [if_pos c4] at H
      have c4b0:decide (x8_1<(a0.size:Int))=τ:=decide_eq_true c4
      clear c4
      by_cases c6:(bt a0 x8_1) ≥ 97
      ·
       rw [if_pos c6] at H
       have c6b0:decide (97≤(bt a0 x8_1))=τ:=decide_eq_true c6
       clear c6
       by_cases c7:(bt a0 x8_1)≤122
       ·
        rw [if_pos c7] at H
        have c7b0:decide ((bt a0 x8_1)≤122)=τ:=decide_eq_true c7
        clear c7
        have H':=ζa H
        clear H
        have p5:0≤(x8_1:Int):=of_decide_eq_true (by first|(with_reducible assumption)|assumption)
        have q5:x8_1<(a0.size:Int):=of_decide_eq_true (by first|(with_reducible assumption)|assumption)
        have hx5:=bt_at a0 x8_1
        replace p5:=eq_true p5
        replace q5:=eq_true q5
        go_wp2
        go_roundg k1
        case measure=>have:=HK1.out;omega
        case rel=>exact ⟨(ζm (x8_1+1)),(by first|rfl|(simp;done)|(simp [*];done)),H',⟨by have:=HK1.out;omega⟩,by repeat (first|exact Drawn0.refl _|apply Drawn0.step)⟩
       ·
        rw [if_neg c7] at H
        have c7b0:decide ((bt a0 x8_1)≤122)=φ:=decide_eq_false c7
        clear c7
        by_cases c8:(bt a0 x8_1) ≥ 65
        ·
         rw [if_pos c8] at H
         have c8b0:decide (65≤(bt a0 x8_1))=τ:=decide_eq_true c8
         clear c8
         by_cases c9:(bt a0 x8_1)≤90
         ·
          rw [if_pos c9] at H
          have c9b0:decide ((bt a0 x8_1)≤90)=τ:=decide_eq_true c9
          clear c9
          have H':=ζa H
          clear H
          have p5:0≤(x8_1:Int):=of_decide_eq_true (by first|(with_reducible assumption)|assumption)
          have q5:x8_1<(a0.size:Int):=of_decide_eq_true (by first|(with_reducible assumption)|assumption)
          have hx5:=bt_at a0 x8_1
          replace p5:=eq_true p5
          replace q5:=eq_true q5
          go_wp2
          go_roundg k1
          case measure=>have:=HK1.out;omega
          case rel=>exact ⟨(ζm (x8_1+1)),(by first|rfl|(simp;done)|(simp [*];done)),H',⟨by have:=HK1.out;omega⟩,by repeat (first|exact Drawn0.refl _|apply Drawn0.step)⟩
         ·
          rw [if_neg c9] at H
          have c9b0:decide ((bt a0 x8_1)≤90)=φ:=decide_eq_false c9
          clear c9
          by_cases c10:((bt a0 x8_1)=95)
          ·
           rw [if_pos c10] at H
           have c10b0:((bt a0 x8_1) == 95)=τ:=beq_iff_eq.mpr c10
           have c10b1:((bt a0 x8_1) != 95)=φ:=bne_eq_false_iff_eq.mpr c10
           clear c10
           have H':=ζa H
           clear H
           have p5:0≤(x8_1:Int):=of_decide_eq_true (by first|(with_reducible assumption)|assumption)
           have q5:x8_1<(a0.size:Int):=of_decide_eq_true (by first|(with_reducible assumption)|assumption)
           have hx5:=bt_at a0 x8_1
           replace p5:=eq_true p5
           replace q5:=eq_true q5
           go_wp2
           go_roundg k1
           case measure=>have:=HK1.out;omega
           case rel=>exact ⟨(ζm (x8_1+1)),(by first|rfl|(simp;done)|(simp [*];done)),H',⟨by have:=HK1.out;omega⟩,by repeat (first|exact Drawn0.refl _|apply Drawn0.step)⟩
          ·
           rw [if_neg c10] at H
           have c10b0:((bt a0 x8_1) == 95)=φ:=beq_eq_false_iff_ne.mpr c10
           have c10b1:((bt a0 x8_1) != 95)=τ:=bne_iff_ne.mpr c10
           by_cases c11:x8_1=0
           ·
            rw [if_pos c11] at H
            have c11b0:(x8_1 == 0)=τ:=beq_iff_eq.mpr c11
            have c11b1:(x8_1 != 0)=φ:=bne_eq_false_iff_eq.mpr c11
            clear c11
            obtain rfl:=Option.some.inj H
            have p5:0≤(x8_1:Int):=of_decide_eq_true (by first|(with_reducible assumption)|assumption)
            have q5:x8_1<(a0.size:Int):=of_decide_eq_true (by first|(with_reducible assumption)|assumption)
            have hx5:=bt_at a0 x8_1
            replace p5:=eq_true p5
            replace q5:=eq_true q5
            go_wp2
            go_ret
            exact ⟨by first|rfl|(simp;done)|(simp [*];done),by repeat (first|exact Drawn0.refl _|apply Drawn0.step)⟩
           ·
            rw [if_neg c11] at H
            have c11b0:(x8_1 == 0)=φ:=beq_eq_false_iff_ne.mpr c11
            have c11b1:(x8_1 != 0)=τ:=bne_iff_ne.mpr c11
            by_cases c12:(bt a0 x8_1)<48
            ·
             rw [if_pos c12] at H
             have c12b0:decide ((bt a0 x8_1)<48)=τ:=decide_eq_true c12
             clear c12
             obtain rfl:=Option.some.inj H
             have p5:0≤(x8_1:Int):=of_decide_eq_true (by first|(with_reducible assumption)|assumption)
             have q5:x8_1<(a0.size:Int):=of_decide_eq_true (by first|(with_reducible assumption)|assumption)
             have hx5:=bt_at a0 x8_1
             replace p5:=eq_true p5
             replace q5:=eq_true q5
             go_wp2
             go_ret
             exact ⟨by first|rfl|(simp;done)|(simp [*];done),by repeat (first|exact Drawn0.refl _|apply Drawn0.step)⟩
            ·
             rw [if_neg c12] at H
             have c12b0:decide ((bt a0 x8_1)<48)=φ:=decide_eq_false c12
             clear c12
             by_cases c13:(bt a0 x8_1) > 57
             ·
              rw [if_pos c13] at H
              have c13b0:decide (57<(bt a0 x8_1))=τ:=decide_eq_true c13
              clear c13
              obtain rfl:=Option.some.inj H
              have p5:0≤(x8_1:Int):=of_decide_eq_true (by first|(with_reducible assumption)|assumption)
              have q5:x8_1<(a0.size:Int):=of_decide_eq_true (by first|(with_reducible assumption)|assumption)
              have hx5:=bt_at a0 x8_1
              replace p5:=eq_true p5
              replace q5:=eq_true q5
              go_wp2
              go_ret
              exact ⟨by first|rfl|(simp;done)|(simp [*];done),by repeat (first|exact Drawn0.refl _|apply Drawn0.step)⟩
             ·
              rw [if_neg c13] at H
              have c13b0:decide (57<(bt a0 x8_1))=φ:=decide_eq_false c13
              clear c13
              have H':=ζa H
              clear H
              have p5:0≤(x8_1:Int):=of_decide_eq_true (by first|(with_reducible assumption)|assumption)
              have q5:x8_1<(a0.size:Int):=of_decide_eq_true (by first|(with_reducible assumption)|assumption)
              have hx5:=bt_at a0 x8_1
              replace p5:=eq_true p5
              replace q5:=eq_true q5
              go_wp2
              go_roundg k1
              case measure=>have:=HK1.out;omega
              case rel=>exact ⟨(ζm (x8_1+1)),(by first|rfl|(simp;done)|(simp [*];done)),H',⟨by have:=HK1.out;omega⟩,by repeat (first|exact Drawn0.refl _|apply Drawn0.step)⟩
        ·
         rw [if_neg c8] at H
         have c8b0:decide (65≤(bt a0 x8_1))=φ:=decide_eq_false c8
         clear c8
         by_cases c14:((bt a0 x8_1)=95)
         ·
          rw [if_pos c14] at H
          have c14b0:((bt a0 x8_1) == 95)=τ:=beq_iff_eq.mpr c14
          have c14b1:((bt a0 x8_1) != 95)=φ:=bne_eq_false_iff_eq.mpr c14
          clear c14
          have H':=ζa H
          clear H
          have p5:0≤(x8_1:Int):=of_decide_eq_true (by first|(with_reducible assumption)|assumption)
          have q5:x8_1<(a0.size:Int):=of_decide_eq_true (by first|(with_reducible assumption)|assumption)
          have hx5:=bt_at a0 x8_1
          replace p5:=eq_true p5
          replace q5:=eq_true q5
          go_wp2
          go_roundg k1
          case measure=>have:=HK1.out;omega
          case rel=>exact ⟨(ζm (x8_1+1)),(by first|rfl|(simp;done)|(simp [*];done)),H',⟨by have:=HK1.out;omega⟩,by repeat (first|exact Drawn0.refl _|apply Drawn0.step)⟩
         ·
          rw [if_neg c14] at H
          have c14b0:((bt a0 x8_1) == 95)=φ:=beq_eq_false_iff_ne.mpr c14
          have c14b1:((bt a0 x8_1) != 95)=τ:=bne_iff_ne.mpr c14
          by_cases c15:x8_1=0
          ·
           rw [if_pos c15] at H
           have c15b0:(x8_1 == 0)=τ:=beq_iff_eq.mpr c15
           have c15b1:(x8_1 != 0)=φ:=bne_eq_false_iff_eq.mpr c15
           clear c15
           obtain rfl:=Option.some.inj H
           have p5:0≤(x8_1:Int):=of_decide_eq_true (by first|(with_reducible assumption)|assumption)
           have q5:x8_1<(a0.size:Int):=of_decide_eq_true (by first|(with_reducible assumption)|assumption)
           have hx5:=bt_at a0 x8_1
           replace p5:=eq_true p5
           replace q5:=eq_true q5
           go_wp2
           go_ret
           exact ⟨by first|rfl|(simp;done)|(simp [*];done),by repeat (first|exact Drawn0.refl _|apply Drawn0.step)⟩
          ·
           rw [if_neg c15] at H
           have c15b0:(x8_1 == 0)=φ:=beq_eq_false_iff_ne.mpr c15
           have c15b1:(x8_1 != 0)=τ:=bne_iff_ne.mpr c15
           by_cases c16:(bt a0 x8_1)<48
           ·
            rw [if_pos c16] at H
            have c16b0:decide ((bt a0 x8_1)<48)=τ:=decide_eq_true c16
            clear c16
            obtain rfl:=Option.some.inj H
            have p5:0≤(x8_1:Int):=of_decide_eq_true (by first|(with_reducible assumption)|assumption)
            have q5:x8_1<(a0.size:Int):=of_decide_eq_true (by first|(with_reducible assumption)|assumption)
            have hx5:=bt_at a0 x8_1
            replace p5:=eq_true p5
            replace q5:=eq_true q5
            go_wp2
            go_ret
            exact ⟨by first|rfl|(simp;done)|(simp [*];done),by repeat (first|exact Drawn0.refl _|apply Drawn0.step)⟩
           ·
            rw [if_neg c16] at H
            have c16b0:decide ((bt a0 x8_1)<48)=φ:=decide_eq_false c16
            clear c16
            by_cases c17:(bt a0 x8_1) > 57
            ·
             rw [if_pos c17] at H
             have c17b0:decide (57<(bt a0 x8_1))=τ:=decide_eq_true c17
             clear c17
             obtain rfl:=Option.some.inj H
             have p5:0≤(x8_1:Int):=of_decide_eq_true (by first|(with_reducible assumption)|assumption)
             have q5:x8_1<(a0.size:Int):=of_decide_eq_true (by first|(with_reducible assumption)|assumption)
             have hx5:=bt_at a0 x8_1
             replace p5:=eq_true p5
             replace q5:=eq_true q5
             go_wp2
             go_ret
             exact ⟨by first|rfl|(simp;done)|(simp [*];done),by repeat (first|exact Drawn0.refl _|apply Drawn0.step)⟩
            ·
             rw [if_neg c17] at H
             have c17b0:decide (57<(bt a0 x8_1))=φ:=decide_eq_false c17
             clear c17
             have H':=ζa H
             clear H
             have p5:0≤(x8_1:Int):=of_decide_eq_true (by first|(with_reducible assumption)|assumption)
             have q5:x8_1<(a0.size:Int):=of_decide_eq_true (by first|(with_reducible assumption)|assumption)
             have hx5:=bt_at a0 x8_1
             replace p5:=eq_true p5
             replace q5:=eq_true q5
             go_wp2
             go_roundg k1
             case measure=>have:=HK1.out;omega
             case rel=>exact ⟨(ζm (x8_1+1)),(by first|rfl|(simp;done)|(simp [*];done)),H',⟨by have:=HK1.out;omega⟩,by repeat (first|exact Drawn0.refl _|apply Drawn0.step)⟩
      ·
       rw [if_neg c6] at H
       have c6b0:decide (97≤(bt a0 x8_1))=φ:=decide_eq_false c6
       clear c6
       by_cases c18:(bt a0 x8_1) ≥ 65
       ·
        rw [if_pos c18] at H
        have c18b0:decide (65≤(bt a0 x8_1))=τ:=decide_eq_true c18
        clear c18
        by_cases c19:(bt a0 x8_1)≤90
        ·
         rw [if_pos c19] at H
         have c19b0:decide ((bt a0 x8_1)≤90)=τ:=decide_eq_true c19
         clear c19
         have H':=ζa H
         clear H
         have p5:0≤(x8_1:Int):=of_decide_eq_true (by first|(with_reducible assumption)|assumption)
         have q5:x8_1<(a0.size:Int):=of_decide_eq_true (by first|(with_reducible assumption)|assumption)
         have hx5:=bt_at a0 x8_1
         replace p5:=eq_true p5
         replace q5:=eq_true q5
         go_wp2
         go_roundg k1
         case measure=>have:=HK1.out;omega
         case rel=>exact ⟨(ζm (x8_1+1)),(by first|rfl|(simp;done)|(simp [*];done)),H',⟨by have:=HK1.out;omega⟩,by repeat (first|exact Drawn0.refl _|apply Drawn0.step)⟩
        ·
         rw [if_neg c19] at H
         have c19b0:decide ((bt a0 x8_1)≤90)=φ:=decide_eq_false c19
         clear c19
         by_cases c20:((bt a0 x8_1)=95)
         ·
          rw [if_pos c20] at H
          have c20b0:((bt a0 x8_1) == 95)=τ:=beq_iff_eq.mpr c20
          have c20b1:((bt a0 x8_1) != 95)=φ:=bne_eq_false_iff_eq.mpr c20
          clear c20
          have H':=ζa H
          clear H
          have p5:0≤(x8_1:Int):=of_decide_eq_true (by first|(with_reducible assumption)|assumption)
          have q5:x8_1<(a0.size:Int):=of_decide_eq_true (by first|(with_reducible assumption)|assumption)
          have hx5:=bt_at a0 x8_1
          replace p5:=eq_true p5
          replace q5:=eq_true q5
          go_wp2
          go_roundg k1
          case measure=>have:=HK1.out;omega
          case rel=>exact ⟨(ζm (x8_1+1)),(by first|rfl|(simp;done)|(simp [*];done)),H',⟨by have:=HK1.out;omega⟩,by repeat (first|exact Drawn0.refl _|apply Drawn0.step)⟩
         ·
          rw [if_neg c20] at H
          have c20b0:((bt a0 x8_1) == 95)=φ:=beq_eq_false_iff_ne.mpr c20
          have c20b1:((bt a0 x8_1) != 95)=τ:=bne_iff_ne.mpr c20
          by_cases c21:x8_1=0
          ·
           rw [if_pos c21] at H
           have c21b0:(x8_1 == 0)=τ:=beq_iff_eq.mpr c21
           have c21b1:(x8_1 != 0)=φ:=bne_eq_false_iff_eq.mpr c21
           clear c21
           obtain rfl:=Option.some.inj H
           have p5:0≤(x8_1:Int):=of_decide_eq_true (by first|(with_reducible assumption)|assumption)
           have q5:x8_1<(a0.size:Int):=of_decide_eq_true (by first|(with_reducible assumption)|assumption)
           have hx5:=bt_at a0 x8_1
           replace p5:=eq_true p5
           replace q5:=eq_true q5
           go_wp2
           go_ret
           exact ⟨by first|rfl|(simp;done)|(simp [*];done),by repeat (first|exact Drawn0.refl _|apply Drawn0.step)⟩
          ·
           rw [if_neg c21] at H
           have c21b0:(x8_1 == 0)=φ:=beq_eq_false_iff_ne.mpr c21
           have c21b1:(x8_1 != 0)=τ:=bne_iff_ne.mpr c21
           by_cases c22:(bt a0 x8_1)<48
           ·
            rw [if_pos c22] at H
            have c22b0:decide ((bt a0 x8_1)<48)=τ:=decide_eq_true c22
            clear c22
            obtain rfl:=Option.some.inj H
            have p5:0≤(x8_1:Int):=of_decide_eq_true (by first|(with_reducible assumption)|assumption)
            have q5:x8_1<(a0.size:Int):=of_decide_eq_true (by first|(with_reducible assumption)|assumption)
            have hx5:=bt_at a0 x8_1
            replace p5:=eq_true p5
            replace q5:=eq_true q5
            go_wp2
            go_ret
            exact ⟨by first|rfl|(simp;done)|(simp [*];done),by repeat (first|exact Drawn0.refl _|apply Drawn0.step)⟩
           ·
            rw [if_neg c22] at H
            have c22b0:decide ((bt a0 x8_1)<48)=φ:=decide_eq_false c22
            clear c22
            by_cases c23:(bt a0 x8_1) > 57
            ·
             rw [if_pos c23] at H
             have c23b0:decide (57<(bt a0 x8_1))=τ:=decide_eq_true c23
             clear c23
             obtain rfl:=Option.some.inj H
             have p5:0≤(x8_1:Int):=of_decide_eq_true (by first|(with_reducible assumption)|assumption)
             have q5:x8_1<(a0.size:Int):=of_decide_eq_true (by first|(with_reducible assumption)|assumption)
             have hx5:=bt_at a0 x8_1
             replace p5:=eq_true p5
             replace q5:=eq_true q5
             go_wp2
             go_ret
             exact ⟨by first|rfl|(simp;done)|(simp [*];done),by repeat (first|exact Drawn0.refl _|apply Drawn0.step)⟩
            ·
             rw [if_neg c23] at H
             have c23b0:decide (57<(bt a0 x8_1))=φ:=decide_eq_false c23
             clear c23
             have H':=ζa H
             clear H
             have p5:0≤(x8_1:Int):=of_decide_eq_true (by first|(with_reducible assumption)|assumption)
             have q5:x8_1<(a0.size:Int):=of_decide_eq_true (by first|(with_reducible assumption)|assumption)
             have hx5:=bt_at a0 x8_1
             replace p5:=eq_true p5
             replace q5:=eq_true q5
             go_wp2
             go_roundg k1
             case measure=>have:=HK1.out;omega
             case rel=>exact ⟨(ζm (x8_1+1)),(by first|rfl|(simp;done)|(simp [*];done)),H',⟨by have:=HK1.out;omega⟩,by repeat (first|exact Drawn0.refl _|apply Drawn0.step)⟩
       ·
        rw [if_neg c18] at H
        have c18b0:decide (65≤(bt a0 x8_1))=φ:=decide_eq_false c18
        clear c18
        by_cases c24:((bt a0 x8_1)=95)
        ·
         rw [if_pos c24] at H
         have c24b0:((bt a0 x8_1) == 95)=τ:=beq_iff_eq.mpr c24
         have c24b1:((bt a0 x8_1) != 95)=φ:=bne_eq_false_iff_eq.mpr c24
         clear c24
         have H':=ζa H
         clear H
         have p5:0≤(x8_1:Int):=of_decide_eq_true (by first|(with_reducible assumption)|assumption)
         have q5:x8_1<(a0.size:Int):=of_decide_eq_true (by first|(with_reducible assumption)|assumption)
         have hx5:=bt_at a0 x8_1
         replace p5:=eq_true p5
         replace q5:=eq_true q5
         go_wp2
         go_roundg k1
         case measure=>have:=HK1.out;omega
         case rel=>exact ⟨(ζm (x8_1+1)),(by first|rfl|(simp;done)|(simp [*];done)),H',⟨by have:=HK1.out;omega⟩,by repeat (first|exact Drawn0.refl _|apply Drawn0.step)⟩
        ·
         rw [if_neg c24] at H
         have c24b0:((bt a0 x8_1) == 95)=φ:=beq_eq_false_iff_ne.mpr c24
         have c24b1:((bt a0 x8_1) != 95)=τ:=bne_iff_ne.mpr c24
         by_cases c25:x8_1=0
         ·
          rw [if_pos c25] at H
          have c25b0:(x8_1 == 0)=τ:=beq_iff_eq.mpr c25
          have c25b1:(x8_1 != 0)=φ:=bne_eq_false_iff_eq.mpr c25
          clear c25
          obtain rfl:=Option.some.inj H
          have p5:0≤(x8_1:Int):=of_decide_eq_true (by first|(with_reducible assumption)|assumption)
          have q5:x8_1<(a0.size:Int):=of_decide_eq_true (by first|(with_reducible assumption)|assumption)
          have hx5:=bt_at a0 x8_1
          replace p5:=eq_true p5
          replace q5:=eq_true q5
          go_wp2
          go_ret
          exact ⟨by first|rfl|(simp;done)|(simp [*];done),by repeat (first|exact Drawn0.refl _|apply Drawn0.step)⟩
         ·
          rw [if_neg c25] at H
          have c25b0:(x8_1 == 0)=φ:=beq_eq_false_iff_ne.mpr c25
          have c25b1:(x8_1 != 0)=τ:=bne_iff_ne.mpr c25
          by_cases c26:(bt a0 x8_1)<48
          ·
           rw [if_pos c26] at H
           have c26b0:decide ((bt a0 x8_1)<48)=τ:=decide_eq_true c26
           clear c26
           obtain rfl:=Option.some.inj H
           have p5:0≤(x8_1:Int):=of_decide_eq_true (by first|(with_reducible assumption)|assumption)
           have q5:x8_1<(a0.size:Int):=of_decide_eq_true (by first|(with_reducible assumption)|assumption)
           have hx5:=bt_at a0 x8_1
           replace p5:=eq_true p5
           replace q5:=eq_true q5
           go_wp2
           go_ret
           exact ⟨by first|rfl|(simp;done)|(simp [*];done),by repeat (first|exact Drawn0.refl _|apply Drawn0.step)⟩
          ·
           rw [if_neg c26] at H
           have c26b0:decide ((bt a0 x8_1)<48)=φ:=decide_eq_false c26
           clear c26
           by_cases c27:(bt a0 x8_1) > 57
           ·
            rw [if_pos c27] at H
            have c27b0:decide (57<(bt a0 x8_1))=τ:=decide_eq_true c27
            clear c27
            obtain rfl:=Option.some.inj H
            have p5:0≤(x8_1:Int):=of_decide_eq_true (by first|(with_reducible assumption)|assumption)
            have q5:x8_1<(a0.size:Int):=of_decide_eq_true (by first|(with_reducible assumption)|assumption)
            have hx5:=bt_at a0 x8_1
            replace p5:=eq_true p5
            replace q5:=eq_true q5
            go_wp2
            go_ret
            exact ⟨by first|rfl|(simp;done)|(simp [*];done),by repeat (first|exact Drawn0.refl _|apply Drawn0.step)⟩
           ·
            rw [if_neg c27] at H
            have c27b0:decide (57<(bt a0 x8_1))=φ:=decide_eq_false c27
            clear c27
            have H':=ζa H
            clear H
            have p5:0≤(x8_1:Int):=of_decide_eq_true (by first|(with_reducible assumption)|assumption)
            have q5:x8_1<(a0.size:Int):=of_decide_eq_true (by first|(with_reducible assumption)|assumption)
            have hx5:=bt_at a0 x8_1
            replace p5:=eq_true p5
            replace q5:=eq_true q5
            go_wp2
            go_roundg k1
            case measure=>have:=HK1.out;omega
            case rel=>exact ⟨(ζm (x8_1+1)),(by first|rfl|(simp;done)|(simp [*];done)),H',⟨by have:=HK1.out;omega⟩,by repeat (first|exact Drawn0.refl _|apply Drawn0.step)⟩
     ·
      rw [if_neg c4] at H
      exact absurd H (by simp)
    ·
     rw [if_neg c3] at H
     exact absurd H (by simp)
   ·
    rw [if_neg c2] at H
    have c2b0:decide (x8_1<(a0.size:Int))=φ:=decide_eq_false c2
    clear c2
    replace H:=Option.bind_eq_some_iff.mp H
    obtain ⟨t161,A280,H⟩:=H
    replace H:(some t161)=some r:=H
    have A28:=ζa A280
    clear A280
    obtain rfl:=Option.some.inj H
    go_wp2_with (first|((with_reducible refine δv (f:=161) rfl ?_);refine goesL_ (some 49) rfl rfl Tryz.func161 (by kernel_rfl) rfl #[.int .i64 (a0.size:Int),.int .i64 1,.int .i64 40] rfl (by (try simp only [δd,δe,δf]);first|done|rfl|(simp only [δg,δh];rfl)) ?_;(with_reducible refine (impl_within.calls (a0.size:Int) 1 40 t161 _ A28.out).mono ?_);rintro e w' ⟨rfl,⟨nd,rfl⟩⟩;refine ⟨_,rfl,?_⟩))
    go_ret
    exact ⟨by first|rfl|(simp;done)|(simp [*];done),by repeat (first|exact Drawn0.refl _|apply Drawn0.step)⟩



/-! ### impl_DenomOK: function 114 -/
def impl_DenomOK.f (k:Nat) (a0:ByteArray):Option (Bool):=(impl_NameOK.f k a0).bind fun t162=>(if t162=τ then (some (decide ((a0.size:Int)≤12))) else (some φ))
set_option maxHeartbeats 8000000 in
set_option maxRecDepth 100000 in
theorem impl_DenomOK.calls (k:Nat) (a0:ByteArray) (r:Bool) (w:World) (h:impl_DenomOK.f k a0=some r) :
  Calls Tryz.prog 114 #[.string a0] w fun e w'=>e = .returned (.bool r)∧Drawn0 w w':=by
 have H:((impl_NameOK.f k a0).bind fun t162=>(if t162=τ then (some (decide ((a0.size:Int)≤12))) else (some φ)))=some r:=h
 clear h
 replace H:=Option.bind_eq_some_iff.mp H
 obtain ⟨t162,A20,H⟩:=H
 replace H:(if t162=τ then (some (decide ((a0.size:Int)≤12))) else (some φ))=some r:=H
 have A2:=ζa A20
 clear A20
 by_cases c3:t162=τ
 ·
  subst c3
  have H1:(some (decide ((a0.size:Int)≤12)))=some r:=by rw [if_pos rfl] at H;exact H
  clear H
  have H:=H1
  clear H1
  obtain rfl:=Option.some.inj H
  go_enter Tryz.func114,Tryz.ntmps114
  go_wp2_with (first|((with_reducible refine δv (f:=169) rfl ?_);refine goesL_ (some 4) rfl rfl Tryz.func169 (by kernel_rfl) rfl #[.string a0] rfl (by (try simp only [δd,δe,δf]);first|done|rfl|(simp only [δg,δh];rfl)) ?_;(with_reducible refine (impl_NameOK.calls k a0 τ _ A2.out).mono ?_);rintro e w' ⟨rfl,⟨nd,rfl⟩⟩;refine ⟨_,rfl,?_⟩))
  go_ret
  exact ⟨by first|rfl|(simp;done)|(simp [*];done),by repeat (first|exact Drawn0.refl _|apply Drawn0.step)⟩
 ·
  replace c3:=Bool.eq_false_iff.mpr c3
  subst c3
  have H1:(some φ)=some r:=by rw [if_neg (show ¬ (φ=τ) by decide)] at H;exact H
  clear H
  have H:=H1
  clear H1
  obtain rfl:=Option.some.inj H
  go_enter Tryz.func114,Tryz.ntmps114
  go_wp2_with (first|((with_reducible refine δv (f:=169) rfl ?_);refine goesL_ (some 4) rfl rfl Tryz.func169 (by kernel_rfl) rfl #[.string a0] rfl (by (try simp only [δd,δe,δf]);first|done|rfl|(simp only [δg,δh];rfl)) ?_;(with_reducible refine (impl_NameOK.calls k a0 φ _ A2.out).mono ?_);rintro e w' ⟨rfl,⟨nd,rfl⟩⟩;refine ⟨_,rfl,?_⟩))
  go_ret
  exact ⟨by first|rfl|(simp;done)|(simp [*];done),by repeat (first|exact Drawn0.refl _|apply Drawn0.step)⟩



/-! ### impl_areNames: function 63 -/
def impl_areNames.l0:Nat→List ByteArray→Int→Int→Option (Bool)
 | 0,_,_,_=>none
 | k+1,x5,x6,x7=>if x7<x6 then (if 0≤x7 then (if x7<(x5.length:Int) then ((impl_DenomOK.f k (rdOf ByteArray.empty x5 x7)).bind fun t164=>(if t164=τ then (impl_areNames.l0 k x5 x6 (ζm (x7+1))) else (some φ))) else (none)) else (none)) else (some τ)
def impl_areNames.f (k:Nat) (l0:List ByteArray):Option (Bool):=impl_areNames.l0 k l0 (l0.length:Int) 0
set_option maxHeartbeats 8000000 in
set_option maxRecDepth 100000 in
theorem impl_areNames.calls (k:Nat) (A0:Option Addr) (c0:Nat) (l0:List ByteArray) (r:Bool) (w:World) (hr0:Kd.C Kd.string w A0 l0.length l0) (hc0:l0.length≤c0) (h:impl_areNames.f k l0=some r) :
  Calls Tryz.prog 63 #[.slice A0 l0.length c0] w fun e w'=>e = .returned (.bool r)∧Drawn0 w w':=by
 have HR0:=ζa hr0
 have HC0:=ζa hc0
 clear hr0 hc0
 have H:(impl_areNames.l0 k l0 (l0.length:Int) 0)=some r:=h
 clear h
 have H':=ζa H
 clear H
 go_enter Tryz.func63,Tryz.ntmps63
 go_wp2
 go_loopg [7] k (fun kq v7 w' => ∃ (x7_1:Int),v7 = .int .i64 x7_1∧Aside0 (impl_areNames.l0 kq l0 (l0.length:Int) x7_1=some r)∧Aside0 (kq≤k)∧Drawn0 w w')
 case atStart=>exact ⟨(0),(by first|rfl|(simp;done)|(simp [*];done)),H',⟨Nat.le_refl _⟩,by repeat (first|exact Drawn0.refl _|apply Drawn0.step)⟩
 case round =>
  clear H'
  obtain ⟨x7_1,rfl,HA,HK1,⟨m1,rfl⟩⟩:=hrel
  cases gk with
  | zero=>exact absurd HA.out (by simp [impl_areNames.l0])
  | succ k1 =>
   have H:=HA.out
   clear HA
   simp only [impl_areNames.l0] at H
   by_cases c2:x7_1<(l0.length:Int)
   ·
    rw [if_pos c2] at H
    have c2b0:decide (x7_1<(l0.length:Int))=τ:=decide_eq_true c2
    clear c2
    by_cases c3:0≤x7_1
    ·
     rw [if_pos c3] at H
     have c3b0:decide (0≤x7_1)=τ:=decide_eq_true c3
     clear c3
     by_cases c4:x7_1<(l0.length:Int)
     ·
      rw [if_pos c4] at H
      have c4b0:decide (x7_1<(l0.length:Int))=τ:=decide_eq_true c4
      clear c4
      replace H:=Option.bind_eq_some_iff.mp H
      obtain ⟨t164,A50,H⟩:=H
      replace H:(if t164=τ then (impl_areNames.l0 k1 l0 (l0.length:Int) (ζm (x7_1+1))) else (some φ))=some r:=H
      have A5:=ζa A50
      clear A50
      by_cases c6:t164=τ
      ·
       subst c6
       have H1:(impl_areNames.l0 k1 l0 (l0.length:Int) (ζm (x7_1+1)))=some r:=by rw [if_pos rfl] at H;exact H
       clear H
       have H:=H1
       clear H1
       have H':=ζa H
       clear H
       have p163:0≤(x7_1:Int):=of_decide_eq_true (by first|(with_reducible assumption)|assumption)
       have q163:x7_1<(l0.length:Int):=of_decide_eq_true (by first|(with_reducible assumption)|assumption)
       obtain ⟨ad163,e163,hx163_0⟩:=Kd.at_string HR0.out x7_1 p163 q163
       cases e163
       replace p163:=eq_true p163
       replace q163:=eq_true q163
       go_wp2_with (first|((with_reducible refine δv (f:=114) rfl ?_);refine goesL_ (some 12) rfl rfl Tryz.func114 (by kernel_rfl) rfl #[.string (rdOf ByteArray.empty l0 x7_1)] rfl (by (try simp only [δd,δe,δf]);first|done|rfl|(simp only [δg,δh];rfl)) ?_;(with_reducible refine (impl_DenomOK.calls k1 (rdOf ByteArray.empty l0 x7_1) τ _ A5.out).mono ?_);rintro e w' ⟨rfl,⟨nd,rfl⟩⟩;refine ⟨_,rfl,?_⟩))
       go_roundg k1
       case measure=>have:=HK1.out;omega
       case rel=>exact ⟨(ζm (x7_1+1)),(by first|rfl|(simp;done)|(simp [*];done)),H',⟨by have:=HK1.out;omega⟩,by repeat (first|exact Drawn0.refl _|apply Drawn0.step)⟩
      ·
       replace c6:=Bool.eq_false_iff.mpr c6
       subst c6
       have H1:(some φ)=some r:=by rw [if_neg (show ¬ (φ=τ) by decide)] at H;exact H
       clear H
       have H:=H1
       clear H1
       obtain rfl:=Option.some.inj H
       have p163:0≤(x7_1:Int):=of_decide_eq_true (by first|(with_reducible assumption)|assumption)
       have q163:x7_1<(l0.length:Int):=of_decide_eq_true (by first|(with_reducible assumption)|assumption)
       obtain ⟨ad163,e163,hx163_0⟩:=Kd.at_string HR0.out x7_1 p163 q163
       cases e163
       replace p163:=eq_true p163
       replace q163:=eq_true q163
       go_wp2_with (first|((with_reducible refine δv (f:=114) rfl ?_);refine goesL_ (some 12) rfl rfl Tryz.func114 (by kernel_rfl) rfl #[.string (rdOf ByteArray.empty l0 x7_1)] rfl (by (try simp only [δd,δe,δf]);first|done|rfl|(simp only [δg,δh];rfl)) ?_;(with_reducible refine (impl_DenomOK.calls k1 (rdOf ByteArray.empty l0 x7_1) φ _ A5.out).mono ?_);rintro e w' ⟨rfl,⟨nd,rfl⟩⟩;refine ⟨_,rfl,?_⟩))
       go_ret
       exact ⟨by first|rfl|(simp;done)|(simp [*];done),by repeat (first|exact Drawn0.refl _|apply Drawn0.step)⟩
     ·
      rw [if_neg c4] at H
      exact absurd H (by simp)
    ·
     rw [if_neg c3] at H
     exact absurd H (by simp)
   ·
    rw [if_neg c2] at H
    have c2b0:decide (x7_1<(l0.length:Int))=φ:=decide_eq_false c2
    clear c2
    obtain rfl:=Option.some.inj H
    go_wp2
    go_ret
    exact ⟨by first|rfl|(simp;done)|(simp [*];done),by repeat (first|exact Drawn0.refl _|apply Drawn0.step)⟩



/-! ### impl_isPeople: function 121 -/
def impl_isPeople.bad (t:ByteArray):Bool:=t.toList == ([101,115,99,114,111,119]:List UInt8) || (t.toList == ([111,114,100,101,114,115]:List UInt8) || (t.toList == ([116,97,107,101,115]:List UInt8) || t.toList == ([112,111,111,108]:List UInt8)))
def impl_isPeople.f (k:Nat) (l0:List ByteArray):Option Bool:=(impl_areNames.f k l0).bind fun t=>if t=τ then some (!(l0.any impl_isPeople.bad)) else some φ
theorem impl_isPeople.lit (a0:ByteArray) (w:World) :
  Calls Tryz.prog 175 #[.string a0] w fun e w'=>e = .returned (.bool (impl_isPeople.bad a0))∧Drawn0 w w':=by
 unfold impl_isPeople.bad
 cases h1:(a0.toList == ([101,115,99,114,111,119]:List UInt8)) <;> cases h2:(a0.toList == ([111,114,100,101,114,115]:List UInt8)) <;> cases h3:(a0.toList == ([116,97,107,101,115]:List UInt8)) <;>
 ·
  go_enter Tryz.func175,Tryz.ntmps175
  go_wp2
  go_ret
  exact ⟨by first|rfl|(simp;done)|(simp [*];done),by repeat (first|exact Drawn0.refl _|apply Drawn0.step)⟩
theorem impl_isPeople.calls (k:Nat) (A0:Option Addr) (c0:Nat) (l0:List ByteArray) (r:Bool) (w:World) (hr0:Kd.C Kd.string w A0 l0.length l0) (hc0:l0.length≤c0) (h:impl_isPeople.f k l0=some r) :
  Calls Tryz.prog 121 #[.slice A0 l0.length c0] w fun e w'=>e = .returned (.bool r)∧Drawn0 w w':=by
 obtain ⟨t,ht,h⟩:=Option.bind_eq_some_iff.mp h
 have HA:=ζa ht
 clear ht
 cases t with
 | true =>
  rw [if_pos rfl] at h
  obtain rfl:=Option.some.inj h
  go_enter Tryz.func121,Tryz.ntmps121
  go_wp2_with (first
   | (go_at_call 63;refine (impl_areNames.calls k A0 c0 l0 _ _ hr0 hc0 HA.out).mono ?_;rintro e w' ⟨rfl,⟨q',rfl⟩⟩)
   | (go_at_call 112;refine (slices_ContainsFunc_string_string.at_ 175 (enters_of Tryz.func175 (by kernel_rfl) rfl) _ impl_isPeople.lit A0 c0 l0 _ (by exact Kd.C_drewN hr0 _)).mono ?_;rintro e w' ⟨rfl,⟨q',rfl⟩⟩))
  go_ret
  exact ⟨rfl,by repeat (first|exact Drawn0.refl _|apply Drawn0.step)⟩
 | false =>
  rw [if_neg (by decide)] at h
  obtain rfl:=Option.some.inj h
  go_enter Tryz.func121,Tryz.ntmps121
  go_wp2_with (first
   | (go_at_call 63;refine (impl_areNames.calls k A0 c0 l0 _ _ hr0 hc0 HA.out).mono ?_;rintro e w' ⟨rfl,⟨q',rfl⟩⟩))
  go_ret
  exact ⟨rfl,by repeat (first|exact Drawn0.refl _|apply Drawn0.step)⟩



/-! ### impl_isSome: function 122 -/
def impl_isSome.f (a0:Int):Option (Bool):=(impl_within.f a0 1 1000000000000000000).bind fun t165=>(some t165)
set_option maxHeartbeats 8000000 in
set_option maxRecDepth 100000 in
theorem impl_isSome.calls (a0:Int) (r:Bool) (w:World) (h:impl_isSome.f a0=some r) :
  Calls Tryz.prog 122 #[.int .i64 a0] w fun e w'=>e = .returned (.bool r)∧Drawn0 w w':=by
 have H:((impl_within.f a0 1 1000000000000000000).bind fun t165=>(some t165))=some r:=h
 clear h
 replace H:=Option.bind_eq_some_iff.mp H
 obtain ⟨t165,A20,H⟩:=H
 replace H:(some t165)=some r:=H
 have A2:=ζa A20
 clear A20
 obtain rfl:=Option.some.inj H
 go_enter Tryz.func122,Tryz.ntmps122
 go_wp2_with (first|((with_reducible refine δv (f:=161) rfl ?_);refine goesL_ (some 4) rfl rfl Tryz.func161 (by kernel_rfl) rfl #[.int .i64 a0,.int .i64 1,.int .i64 1000000000000000000] rfl (by (try simp only [δd,δe,δf]);first|done|rfl|(simp only [δg,δh];rfl)) ?_;(with_reducible refine (impl_within.calls a0 1 1000000000000000000 t165 _ A2.out).mono ?_);rintro e w' ⟨rfl,⟨nd,rfl⟩⟩;refine ⟨_,rfl,?_⟩))
 go_ret
 exact ⟨by first|rfl|(simp;done)|(simp [*];done),by repeat (first|exact Drawn0.refl _|apply Drawn0.step)⟩


open Go.Proofs.YtabmfhnhmoiljaaGreatDoorW.PrintWords renaming gate_dst → δx, box_event → δz, below_step → δr, below_alloc → δk, pw_below_drewN → δi, below_drew1 → δj, below_size → δs, blk_cell → δl, blk_frozen → δm, gate_callee → δv, below_set → δq, blk_drewN → δn, blk_drew → δp, blk_alloc → δo
open Go.Proofs.YtabmfhnhmoiljaaGreatDoorW.PrintWords.Kd renaming R_reads' → ζg

/-! ### impl_transfer_isRight: function 92 -/
def impl_transfer_isRight.f (k:Nat) (a0_0:ByteArray) (a0_1:Int) (a0_2:ByteArray) (a0_3:ByteArray):Option (Bool):=(impl_isChain.f a0_0).bind fun t422=>(if t422=τ then ((impl_isSome.f a0_1).bind fun t423=>(if t423=τ then ((impl_isPeople.f k (([a0_2,a0_3]:List ByteArray))).bind fun t427=>(some t427)) else (some φ))) else (if a0_0.toList=([118,120]:List UInt8) then ((impl_isSome.f a0_1).bind fun t428=>(if t428=τ then ((impl_isPeople.f k (([a0_2,a0_3]:List ByteArray))).bind fun t432=>(some t432)) else (some φ))) else (if a0_0.toList=([118,121]:List UInt8) then ((impl_isSome.f a0_1).bind fun t433=>(if t433=τ then ((impl_isPeople.f k (([a0_2,a0_3]:List ByteArray))).bind fun t437=>(some t437)) else (some φ))) else (some φ))))
set_option maxHeartbeats 8000000 in
set_option maxRecDepth 100000 in
theorem impl_transfer_isRight.calls (k:Nat) (a0_0:ByteArray) (a0_1:Int) (a0_2:ByteArray) (a0_3:ByteArray) (r:Bool) (w:World) (h:impl_transfer_isRight.f k a0_0 a0_1 a0_2 a0_3=some r) :
  Calls Tryz.prog 92 #[.agg #[.string a0_0,.int .i64 a0_1,.string a0_2,.string a0_3]] w fun e w'=>e = .returned (.bool r)∧Below w.heap.size w w':=by
 have hu61:=Tryz.underlying61
 have HB:=ζa (Below.refl w.heap.size w)
 have H:((impl_isChain.f a0_0).bind fun t422=>(if t422=τ then ((impl_isSome.f a0_1).bind fun t423=>(if t423=τ then ((impl_isPeople.f k (([a0_2,a0_3]:List ByteArray))).bind fun t427=>(some t427)) else (some φ))) else (if a0_0.toList=([118,120]:List UInt8) then ((impl_isSome.f a0_1).bind fun t428=>(if t428=τ then ((impl_isPeople.f k (([a0_2,a0_3]:List ByteArray))).bind fun t432=>(some t432)) else (some φ))) else (if a0_0.toList=([118,121]:List UInt8) then ((impl_isSome.f a0_1).bind fun t433=>(if t433=τ then ((impl_isPeople.f k (([a0_2,a0_3]:List ByteArray))).bind fun t437=>(some t437)) else (some φ))) else (some φ)))))=some r:=h
 clear h
 replace H:=Option.bind_eq_some_iff.mp H
 obtain ⟨t422,A20,H⟩:=H
 replace H:(if t422=τ then ((impl_isSome.f a0_1).bind fun t423=>(if t423=τ then ((impl_isPeople.f k (([a0_2,a0_3]:List ByteArray))).bind fun t427=>(some t427)) else (some φ))) else (if a0_0.toList=([118,120]:List UInt8) then ((impl_isSome.f a0_1).bind fun t428=>(if t428=τ then ((impl_isPeople.f k (([a0_2,a0_3]:List ByteArray))).bind fun t432=>(some t432)) else (some φ))) else (if a0_0.toList=([118,121]:List UInt8) then ((impl_isSome.f a0_1).bind fun t433=>(if t433=τ then ((impl_isPeople.f k (([a0_2,a0_3]:List ByteArray))).bind fun t437=>(some t437)) else (some φ))) else (some φ))))=some r:=H
 have A2:=ζa A20
 clear A20
 by_cases c3:t422=τ
 ·
  subst c3
  have H1:((impl_isSome.f a0_1).bind fun t423=>(if t423=τ then ((impl_isPeople.f k (([a0_2,a0_3]:List ByteArray))).bind fun t427=>(some t427)) else (some φ)))=some r:=by rw [if_pos rfl] at H;exact H
  clear H
  have H:=H1
  clear H1
  replace H:=Option.bind_eq_some_iff.mp H
  obtain ⟨t423,A40,H⟩:=H
  replace H:(if t423=τ then ((impl_isPeople.f k (([a0_2,a0_3]:List ByteArray))).bind fun t427=>(some t427)) else (some φ))=some r:=H
  have A4:=ζa A40
  clear A40
  by_cases c5:t423=τ
  ·
   subst c5
   have H1:((impl_isPeople.f k (([a0_2,a0_3]:List ByteArray))).bind fun t427=>(some t427))=some r:=by rw [if_pos rfl] at H;exact H
   clear H
   have H:=H1
   clear H1
   obtain ⟨y424,hy424⟩ : ∃ y_:List ByteArray,y_=(([a0_2,a0_3]:List ByteArray)):=⟨_,rfl⟩
   replace H:((impl_isPeople.f k y424).bind fun t427=>(some t427))=some r:=by first|(rw [hy424];with_reducible exact H)|(have H2_:=(Option.bind_some _ _).symm.trans H;rw [hy424];with_reducible exact H2_)|(have H2_:=(Option.bind_some _ _).symm.trans H;with_reducible exact H2_)|with_reducible exact H|(rw [hy424];exact H)|exact H
   have Ny424:=ζa hy424
   clear hy424
   replace H:=Option.bind_eq_some_iff.mp H
   obtain ⟨t427,A60,H⟩:=H
   replace H:(some t427)=some r:=H
   have A6:=ζa A60
   clear A60
   obtain rfl:=Option.some.inj H
   go_enter Tryz.func92,Tryz.ntmps92
   go_wp2_with (first|((with_reducible refine δx (N:=1) rfl ?_);(try (refine gate_guard (by rfl) ?_;dsimp only));refine δz ?hg (N:=1) ?hd (cs:=#[.string a0_0,.int .i64 a0_1,.string a0_2,.string a0_3]) (t:=61) ?hr ?_;(case hd=>rfl);(case hg=>rfl);(case hr=>first|(go_simp;done)|(go_simp;rfl));intro gb421 hg w7 hbox hb;have n0_:=ζa (δr (by repeat (first|(with_reducible first|exact HB.out|apply δk|apply δi|apply δj)|exact HB.out)) hb);have n1_:=ζa (hbox);have n2_:=ζa ((by rw [hg];exact (δs (by repeat (first|(with_reducible first|exact HB.out|apply δk|apply δi|apply δj)|exact HB.out))):w.heap.size≤gb421));have n3_:=ζa ((by rw [hg];exact (δs (by repeat (first|(with_reducible first|exact HB.out|apply δk|apply δi|apply δj)|exact HB.out))):w.heap.size≤gb421));clear HB;have HB:=n0_;have BK421:=n1_;have GW421:=n2_;have GE421:=n3_;clear n0_ n1_ n2_ n3_;clear hb hbox hg;have hcz8_0:w7.cell? ⟨gb421,0,none⟩=some (.string a0_0):=(δl BK421.out 0).trans rfl;have hcz8_1:w7.cell? ⟨gb421,1,none⟩=some (.int .i64 a0_1):=(δl BK421.out 1).trans rfl;have hcz8_2:w7.cell? ⟨gb421,2,none⟩=some (.string a0_2):=(δl BK421.out 2).trans rfl;have hcz8_3:w7.cell? ⟨gb421,3,none⟩=some (.string a0_3):=(δl BK421.out 3).trans rfl;have hfz8_0:=δm BK421.out 0;have hfz8_1:=δm BK421.out 1;have hfz8_2:=δm BK421.out 2;have hfz8_3:=δm BK421.out 3)|((with_reducible refine δv (f:=64) rfl ?_);refine goesL_ (some 6) rfl rfl Tryz.func64 (by kernel_rfl) rfl #[.string a0_0] rfl (by (try simp only [δd,δe,δf]);first|done|rfl|(simp only [δg,δh];rfl)) ?_;(with_reducible refine (impl_isChain.calls a0_0 τ _ A2.out).mono ?_);rintro e w' ⟨rfl,⟨nd,rfl⟩⟩;refine ⟨_,rfl,?_⟩)|(go_at_call 122;(with_reducible refine (impl_isSome.calls a0_1 τ _ A4.out).mono ?_);rintro e w' ⟨rfl,⟨nd,rfl⟩⟩)|((with_reducible refine δx (N:=28) rfl ?_);(try (refine gate_guard (by rfl) ?_;dsimp only));refine Kd.R_lit Kd.string _ 9 ?hg (N:=28) ?hd (xs:=([a0_2,a0_3]:List ByteArray)) (inner:=[.string a0_2,.string a0_3]) (ok:=fun _=>True) (okp:=fun _=>True) ?hr ?hp (fun _ hk=>hk) trivial (Below.refl _ _) (Nat.le_refl _) (by simp) ?_;(case hd=>rfl);(case hg=>rfl);(case hr=>first|(go_simp;done)|(go_simp;rfl));(case hp=>exact (Reps.one (show Kd.M Kd.string _ _ _ a0_2 [.string a0_2] from rfl) (Reps.one (show Kd.M Kd.string _ _ _ a0_3 [.string a0_3] from rfl) (Reps.none _ _))));intro v425 w9 ho10 hb hg_ hnew_;clear hg_ hnew_;(first|rw [← Ny424.out] at ho10|(simp only [Int.reduceToNat] at ho10;rw [← Ny424.out] at ho10));have n0_:=ζa (Kd.R_lower ho10 (δs (by repeat (first|(with_reducible first|exact HB.out|apply δk|apply δi|apply δj|refine δq ?_ GE421.out)|exact HB.out))));have n1_:=ζa (blk_below (g:=gb421) (o:=.cells #[.string a0_0,.int .i64 a0_1,.string a0_2,.string a0_3] 61 (0,0)) (by (with_reducible repeat (first|refine δn ?_ _|refine δp ?_|refine δo ?_ _));exact BK421.out) hb);have n2_:=ζa (δr (by repeat (first|(with_reducible first|exact HB.out|apply δk|apply δi|apply δj|refine δq ?_ GE421.out)|exact HB.out)) hb);clear BK421;clear HB;have HO426:=n0_;have BK421:=n1_;have HB:=n2_;clear n0_ n1_ n2_;clear hb ho10;obtain ⟨Ao11,co11,eo11⟩:=Kd.R_slice HO426.out;subst eo11)|(go_at_call 121;(with_reducible refine (impl_isPeople.calls k _ _ y424 t427 _ ?side1 ?side2 A6.out).mono ?_);(case side1=>repeat (first|exact (ζg HO426.out).2.2|(with_reducible refine Kd.C_alloc ?_ _)|(with_reducible refine Kd.C_drewN ?_ _)|(with_reducible refine Kd.C_drew ?_)));(case side2=>exact (ζg HO426.out).2.1);rintro e w' ⟨rfl,⟨nd,rfl⟩⟩))
   go_ret
   exact ⟨by first|rfl|(simp [errW_none,errW_some] <;> rfl)|(simp [*,errW_none,errW_some] <;> rfl),by repeat (first|(with_reducible first|exact HB.out|apply δk|apply δi|apply δj|refine δq ?_ GE421.out)|exact HB.out)⟩
  ·
   replace c5:=Bool.eq_false_iff.mpr c5
   subst c5
   have H1:(some φ)=some r:=by rw [if_neg (show ¬ (φ=τ) by decide)] at H;exact H
   clear H
   have H:=H1
   clear H1
   obtain rfl:=Option.some.inj H
   go_enter Tryz.func92,Tryz.ntmps92
   go_wp2_with (first|((with_reducible refine δx (N:=1) rfl ?_);(try (refine gate_guard (by rfl) ?_;dsimp only));refine δz ?hg (N:=1) ?hd (cs:=#[.string a0_0,.int .i64 a0_1,.string a0_2,.string a0_3]) (t:=61) ?hr ?_;(case hd=>rfl);(case hg=>rfl);(case hr=>first|(go_simp;done)|(go_simp;rfl));intro gb421 hg w12 hbox hb;have n0_:=ζa (δr (by repeat (first|(with_reducible first|exact HB.out|apply δk|apply δi|apply δj)|exact HB.out)) hb);have n1_:=ζa (hbox);have n2_:=ζa ((by rw [hg];exact (δs (by repeat (first|(with_reducible first|exact HB.out|apply δk|apply δi|apply δj)|exact HB.out))):w.heap.size≤gb421));have n3_:=ζa ((by rw [hg];exact (δs (by repeat (first|(with_reducible first|exact HB.out|apply δk|apply δi|apply δj)|exact HB.out))):w.heap.size≤gb421));clear HB;have HB:=n0_;have BK421:=n1_;have GW421:=n2_;have GE421:=n3_;clear n0_ n1_ n2_ n3_;clear hb hbox hg;have hcz13_0:w12.cell? ⟨gb421,0,none⟩=some (.string a0_0):=(δl BK421.out 0).trans rfl;have hcz13_1:w12.cell? ⟨gb421,1,none⟩=some (.int .i64 a0_1):=(δl BK421.out 1).trans rfl;have hcz13_2:w12.cell? ⟨gb421,2,none⟩=some (.string a0_2):=(δl BK421.out 2).trans rfl;have hcz13_3:w12.cell? ⟨gb421,3,none⟩=some (.string a0_3):=(δl BK421.out 3).trans rfl;have hfz13_0:=δm BK421.out 0;have hfz13_1:=δm BK421.out 1;have hfz13_2:=δm BK421.out 2;have hfz13_3:=δm BK421.out 3)|((with_reducible refine δv (f:=64) rfl ?_);refine goesL_ (some 6) rfl rfl Tryz.func64 (by kernel_rfl) rfl #[.string a0_0] rfl (by (try simp only [δd,δe,δf]);first|done|rfl|(simp only [δg,δh];rfl)) ?_;(with_reducible refine (impl_isChain.calls a0_0 τ _ A2.out).mono ?_);rintro e w' ⟨rfl,⟨nd,rfl⟩⟩;refine ⟨_,rfl,?_⟩)|(go_at_call 122;(with_reducible refine (impl_isSome.calls a0_1 φ _ A4.out).mono ?_);rintro e w' ⟨rfl,⟨nd,rfl⟩⟩))
   go_ret
   exact ⟨by first|rfl|(simp [errW_none,errW_some] <;> rfl)|(simp [*,errW_none,errW_some] <;> rfl),by repeat (first|(with_reducible first|exact HB.out|apply δk|apply δi|apply δj|refine δq ?_ GE421.out)|exact HB.out)⟩
 ·
  replace c3:=Bool.eq_false_iff.mpr c3
  subst c3
  have H1:(if a0_0.toList=([118,120]:List UInt8) then ((impl_isSome.f a0_1).bind fun t428=>(if t428=τ then ((impl_isPeople.f k (([a0_2,a0_3]:List ByteArray))).bind fun t432=>(some t432)) else (some φ))) else (if a0_0.toList=([118,121]:List UInt8) then ((impl_isSome.f a0_1).bind fun t433=>(if t433=τ then ((impl_isPeople.f k (([a0_2,a0_3]:List ByteArray))).bind fun t437=>(some t437)) else (some φ))) else (some φ)))=some r:=by rw [if_neg (show ¬ (φ=τ) by decide)] at H;exact H
  clear H
  have H:=H1
  clear H1
  by_cases c14:a0_0.toList=([118,120]:List UInt8)
  ·
   rw [if_pos c14] at H
   have c14b0:(a0_0.toList == ([118,120]:List UInt8))=τ:=beq_iff_eq.mpr c14
   have c14b1:(a0_0.toList != ([118,120]:List UInt8))=φ:=bne_eq_false_iff_eq.mpr c14
   clear c14
   replace H:=Option.bind_eq_some_iff.mp H
   obtain ⟨t428,A150,H⟩:=H
   replace H:(if t428=τ then ((impl_isPeople.f k (([a0_2,a0_3]:List ByteArray))).bind fun t432=>(some t432)) else (some φ))=some r:=H
   have A15:=ζa A150
   clear A150
   by_cases c16:t428=τ
   ·
    subst c16
    have H1:((impl_isPeople.f k (([a0_2,a0_3]:List ByteArray))).bind fun t432=>(some t432))=some r:=by rw [if_pos rfl] at H;exact H
    clear H
    have H:=H1
    clear H1
    obtain ⟨y429,hy429⟩ : ∃ y_:List ByteArray,y_=(([a0_2,a0_3]:List ByteArray)):=⟨_,rfl⟩
    replace H:((impl_isPeople.f k y429).bind fun t432=>(some t432))=some r:=by first|(rw [hy429];with_reducible exact H)|(have H2_:=(Option.bind_some _ _).symm.trans H;rw [hy429];with_reducible exact H2_)|(have H2_:=(Option.bind_some _ _).symm.trans H;with_reducible exact H2_)|with_reducible exact H|(rw [hy429];exact H)|exact H
    have Ny429:=ζa hy429
    clear hy429
    replace H:=Option.bind_eq_some_iff.mp H
    obtain ⟨t432,A170,H⟩:=H
    replace H:(some t432)=some r:=H
    have A17:=ζa A170
    clear A170
    obtain rfl:=Option.some.inj H
    go_enter Tryz.func92,Tryz.ntmps92
    go_wp2_with (first|((with_reducible refine δx (N:=1) rfl ?_);(try (refine gate_guard (by rfl) ?_;dsimp only));refine δz ?hg (N:=1) ?hd (cs:=#[.string a0_0,.int .i64 a0_1,.string a0_2,.string a0_3]) (t:=61) ?hr ?_;(case hd=>rfl);(case hg=>rfl);(case hr=>first|(go_simp;done)|(go_simp;rfl));intro gb421 hg w18 hbox hb;have n0_:=ζa (δr (by repeat (first|(with_reducible first|exact HB.out|apply δk|apply δi|apply δj)|exact HB.out)) hb);have n1_:=ζa (hbox);have n2_:=ζa ((by rw [hg];exact (δs (by repeat (first|(with_reducible first|exact HB.out|apply δk|apply δi|apply δj)|exact HB.out))):w.heap.size≤gb421));have n3_:=ζa ((by rw [hg];exact (δs (by repeat (first|(with_reducible first|exact HB.out|apply δk|apply δi|apply δj)|exact HB.out))):w.heap.size≤gb421));clear HB;have HB:=n0_;have BK421:=n1_;have GW421:=n2_;have GE421:=n3_;clear n0_ n1_ n2_ n3_;clear hb hbox hg;have hcz19_0:w18.cell? ⟨gb421,0,none⟩=some (.string a0_0):=(δl BK421.out 0).trans rfl;have hcz19_1:w18.cell? ⟨gb421,1,none⟩=some (.int .i64 a0_1):=(δl BK421.out 1).trans rfl;have hcz19_2:w18.cell? ⟨gb421,2,none⟩=some (.string a0_2):=(δl BK421.out 2).trans rfl;have hcz19_3:w18.cell? ⟨gb421,3,none⟩=some (.string a0_3):=(δl BK421.out 3).trans rfl;have hfz19_0:=δm BK421.out 0;have hfz19_1:=δm BK421.out 1;have hfz19_2:=δm BK421.out 2;have hfz19_3:=δm BK421.out 3)|((with_reducible refine δv (f:=64) rfl ?_);refine goesL_ (some 6) rfl rfl Tryz.func64 (by kernel_rfl) rfl #[.string a0_0] rfl (by (try simp only [δd,δe,δf]);first|done|rfl|(simp only [δg,δh];rfl)) ?_;(with_reducible refine (impl_isChain.calls a0_0 φ _ A2.out).mono ?_);rintro e w' ⟨rfl,⟨nd,rfl⟩⟩;refine ⟨_,rfl,?_⟩)|(go_at_call 122;(with_reducible refine (impl_isSome.calls a0_1 τ _ A15.out).mono ?_);rintro e w' ⟨rfl,⟨nd,rfl⟩⟩)|((with_reducible refine δx (N:=28) rfl ?_);(try (refine gate_guard (by rfl) ?_;dsimp only));refine Kd.R_lit Kd.string _ 9 ?hg (N:=28) ?hd (xs:=([a0_2,a0_3]:List ByteArray)) (inner:=[.string a0_2,.string a0_3]) (ok:=fun _=>True) (okp:=fun _=>True) ?hr ?hp (fun _ hk=>hk) trivial (Below.refl _ _) (Nat.le_refl _) (by simp) ?_;(case hd=>rfl);(case hg=>rfl);(case hr=>first|(go_simp;done)|(go_simp;rfl));(case hp=>exact (Reps.one (show Kd.M Kd.string _ _ _ a0_2 [.string a0_2] from rfl) (Reps.one (show Kd.M Kd.string _ _ _ a0_3 [.string a0_3] from rfl) (Reps.none _ _))));intro v430 w20 ho21 hb hg_ hnew_;clear hg_ hnew_;(first|rw [← Ny429.out] at ho21|(simp only [Int.reduceToNat] at ho21;rw [← Ny429.out] at ho21));have n0_:=ζa (Kd.R_lower ho21 (δs (by repeat (first|(with_reducible first|exact HB.out|apply δk|apply δi|apply δj|refine δq ?_ GE421.out)|exact HB.out))));have n1_:=ζa (blk_below (g:=gb421) (o:=.cells #[.string a0_0,.int .i64 a0_1,.string a0_2,.string a0_3] 61 (0,0)) (by (with_reducible repeat (first|refine δn ?_ _|refine δp ?_|refine δo ?_ _));exact BK421.out) hb);have n2_:=ζa (δr (by repeat (first|(with_reducible first|exact HB.out|apply δk|apply δi|apply δj|refine δq ?_ GE421.out)|exact HB.out)) hb);clear BK421;clear HB;have HO431:=n0_;have BK421:=n1_;have HB:=n2_;clear n0_ n1_ n2_;clear hb ho21;obtain ⟨Ao22,co22,eo22⟩:=Kd.R_slice HO431.out;subst eo22)|(go_at_call 121;(with_reducible refine (impl_isPeople.calls k _ _ y429 t432 _ ?side1 ?side2 A17.out).mono ?_);(case side1=>repeat (first|exact (ζg HO431.out).2.2|(with_reducible refine Kd.C_alloc ?_ _)|(with_reducible refine Kd.C_drewN ?_ _)|(with_reducible refine Kd.C_drew ?_)));(case side2=>exact (ζg HO431.out).2.1);rintro e w' ⟨rfl,⟨nd,rfl⟩⟩))
    go_ret
    exact ⟨by first|rfl|(simp [errW_none,errW_some] <;> rfl)|(simp [*,errW_none,errW_some] <;> rfl),by repeat (first|(with_reducible first|exact HB.out|apply δk|apply δi|apply δj|refine δq ?_ GE421.out)|exact HB.out)⟩
   ·
    replace c16:=Bool.eq_false_iff.mpr c16
    subst c16
    have H1:(some φ)=some r:=by rw [if_neg (show ¬ (φ=τ) by decide)] at H;exact H
    clear H
    have H:=H1
    clear H1
    obtain rfl:=Option.some.inj H
    go_enter Tryz.func92,Tryz.ntmps92
    go_wp2_with (first|((with_reducible refine δx (N:=1) rfl ?_);(try (refine gate_guard (by rfl) ?_;dsimp only));refine δz ?hg (N:=1) ?hd (cs:=#[.string a0_0,.int .i64 a0_1,.string a0_2,.string a0_3]) (t:=61) ?hr ?_;(case hd=>rfl);(case hg=>rfl);(case hr=>first|(go_simp;done)|(go_simp;rfl));intro gb421 hg w23 hbox hb;have n0_:=ζa (δr (by repeat (first|(with_reducible first|exact HB.out|apply δk|apply δi|apply δj)|exact HB.out)) hb);have n1_:=ζa (hbox);have n2_:=ζa ((by rw [hg];exact (δs (by repeat (first|(with_reducible first|exact HB.out|apply δk|apply δi|apply δj)|exact HB.out))):w.heap.size≤gb421));have n3_:=ζa ((by rw [hg];exact (δs (by repeat (first|(with_reducible first|exact HB.out|apply δk|apply δi|apply δj)|exact HB.out))):w.heap.size≤gb421));clear HB;have HB:=n0_;have BK421:=n1_;have GW421:=n2_;have GE421:=n3_;clear n0_ n1_ n2_ n3_;clear hb hbox hg;have hcz24_0:w23.cell? ⟨gb421,0,none⟩=some (.string a0_0):=(δl BK421.out 0).trans rfl;have hcz24_1:w23.cell? ⟨gb421,1,none⟩=some (.int .i64 a0_1):=(δl BK421.out 1).trans rfl;have hcz24_2:w23.cell? ⟨gb421,2,none⟩=some (.string a0_2):=(δl BK421.out 2).trans rfl;have hcz24_3:w23.cell? ⟨gb421,3,none⟩=some (.string a0_3):=(δl BK421.out 3).trans rfl;have hfz24_0:=δm BK421.out 0;have hfz24_1:=δm BK421.out 1;have hfz24_2:=δm BK421.out 2;have hfz24_3:=δm BK421.out 3)|((with_reducible refine δv (f:=64) rfl ?_);refine goesL_ (some 6) rfl rfl Tryz.func64 (by kernel_rfl) rfl #[.string a0_0] rfl (by (try simp only [δd,δe,δf]);first|done|rfl|(simp only [δg,δh];rfl)) ?_;(with_reducible refine (impl_isChain.calls a0_0 φ _ A2.out).mono ?_);rintro e w' ⟨rfl,⟨nd,rfl⟩⟩;refine ⟨_,rfl,?_⟩)|(go_at_call 122;(with_reducible refine (impl_isSome.calls a0_1 φ _ A15.out).mono ?_);rintro e w' ⟨rfl,⟨nd,rfl⟩⟩))
    go_ret
    exact ⟨by first|rfl|(simp [errW_none,errW_some] <;> rfl)|(simp [*,errW_none,errW_some] <;> rfl),by repeat (first|(with_reducible first|exact HB.out|apply δk|apply δi|apply δj|refine δq ?_ GE421.out)|exact HB.out)⟩
  ·
   rw [if_neg c14] at H
   have c14b0:(a0_0.toList == ([118,120]:List UInt8))=φ:=beq_eq_false_iff_ne.mpr c14
   have c14b1:(a0_0.toList != ([118,120]:List UInt8))=τ:=bne_iff_ne.mpr c14
   by_cases c25:a0_0.toList=([118,121]:List UInt8)
   ·
    rw [if_pos c25] at H
    have c25b0:(a0_0.toList == ([118,121]:List UInt8))=τ:=beq_iff_eq.mpr c25
    have c25b1:(a0_0.toList != ([118,121]:List UInt8))=φ:=bne_eq_false_iff_eq.mpr c25
    clear c25
    replace H:=Option.bind_eq_some_iff.mp H
    obtain ⟨t433,A260,H⟩:=H
    replace H:(if t433=τ then ((impl_isPeople.f k (([a0_2,a0_3]:List ByteArray))).bind fun t437=>(some t437)) else (some φ))=some r:=H
    have A26:=ζa A260
    clear A260
    by_cases c27:t433=τ
    ·
     subst c27
     have H1:((impl_isPeople.f k (([a0_2,a0_3]:List ByteArray))).bind fun t437=>(some t437))=some r:=by rw [if_pos rfl] at H;exact H
     clear H
     have H:=H1
     clear H1
     obtain ⟨y434,hy434⟩ : ∃ y_:List ByteArray,y_=(([a0_2,a0_3]:List ByteArray)):=⟨_,rfl⟩
     replace H:((impl_isPeople.f k y434).bind fun t437=>(some t437))=some r:=by first|(rw [hy434];with_reducible exact H)|(have H2_:=(Option.bind_some _ _).symm.trans H;rw [hy434];with_reducible exact H2_)|(have H2_:=(Option.bind_some _ _).symm.trans H;with_reducible exact H2_)|with_reducible exact H|(rw [hy434];exact H)|exact H
     have Ny434:=ζa hy434
     clear hy434
     replace H:=Option.bind_eq_some_iff.mp H
     obtain ⟨t437,A280,H⟩:=H
     replace H:(some t437)=some r:=H
     have A28:=ζa A280
     clear A280
     obtain rfl:=Option.some.inj H
     go_enter Tryz.func92,Tryz.ntmps92
     go_wp2_with (first|((with_reducible refine δx (N:=1) rfl ?_);(try (refine gate_guard (by rfl) ?_;dsimp only));refine δz ?hg (N:=1) ?hd (cs:=#[.string a0_0,.int .i64 a0_1,.string a0_2,.string a0_3]) (t:=61) ?hr ?_;(case hd=>rfl);(case hg=>rfl);(case hr=>first|(go_simp;done)|(go_simp;rfl));intro gb421 hg w29 hbox hb;have n0_:=ζa (δr (by repeat (first|(with_reducible first|exact HB.out|apply δk|apply δi|apply δj)|exact HB.out)) hb);have n1_:=ζa (hbox);have n2_:=ζa ((by rw [hg];exact (δs (by repeat (first|(with_reducible first|exact HB.out|apply δk|apply δi|apply δj)|exact HB.out))):w.heap.size≤gb421));have n3_:=ζa ((by rw [hg];exact (δs (by repeat (first|(with_reducible first|exact HB.out|apply δk|apply δi|apply δj)|exact HB.out))):w.heap.size≤gb421));clear HB;have HB:=n0_;have BK421:=n1_;have GW421:=n2_;have GE421:=n3_;clear n0_ n1_ n2_ n3_;clear hb hbox hg;have hcz30_0:w29.cell? ⟨gb421,0,none⟩=some (.string a0_0):=(δl BK421.out 0).trans rfl;have hcz30_1:w29.cell? ⟨gb421,1,none⟩=some (.int .i64 a0_1):=(δl BK421.out 1).trans rfl;have hcz30_2:w29.cell? ⟨gb421,2,none⟩=some (.string a0_2):=(δl BK421.out 2).trans rfl;have hcz30_3:w29.cell? ⟨gb421,3,none⟩=some (.string a0_3):=(δl BK421.out 3).trans rfl;have hfz30_0:=δm BK421.out 0;have hfz30_1:=δm BK421.out 1;have hfz30_2:=δm BK421.out 2;have hfz30_3:=δm BK421.out 3)|((with_reducible refine δv (f:=64) rfl ?_);refine goesL_ (some 6) rfl rfl Tryz.func64 (by kernel_rfl) rfl #[.string a0_0] rfl (by (try simp only [δd,δe,δf]);first|done|rfl|(simp only [δg,δh];rfl)) ?_;(with_reducible refine (impl_isChain.calls a0_0 φ _ A2.out).mono ?_);rintro e w' ⟨rfl,⟨nd,rfl⟩⟩;refine ⟨_,rfl,?_⟩)|(go_at_call 122;(with_reducible refine (impl_isSome.calls a0_1 τ _ A26.out).mono ?_);rintro e w' ⟨rfl,⟨nd,rfl⟩⟩)|((with_reducible refine δx (N:=28) rfl ?_);(try (refine gate_guard (by rfl) ?_;dsimp only));refine Kd.R_lit Kd.string _ 9 ?hg (N:=28) ?hd (xs:=([a0_2,a0_3]:List ByteArray)) (inner:=[.string a0_2,.string a0_3]) (ok:=fun _=>True) (okp:=fun _=>True) ?hr ?hp (fun _ hk=>hk) trivial (Below.refl _ _) (Nat.le_refl _) (by simp) ?_;(case hd=>rfl);(case hg=>rfl);(case hr=>first|(go_simp;done)|(go_simp;rfl));(case hp=>exact (Reps.one (show Kd.M Kd.string _ _ _ a0_2 [.string a0_2] from rfl) (Reps.one (show Kd.M Kd.string _ _ _ a0_3 [.string a0_3] from rfl) (Reps.none _ _))));intro v435 w31 ho32 hb hg_ hnew_;clear hg_ hnew_;(first|rw [← Ny434.out] at ho32|(simp only [Int.reduceToNat] at ho32;rw [← Ny434.out] at ho32));have n0_:=ζa (Kd.R_lower ho32 (δs (by repeat (first|(with_reducible first|exact HB.out|apply δk|apply δi|apply δj|refine δq ?_ GE421.out)|exact HB.out))));have n1_:=ζa (blk_below (g:=gb421) (o:=.cells #[.string a0_0,.int .i64 a0_1,.string a0_2,.string a0_3] 61 (0,0)) (by (with_reducible repeat (first|refine δn ?_ _|refine δp ?_|refine δo ?_ _));exact BK421.out) hb);have n2_:=ζa (δr (by repeat (first|(with_reducible first|exact HB.out|apply δk|apply δi|apply δj|refine δq ?_ GE421.out)|exact HB.out)) hb);clear BK421;clear HB;have HO436:=n0_;have BK421:=n1_;have HB:=n2_;clear n0_ n1_ n2_;clear hb ho32;obtain ⟨Ao33,co33,eo33⟩:=Kd.R_slice HO436.out;subst eo33)|(go_at_call 121;(with_reducible refine (impl_isPeople.calls k _ _ y434 t437 _ ?side1 ?side2 A28.out).mono ?_);(case side1=>repeat (first|exact (ζg HO436.out).2.2|(with_reducible refine Kd.C_alloc ?_ _)|(with_reducible refine Kd.C_drewN ?_ _)|(with_reducible refine Kd.C_drew ?_)));(case side2=>exact (ζg HO436.out).2.1);rintro e w' ⟨rfl,⟨nd,rfl⟩⟩))
     go_ret
     exact ⟨by first|rfl|(simp [errW_none,errW_some] <;> rfl)|(simp [*,errW_none,errW_some] <;> rfl),by repeat (first|(with_reducible first|exact HB.out|apply δk|apply δi|apply δj|refine δq ?_ GE421.out)|exact HB.out)⟩
    ·
     replace c27:=Bool.eq_false_iff.mpr c27
     subst c27
     have H1:(some φ)=some r:=by rw [if_neg (show ¬ (φ=τ) by decide)] at H;exact H
     clear H
     have H:=H1
     clear H1
     obtain rfl:=Option.some.inj H
     go_enter Tryz.func92,Tryz.ntmps92
     go_wp2_with (first|((with_reducible refine δx (N:=1) rfl ?_);(try (refine gate_guard (by rfl) ?_;dsimp only));refine δz ?hg (N:=1) ?hd (cs:=#[.string a0_0,.int .i64 a0_1,.string a0_2,.string a0_3]) (t:=61) ?hr ?_;(case hd=>rfl);(case hg=>rfl);(case hr=>first|(go_simp;done)|(go_simp;rfl));intro gb421 hg w34 hbox hb;have n0_:=ζa (δr (by repeat (first|(with_reducible first|exact HB.out|apply δk|apply δi|apply δj)|exact HB.out)) hb);have n1_:=ζa (hbox);have n2_:=ζa ((by rw [hg];exact (δs (by repeat (first|(with_reducible first|exact HB.out|apply δk|apply δi|apply δj)|exact HB.out))):w.heap.size≤gb421));have n3_:=ζa ((by rw [hg];exact (δs (by repeat (first|(with_reducible first|exact HB.out|apply δk|apply δi|apply δj)|exact HB.out))):w.heap.size≤gb421));clear HB;have HB:=n0_;have BK421:=n1_;have GW421:=n2_;have GE421:=n3_;clear n0_ n1_ n2_ n3_;clear hb hbox hg;have hcz35_0:w34.cell? ⟨gb421,0,none⟩=some (.string a0_0):=(δl BK421.out 0).trans rfl;have hcz35_1:w34.cell? ⟨gb421,1,none⟩=some (.int .i64 a0_1):=(δl BK421.out 1).trans rfl;have hcz35_2:w34.cell? ⟨gb421,2,none⟩=some (.string a0_2):=(δl BK421.out 2).trans rfl;have hcz35_3:w34.cell? ⟨gb421,3,none⟩=some (.string a0_3):=(δl BK421.out 3).trans rfl;have hfz35_0:=δm BK421.out 0;have hfz35_1:=δm BK421.out 1;have hfz35_2:=δm BK421.out 2;have hfz35_3:=δm BK421.out 3)|((with_reducible refine δv (f:=64) rfl ?_);refine goesL_ (some 6) rfl rfl Tryz.func64 (by kernel_rfl) rfl #[.string a0_0] rfl (by (try simp only [δd,δe,δf]);first|done|rfl|(simp only [δg,δh];rfl)) ?_;(with_reducible refine (impl_isChain.calls a0_0 φ _ A2.out).mono ?_);rintro e w' ⟨rfl,⟨nd,rfl⟩⟩;refine ⟨_,rfl,?_⟩)|(go_at_call 122;(with_reducible refine (impl_isSome.calls a0_1 φ _ A26.out).mono ?_);rintro e w' ⟨rfl,⟨nd,rfl⟩⟩))
     go_ret
     exact ⟨by first|rfl|(simp [errW_none,errW_some] <;> rfl)|(simp [*,errW_none,errW_some] <;> rfl),by repeat (first|(with_reducible first|exact HB.out|apply δk|apply δi|apply δj|refine δq ?_ GE421.out)|exact HB.out)⟩
   ·
    rw [if_neg c25] at H
    have c25b0:(a0_0.toList == ([118,121]:List UInt8))=φ:=beq_eq_false_iff_ne.mpr c25
    have c25b1:(a0_0.toList != ([118,121]:List UInt8))=τ:=bne_iff_ne.mpr c25
    obtain rfl:=Option.some.inj H
    go_enter Tryz.func92,Tryz.ntmps92
    go_wp2_with (first|((with_reducible refine δx (N:=1) rfl ?_);(try (refine gate_guard (by rfl) ?_;dsimp only));refine δz ?hg (N:=1) ?hd (cs:=#[.string a0_0,.int .i64 a0_1,.string a0_2,.string a0_3]) (t:=61) ?hr ?_;(case hd=>rfl);(case hg=>rfl);(case hr=>first|(go_simp;done)|(go_simp;rfl));intro gb421 hg w36 hbox hb;have n0_:=ζa (δr (by repeat (first|(with_reducible first|exact HB.out|apply δk|apply δi|apply δj)|exact HB.out)) hb);have n1_:=ζa (hbox);have n2_:=ζa ((by rw [hg];exact (δs (by repeat (first|(with_reducible first|exact HB.out|apply δk|apply δi|apply δj)|exact HB.out))):w.heap.size≤gb421));have n3_:=ζa ((by rw [hg];exact (δs (by repeat (first|(with_reducible first|exact HB.out|apply δk|apply δi|apply δj)|exact HB.out))):w.heap.size≤gb421));clear HB;have HB:=n0_;have BK421:=n1_;have GW421:=n2_;have GE421:=n3_;clear n0_ n1_ n2_ n3_;clear hb hbox hg;have hcz37_0:w36.cell? ⟨gb421,0,none⟩=some (.string a0_0):=(δl BK421.out 0).trans rfl;have hcz37_1:w36.cell? ⟨gb421,1,none⟩=some (.int .i64 a0_1):=(δl BK421.out 1).trans rfl;have hcz37_2:w36.cell? ⟨gb421,2,none⟩=some (.string a0_2):=(δl BK421.out 2).trans rfl;have hcz37_3:w36.cell? ⟨gb421,3,none⟩=some (.string a0_3):=(δl BK421.out 3).trans rfl;have hfz37_0:=δm BK421.out 0;have hfz37_1:=δm BK421.out 1;have hfz37_2:=δm BK421.out 2;have hfz37_3:=δm BK421.out 3)|((with_reducible refine δv (f:=64) rfl ?_);refine goesL_ (some 6) rfl rfl Tryz.func64 (by kernel_rfl) rfl #[.string a0_0] rfl (by (try simp only [δd,δe,δf]);first|done|rfl|(simp only [δg,δh];rfl)) ?_;(with_reducible refine (impl_isChain.calls a0_0 φ _ A2.out).mono ?_);rintro e w' ⟨rfl,⟨nd,rfl⟩⟩;refine ⟨_,rfl,?_⟩))
    go_ret
    exact ⟨by first|rfl|(simp [errW_none,errW_some] <;> rfl)|(simp [*,errW_none,errW_some] <;> rfl),by repeat (first|(with_reducible first|exact HB.out|apply δk|apply δi|apply δj|refine δq ?_ GE421.out)|exact HB.out)⟩


open Go.Proofs.YtabmfhnhmoiljaaGreatDoorW.PrintWords renaming gate_dst → δx, box_event → δz, below_step → δr, below_alloc → δk, pw_below_drewN → δi, below_drew1 → δj, below_size → δs, gate_callee → δv, below_set → δq, blk_drewN → δn, blk_drew → δp, blk_alloc → δo, blk_cell → δl, blk_frozen → δm, blk_put → δw, cell_far → δt, add_block → δu
open List renaming map_toArray → δd, map_cons → δe, map_nil → δf, length_drop → δg, length_take → δh, setIfInBounds_toArray → δa, set_cons_zero → δb, set_cons_succ → δc
open Go.Act renaming put → ζl
open Go.Proofs.YtabmfhnhmoiljaaGreatDoorW.PrintWords.Kd renaming R_reads' → ζg, R_alloc → ζd, R_drewN → ζc, R_drew → ζe, R_below → ζh, own_blk → ζb, R_ne → ζf, R_far → ζi
open Go.Proofs.YtabmfhnhmoiljaaGreatDoorW.PrintLast renaming pure_ → ζk, any_of → ζj

/-! ### impl_transferOf: function 99 -/
def impl_transferOf.j0:Nat→List ByteArray→Bool→Option (ByteArray × Int × ByteArray × ByteArray × Bool)
 | 0,_,_=>none
 | k+1,x4,x26=>if x26=τ then (some ((⟨#[]⟩:ByteArray),0,(⟨#[]⟩:ByteArray),(⟨#[]⟩:ByteArray),φ)) else (if 2<(x4.length:Int) then ((impl_readAmount.f (rdOf ByteArray.empty x4 2)).bind fun bt514=>(if 1<(x4.length:Int) then (if 3<(x4.length:Int) then (if 4<(x4.length:Int) then ((impl_transfer_isRight.f k (rdOf ByteArray.empty x4 1) bt514.1 (rdOf ByteArray.empty x4 3) (rdOf ByteArray.empty x4 4)).bind fun t520=>(some (rdOf ByteArray.empty x4 1,bt514.1,rdOf ByteArray.empty x4 3,rdOf ByteArray.empty x4 4,t520))) else (none)) else (none)) else (none))) else (none))
def impl_transferOf.f (k:Nat) (a0:ByteArray):Option (ByteArray × Int × ByteArray × ByteArray × Bool):=(impl_readFields.f k a0).bind fun bt508=>(if bt508.2=τ then (if (bt508.1.length:Int)=5 then (if 0<(bt508.1.length:Int) then (impl_transferOf.j0 k bt508.1 ((rdOf ByteArray.empty bt508.1 0).toList != ([116]:List UInt8))) else (none)) else (impl_transferOf.j0 k bt508.1 τ)) else (impl_transferOf.j0 k bt508.1 τ))
def impl_transferOf.T5:Bool × List (List Nat × List Nat):=(τ,[([],[]),([0],[0]),([1],[1]),([],[]),([],[]),([4],[4]),([5],[5]),([],[]),([7],[7]),([8],[8]),([2,3,6,9],[2,3,6,9]),([],[]),([11,10,0,1,2,3,4,5,6,7,8,9,10,11],[10,11])])
def impl_transferOf.B5:List Nat:=[0,1,3,0,0,16,48,0,128,384,1023,0,4095]
theorem impl_transferOf.tab5:rtab .any (opsOf Tryz.f99 5)=impl_transferOf.T5:=by kernel_rfl
theorem impl_transferOf.bits5:waitsOk impl_transferOf.T5.2 impl_transferOf.B5=τ:=by kernel_rfl
set_option maxHeartbeats 8000000 in
set_option maxRecDepth 100000 in
theorem impl_transferOf.calls (k:Nat) (a0:ByteArray) (r1:ByteArray) (r2:Int) (r3:ByteArray) (r4:ByteArray) (r5:Bool) (w:World) (hT0:TabsOK w) (h:impl_transferOf.f k a0=some (r1,r2,r3,r4,r5)) :
  Calls Tryz.prog 99 #[.string a0] w fun e w'=>e = .returned (.tuple #[.agg #[.string r1,.int .i64 r2,.string r3,.string r4],.bool r5])∧Below w.heap.size w w':=by
 have HT0:=ζa hT0
 clear hT0
 have hu61:=Tryz.underlying61
 have HB:=ζa (Below.refl w.heap.size w)
 have H:((impl_readFields.f k a0).bind fun bt508=>(if bt508.2=τ then (if (bt508.1.length:Int)=5 then (if 0<(bt508.1.length:Int) then (impl_transferOf.j0 k bt508.1 ((rdOf ByteArray.empty bt508.1 0).toList != ([116]:List UInt8))) else (none)) else (impl_transferOf.j0 k bt508.1 τ)) else (impl_transferOf.j0 k bt508.1 τ)))=some (r1,r2,r3,r4,r5):=h
 clear h
 replace H:=Option.bind_eq_some_iff.mp H
 obtain ⟨⟨t508,t509⟩,A20,H⟩:=H
 replace H:(if t509=τ then (if (t508.length:Int)=5 then (if 0<(t508.length:Int) then (impl_transferOf.j0 k t508 ((rdOf ByteArray.empty t508 0).toList != ([116]:List UInt8))) else (none)) else (impl_transferOf.j0 k t508 τ)) else (impl_transferOf.j0 k t508 τ))=some (r1,r2,r3,r4,r5):=H
 have A2:=ζa A20
 clear A20
 have HC3:=ζa H
 clear H
 go_enter Tryz.func99,Tryz.ntmps99
 go_upto_region 2 with (first|((with_reducible refine δx (N:=2) rfl ?_);(try (refine gate_guard (by rfl) ?_;dsimp only));refine δz ?hg (N:=2) ?hd (cs:=#[.string (⟨#[]⟩:ByteArray),.int .i64 0,.string (⟨#[]⟩:ByteArray),.string (⟨#[]⟩:ByteArray)]) (t:=61) ?hr ?_;(case hd=>rfl);(case hg=>rfl);(case hr=>first|(go_simp;done)|(go_simp;rfl));intro gb507 hg w4 hbox hb;have n0_:=ζa (δr (by repeat (first|(with_reducible first|exact HB.out|apply δk|apply δi|apply δj)|exact HB.out)) hb);have n1_:=ζa (hbox);have n2_:=ζa ((by rw [hg];exact (δs (by repeat (first|(with_reducible first|exact HB.out|apply δk|apply δi|apply δj)|exact HB.out))):w.heap.size≤gb507));have n3_:=ζa ((by rw [hg];exact (δs (by repeat (first|(with_reducible first|exact HB.out|apply δk|apply δi|apply δj)|exact HB.out))):w.heap.size≤gb507));clear HB;have HB:=n0_;have BK507:=n1_;have GW507:=n2_;have GE507:=n3_;clear n0_ n1_ n2_ n3_;clear hb hbox hg)|((with_reducible refine δv (f:=150) rfl ?_);refine goesL_ (some 11) rfl rfl Tryz.func150 (by kernel_rfl) rfl #[.string a0] rfl (by (try simp only [δd,δe,δf]);first|done|rfl|(simp only [δg,δh];rfl)) ?_;(with_reducible refine (impl_readFields.calls k a0 t508 t509 _ A2.out).mono ?_);rintro e w5 ⟨v510,rfl,ho0,hb⟩;refine ⟨_,rfl,?_⟩;have n0_:=ζa (Kd.R_lower ho0 (δs (by repeat (first|(with_reducible first|exact HB.out|apply δk|apply δi|apply δj|refine δq ?_ GE507.out)|exact HB.out))));have n1_:=ζa (blk_below (g:=gb507) (o:=.cells #[.string (⟨#[]⟩:ByteArray),.int .i64 0,.string (⟨#[]⟩:ByteArray),.string (⟨#[]⟩:ByteArray)] 61 (0,0)) (by (with_reducible repeat (first|refine δn ?_ _|refine δp ?_|refine δo ?_ _));exact BK507.out) hb);have n2_:=ζa (δr (by repeat (first|(with_reducible first|exact HB.out|apply δk|apply δi|apply δj|refine δq ?_ GE507.out)|exact HB.out)) hb);clear BK507;clear HB;have HO511:=n0_;have BK507:=n1_;have HB:=n2_;clear n0_ n1_ n2_;(try clear hb);(try clear hb2);(try clear hk);(try clear hi);(try clear ho0)))
 (try simp only [ζl,δa,δb,δc])
 go_cut [26] (fun v26 wc => ∃ (kq:Nat) (x26_2:Bool),v26 = .bool x26_2∧Aside0 (impl_transferOf.j0 kq t508 x26_2=some (r1,r2,r3,r4,r5))∧Aside0 (kq≤k)∧Aside0 (Kd.R Kd.string 9 wc w.heap.size (fun _=>True) v510 t508)∧Aside0 (wc.heap[gb507]? = some (.cells #[.string (⟨#[]⟩:ByteArray),.int .i64 0,.string (⟨#[]⟩:ByteArray),.string (⟨#[]⟩:ByteArray)] 61 (0,0)))∧Aside0 (Below w.heap.size w wc))
 case first =>
  have H:=HC3.out
  clear HC3
  by_cases c6:t509=τ
  ·
   subst c6
   have H1:(if (t508.length:Int)=5 then (if 0<(t508.length:Int) then (impl_transferOf.j0 k t508 ((rdOf ByteArray.empty t508 0).toList != ([116]:List UInt8))) else (none)) else (impl_transferOf.j0 k t508 τ))=some (r1,r2,r3,r4,r5):=by rw [if_pos rfl] at H;exact H
   clear H
   have H:=H1
   clear H1
   by_cases c7:(t508.length:Int)=5
   ·
    rw [if_pos c7] at H
    have c7b0:((t508.length:Int) == 5)=τ:=beq_iff_eq.mpr c7
    have c7b1:((t508.length:Int) != 5)=φ:=bne_eq_false_iff_eq.mpr c7
    clear c7
    (first|rw [c7b0]|(simp only [i64_w,i32_w];rw [c7b0])|skip)
    by_cases c8:0<(t508.length:Int)
    ·
     rw [if_pos c8] at H
     have c8b0:decide (0<(t508.length:Int))=τ:=decide_eq_true c8
     have c8b1:decide (0<t508.length)=τ:=decide_eq_true (by omega)
     clear c8
     have H':=ζa H
     clear H
     obtain ⟨Ao9,co9,eo9⟩:=Kd.R_slice HO511.out
     subst eo9
     have p512:0≤(0:Int):=(by omega)
     have q512:0<(t508.length:Int):=of_decide_eq_true (by first|(with_reducible assumption)|assumption)
     obtain ⟨ad512,e512,hx512_0⟩:=Kd.at_string (ζg HO511.out).2.2 0 p512 q512
     cases e512
     have qi512:(0<t508.length)=True:=eq_true (by omega)
     (try rw [show ((0:Int)).toNat=0 from rfl] at hx512_0)
     (try rw [Addr.add_zero'] at hx512_0)
     replace p512:=eq_true p512
     replace q512:=eq_true q512
     go_wp2
     go_meet
     case rel=>exact ⟨_,(((rdOf ByteArray.empty t508 0).toList != ([116]:List UInt8))),(by first|rfl|(simp;done)|(simp [*];done)),H',⟨by first|omega|exact Nat.le_refl _⟩,⟨by (with_reducible repeat (first|apply ζd|apply ζc|apply ζe));exact HO511.out⟩,⟨by (with_reducible repeat (first|refine δn ?_ _|refine δp ?_|refine δo ?_ _));exact BK507.out⟩,⟨by repeat (first|(with_reducible first|exact HB.out|apply δk|apply δi|apply δj|refine δq ?_ GE507.out)|exact HB.out)⟩⟩
    ·
     rw [if_neg c8] at H
     exact absurd H (by simp)
   ·
    rw [if_neg c7] at H
    have c7b0:((t508.length:Int) == 5)=φ:=beq_eq_false_iff_ne.mpr c7
    have c7b1:((t508.length:Int) != 5)=τ:=bne_iff_ne.mpr c7
    (first|rw [c7b0]|(simp only [i64_w,i32_w];rw [c7b0])|skip)
    have H':=ζa H
    clear H
    obtain ⟨Ao10,co10,eo10⟩:=Kd.R_slice HO511.out
    subst eo10
    go_wp2
    go_meet
    case rel=>exact ⟨_,(τ),(by first|rfl|(simp;done)|(simp [*];done)),H',⟨by first|omega|exact Nat.le_refl _⟩,⟨by (with_reducible repeat (first|apply ζd|apply ζc|apply ζe));exact HO511.out⟩,⟨by (with_reducible repeat (first|refine δn ?_ _|refine δp ?_|refine δo ?_ _));exact BK507.out⟩,⟨by repeat (first|(with_reducible first|exact HB.out|apply δk|apply δi|apply δj|refine δq ?_ GE507.out)|exact HB.out)⟩⟩
  ·
   replace c6:=Bool.eq_false_iff.mpr c6
   subst c6
   have H1:(impl_transferOf.j0 k t508 τ)=some (r1,r2,r3,r4,r5):=by rw [if_neg (show ¬ (φ=τ) by decide)] at H;exact H
   clear H
   have H:=H1
   clear H1
   have H':=ζa H
   clear H
   go_wp2
   go_meet
   case rel=>exact ⟨_,(τ),(by first|rfl|(simp;done)|(simp [*];done)),H',⟨by first|omega|exact Nat.le_refl _⟩,⟨by (with_reducible repeat (first|apply ζd|apply ζc|apply ζe));exact HO511.out⟩,⟨by (with_reducible repeat (first|refine δn ?_ _|refine δp ?_|refine δo ?_ _));exact BK507.out⟩,⟨by repeat (first|(with_reducible first|exact HB.out|apply δk|apply δi|apply δj|refine δq ?_ GE507.out)|exact HB.out)⟩⟩
 case rest =>
  clear HC3
  try clear c1
  try clear p2
  try clear p5
  try clear q5
  try clear hx5
  try clear qi5
  try clear c6
  try clear c7
  try clear c7b0
  try clear c7b1
  try clear c8
  try clear c8b0
  try clear c8b1
  try clear c9
  try clear hx512_0
  try clear p512
  try clear q512
  obtain ⟨kq,x26_2,rfl,HA,HJ2,HO_4,BK507,HB⟩:=hcut
  cases kq with
  | zero=>exact absurd HA.out (by simp [impl_transferOf.j0])
  | succ kj2 =>
   have H:=HA.out
   clear HA
   simp only [impl_transferOf.j0] at H
   by_cases c11:x26_2=τ
   ·
    subst c11
    have H1:(some ((⟨#[]⟩:ByteArray),0,(⟨#[]⟩:ByteArray),(⟨#[]⟩:ByteArray),φ))=some (r1,r2,r3,r4,r5):=by rw [if_pos rfl] at H;exact H
    clear H
    have H:=H1
    clear H1
    simp only [Option.some.injEq,Prod.mk.injEq] at H
    obtain ⟨rfl,rfl,rfl,rfl,rfl⟩:=H
    have hcz12_0:wc.cell? ⟨gb507,0,none⟩=some (.string (⟨#[]⟩:ByteArray)):=(δl BK507.out 0).trans rfl
    have hcz12_1:wc.cell? ⟨gb507,1,none⟩=some (.int .i64 0):=(δl BK507.out 1).trans rfl
    have hcz12_2:wc.cell? ⟨gb507,2,none⟩=some (.string (⟨#[]⟩:ByteArray)):=(δl BK507.out 2).trans rfl
    have hcz12_3:wc.cell? ⟨gb507,3,none⟩=some (.string (⟨#[]⟩:ByteArray)):=(δl BK507.out 3).trans rfl
    have hfz12_0:=δm BK507.out 0
    have hfz12_1:=δm BK507.out 1
    have hfz12_2:=δm BK507.out 2
    have hfz12_3:=δm BK507.out 3
    go_wp2
    refine bodyPost_ret (results_ct rfl _ _ gb507 61 #[.string (⟨#[]⟩:ByteArray),.int .i64 0,.string (⟨#[]⟩:ByteArray),.string (⟨#[]⟩:ByteArray)] (0,0) _ rfl (by (with_reducible repeat (first|refine δn ?_ _|refine δp ?_|refine δo ?_ _));refine δw (cs:=#[.string (⟨#[]⟩:ByteArray),.int .i64 0,.string (⟨#[]⟩:ByteArray),.string (⟨#[]⟩:ByteArray)]) ?_ 3 _ rfl;(with_reducible repeat (first|refine δn ?_ _|refine δp ?_|refine δo ?_ _));refine δw (cs:=#[.string (⟨#[]⟩:ByteArray),.int .i64 0,.string (⟨#[]⟩:ByteArray),.string (⟨#[]⟩:ByteArray)]) ?_ 2 _ rfl;(with_reducible repeat (first|refine δn ?_ _|refine δp ?_|refine δo ?_ _));refine δw (cs:=#[.string (⟨#[]⟩:ByteArray),.int .i64 0,.string (⟨#[]⟩:ByteArray),.string (⟨#[]⟩:ByteArray)]) ?_ 1 _ rfl;(with_reducible repeat (first|refine δn ?_ _|refine δp ?_|refine δo ?_ _));refine δw (cs:=#[.string (⟨#[]⟩:ByteArray),.int .i64 0,.string (⟨#[]⟩:ByteArray),.string (⟨#[]⟩:ByteArray)]) ?_ 0 _ rfl;(with_reducible repeat (first|refine δn ?_ _|refine δp ?_|refine δo ?_ _));exact BK507.out) Tryz.underlying61 rfl (by kernel_rfl)) rfl ?_
    exact ⟨by first|rfl|(simp [errW_none,errW_some] <;> rfl)|(simp [*,errW_none,errW_some] <;> rfl),by repeat (first|(with_reducible first|exact HB.out|apply δk|apply δi|apply δj|refine δq ?_ GE507.out)|exact HB.out)⟩
   ·
    replace c11:=Bool.eq_false_iff.mpr c11
    subst c11
    have H1:(if 2<(t508.length:Int) then ((impl_readAmount.f (rdOf ByteArray.empty t508 2)).bind fun bt514=>(if 1<(t508.length:Int) then (if 3<(t508.length:Int) then (if 4<(t508.length:Int) then ((impl_transfer_isRight.f kj2 (rdOf ByteArray.empty t508 1) bt514.1 (rdOf ByteArray.empty t508 3) (rdOf ByteArray.empty t508 4)).bind fun t520=>(some (rdOf ByteArray.empty t508 1,bt514.1,rdOf ByteArray.empty t508 3,rdOf ByteArray.empty t508 4,t520))) else (none)) else (none)) else (none))) else (none))=some (r1,r2,r3,r4,r5):=by rw [if_neg (show ¬ (φ=τ) by decide)] at H;exact H
    clear H
    have H:=H1
    clear H1
    by_cases c13:2<(t508.length:Int)
    ·
     rw [if_pos c13] at H
     have c13b0:decide (2<(t508.length:Int))=τ:=decide_eq_true c13
     have c13b1:decide (2<t508.length)=τ:=decide_eq_true (by omega)
     clear c13
     replace H:=Option.bind_eq_some_iff.mp H
     obtain ⟨⟨t514,t515⟩,A140,H⟩:=H
     replace H:(if 1<(t508.length:Int) then (if 3<(t508.length:Int) then (if 4<(t508.length:Int) then ((impl_transfer_isRight.f kj2 (rdOf ByteArray.empty t508 1) t514 (rdOf ByteArray.empty t508 3) (rdOf ByteArray.empty t508 4)).bind fun t520=>(some (rdOf ByteArray.empty t508 1,t514,rdOf ByteArray.empty t508 3,rdOf ByteArray.empty t508 4,t520))) else (none)) else (none)) else (none))=some (r1,r2,r3,r4,r5):=H
     have A14:=ζa A140
     clear A140
     by_cases c15:1<(t508.length:Int)
     ·
      rw [if_pos c15] at H
      have c15b0:decide (1<(t508.length:Int))=τ:=decide_eq_true c15
      have c15b1:decide (1<t508.length)=τ:=decide_eq_true (by omega)
      clear c15
      by_cases c16:3<(t508.length:Int)
      ·
       rw [if_pos c16] at H
       have c16b0:decide (3<(t508.length:Int))=τ:=decide_eq_true c16
       have c16b1:decide (3<t508.length)=τ:=decide_eq_true (by omega)
       clear c16
       by_cases c17:4<(t508.length:Int)
       ·
        rw [if_pos c17] at H
        have c17b0:decide (4<(t508.length:Int))=τ:=decide_eq_true c17
        have c17b1:decide (4<t508.length)=τ:=decide_eq_true (by omega)
        clear c17
        replace H:=Option.bind_eq_some_iff.mp H
        obtain ⟨t520,A180,H⟩:=H
        replace H:(some (rdOf ByteArray.empty t508 1,t514,rdOf ByteArray.empty t508 3,rdOf ByteArray.empty t508 4,t520))=some (r1,r2,r3,r4,r5):=H
        have A18:=ζa A180
        clear A180
        simp only [Option.some.injEq,Prod.mk.injEq] at H
        obtain ⟨rfl,rfl,rfl,rfl,rfl⟩:=H
        obtain ⟨Ao19,co19,eo19⟩:=Kd.R_slice HO_4.out
        subst eo19
        have p513:0≤(2:Int):=(by omega)
        have q513:2<(t508.length:Int):=of_decide_eq_true (by first|(with_reducible assumption)|assumption)
        obtain ⟨ad513,e513,hx513_0⟩:=Kd.at_string (ζg HO_4.out).2.2 2 p513 q513
        cases e513
        (try simp only [show (2:Int).toNat=2 from rfl,Nat.reduceMul,Nat.reduceEqDiff,Go.Addr.add,↓reduceIte] at hx513_0)
        have qi513:(2<t508.length)=True:=eq_true (by omega)
        (try rw [show ((2:Int)).toNat=2 from rfl] at hx513_0)
        replace p513:=eq_true p513
        replace q513:=eq_true q513
        try go_wp2_with (first|((with_reducible refine δv (f:=151) rfl ?_);refine goesL_ (some 32) rfl rfl Tryz.func151 (by kernel_rfl) rfl #[.string (rdOf ByteArray.empty t508 2)] rfl (by (try simp only [δd,δe,δf]);first|done|rfl|(simp only [δg,δh];rfl)) ?_;(with_reducible refine (impl_readAmount.calls (rdOf ByteArray.empty t508 2) t514 t515 _ (HT0.out.below (by repeat (first|(with_reducible first|exact HB.out|apply δk|apply δi|apply δj|refine δq ?_ GE507.out|refine δq ?_ GE519.out)|exact HB.out))) A14.out).mono ?_);rintro e w20 ⟨rfl,hb⟩;refine ⟨_,rfl,?_⟩;have n0_:=ζa (ζh (by (with_reducible repeat (first|apply ζd|apply ζc|apply ζe));exact HO_4.out) hb);have n1_:=ζa (blk_below (g:=gb507) (o:=.cells #[.string (⟨#[]⟩:ByteArray),.int .i64 0,.string (⟨#[]⟩:ByteArray),.string (⟨#[]⟩:ByteArray)] 61 (0,0)) (by (with_reducible repeat (first|refine δn ?_ _|refine δp ?_|refine δo ?_ _));exact BK507.out) hb);have n2_:=ζa (δr (by repeat (first|(with_reducible first|exact HB.out|apply δk|apply δi|apply δj|refine δq ?_ GE507.out)|exact HB.out)) hb);clear HO_4;clear BK507;clear HB;have HO_4:=n0_;have BK507:=n1_;have HB:=n2_;clear n0_ n1_ n2_;(try clear hb);(try clear hb2);(try clear hk);(try clear hi)))
        have n0_:=ζa (ζe HO_4.out)
        have n1_:=ζa (δp BK507.out)
        have n2_:=ζa (δj HB.out)
        clear HO_4
        clear BK507
        clear HB
        have HO_4:=n0_
        have BK507:=n1_
        have HB:=n2_
        clear n0_ n1_ n2_
        have p516:0≤(1:Int):=(by omega)
        have q516:1<(t508.length:Int):=of_decide_eq_true (by first|(with_reducible assumption)|assumption)
        obtain ⟨ad516,e516,hx516_0⟩:=Kd.at_string (ζg HO_4.out).2.2 1 p516 q516
        obtain rfl:ad513=ad516:=(by injection e516)
        (try simp only [show (1:Int).toNat=1 from rfl,Nat.reduceMul,Nat.reduceEqDiff,Go.Addr.add,↓reduceIte] at hx516_0)
        have qi516:(1<t508.length)=True:=eq_true (by omega)
        (try rw [show ((1:Int)).toNat=1 from rfl] at hx516_0)
        replace p516:=eq_true p516
        replace q516:=eq_true q516
        have p517:0≤(3:Int):=(by omega)
        have q517:3<(t508.length:Int):=of_decide_eq_true (by first|(with_reducible assumption)|assumption)
        obtain ⟨ad517,e517,hx517_0⟩:=Kd.at_string (ζg HO_4.out).2.2 3 p517 q517
        obtain rfl:ad513=ad517:=(by injection e517)
        (try simp only [show (3:Int).toNat=3 from rfl,Nat.reduceMul,Nat.reduceEqDiff,Go.Addr.add,↓reduceIte] at hx517_0)
        have qi517:(3<t508.length)=True:=eq_true (by omega)
        (try rw [show ((3:Int)).toNat=3 from rfl] at hx517_0)
        replace p517:=eq_true p517
        replace q517:=eq_true q517
        have p518:0≤(4:Int):=(by omega)
        have q518:4<(t508.length:Int):=of_decide_eq_true (by first|(with_reducible assumption)|assumption)
        obtain ⟨ad518,e518,hx518_0⟩:=Kd.at_string (ζg HO_4.out).2.2 4 p518 q518
        obtain rfl:ad513=ad518:=(by injection e518)
        (try simp only [show (4:Int).toNat=4 from rfl,Nat.reduceMul,Nat.reduceEqDiff,Go.Addr.add,↓reduceIte] at hx518_0)
        have qi518:(4<t508.length)=True:=eq_true (by omega)
        (try rw [show ((4:Int)).toNat=4 from rfl] at hx518_0)
        replace p518:=eq_true p518
        replace q518:=eq_true q518
        refine start_ (n:=13) (S:=fun w'=>w'.cell? ⟨ad513.block,ad513.off+1,none⟩=some (.string (rdOf ByteArray.empty t508 1))∧w'.cell? ⟨ad513.block,ad513.off+3,none⟩=some (.string (rdOf ByteArray.empty t508 3))∧w'.cell? ⟨ad513.block,ad513.off+4,none⟩=some (.string (rdOf ByteArray.empty t508 4))) (ds:=[]) #[φ,φ,φ,φ,φ,φ,φ,φ,φ,φ,φ,φ,φ] (by kernel_rfl) rfl rfl ⟨hx516_0,hx517_0,hx518_0⟩ (fun hHeld => ?_);refine with_tabW impl_transferOf.tab5 impl_transferOf.bits5 (fun HT_ HW_ => ?_)
        generalize w20.drew=w21 at HO_4 BK507 HB hx516_0 hx517_0 hx518_0 hHeld ⊢
        refine ζk (i:=0) (N:=some 35) (v:=?_) (a':=?_) #[τ,φ,φ,φ,φ,φ,φ,φ,φ,φ,φ,φ,φ] rfl rfl (ζj HT_.out (by kernel_rfl)) (fun _ _ _ h=>h) (Or.inl ⟨by rfl,?_⟩) ?_ ?_
        rotate_left
        · intro w';go_simp;with_reducible rfl
        rotate_left
        · simp only [ζl,δa,δb,δc,i64_w,i32_w];rfl
        refine ζk (i:=1) (N:=some 36) (v:=?_) (a':=?_) #[τ,τ,φ,φ,φ,φ,φ,φ,φ,φ,φ,φ,φ] rfl rfl (ζj HT_.out (by kernel_rfl)) (fun _ _ _ h=>h) (Or.inl ⟨by rfl,?_⟩) ?_ ?_
        rotate_left
        · intro w';go_simp;with_reducible rfl
        rotate_left
        · simp only [ζl,δa,δb,δc,i64_w,i32_w];rfl
        refine ζk (i:=3) (N:=some 38) (v:=?_) (a':=?_) #[τ,τ,φ,τ,φ,φ,φ,φ,φ,φ,φ,φ,φ] rfl rfl (ζj HT_.out (by kernel_rfl)) (fun _ _ _ h=>h) (Or.inl ⟨by rfl,?_⟩) ?_ ?_
        rotate_left
        · intro w';go_simp;with_reducible rfl
        rotate_left
        · simp only [ζl,δa,δb,δc,i64_w,i32_w];rfl
        refine ζk (i:=4) (N:=some 39) (v:=?_) (a':=?_) #[τ,τ,φ,τ,τ,φ,φ,φ,φ,φ,φ,φ,φ] rfl rfl (ζj HT_.out (by kernel_rfl)) (fun _ _ _ h=>h) (Or.inl ⟨by rfl,?_⟩) ?_ ?_
        rotate_left
        · intro w';go_simp;with_reducible rfl
        rotate_left
        · simp only [ζl,δa,δb,δc,i64_w,i32_w];rfl
        refine ζk (i:=5) (N:=some 40) (v:=?_) (a':=?_) #[τ,τ,φ,τ,τ,τ,φ,φ,φ,φ,φ,φ,φ] rfl rfl (ζj HT_.out (by kernel_rfl)) (fun _ _ _ h=>h) (Or.inl ⟨by rfl,?_⟩) ?_ ?_
        rotate_left
        · intro w';go_simp;with_reducible rfl
        rotate_left
        · simp only [ζl,δa,δb,δc,i64_w,i32_w];rfl
        refine ζk (i:=7) (N:=some 42) (v:=?_) (a':=?_) #[τ,τ,φ,τ,τ,τ,φ,τ,φ,φ,φ,φ,φ] rfl rfl (ζj HT_.out (by kernel_rfl)) (fun _ _ _ h=>h) (Or.inl ⟨by rfl,?_⟩) ?_ ?_
        rotate_left
        · intro w';go_simp;with_reducible rfl
        rotate_left
        · simp only [ζl,δa,δb,δc,i64_w,i32_w];rfl
        refine ζk (i:=8) (N:=some 43) (v:=?_) (a':=?_) #[τ,τ,φ,τ,τ,τ,φ,τ,τ,φ,φ,φ,φ] rfl rfl (ζj HT_.out (by kernel_rfl)) (fun _ _ _ h=>h) (Or.inl ⟨by rfl,?_⟩) ?_ ?_
        rotate_left
        · intro w';go_simp;with_reducible rfl
        rotate_left
        · simp only [ζl,δa,δb,δc,i64_w,i32_w];rfl
        refine take_ (i:=2) (N:=some 37) (v:=?_) (a':=?_) #[τ,τ,τ,τ,τ,τ,φ,τ,τ,φ,φ,φ,φ] rfl rfl (take_ofW HT_.out HW_.out (by kernel_rfl)) (fun _ _ _ h=>h) (Or.inl ⟨by rfl,?_⟩) hHeld ?_ ?_
        rotate_left
        · rintro w' ⟨s0,s1,s2⟩;go_simp;with_reducible rfl
        rotate_left
        · simp only [ζl,δa,δb,δc,i64_w,i32_w];rfl
        refine take_ (i:=6) (N:=some 41) (v:=?_) (a':=?_) #[τ,τ,τ,τ,τ,τ,τ,τ,τ,φ,φ,φ,φ] rfl rfl (take_ofW HT_.out HW_.out (by kernel_rfl)) (fun _ _ _ h=>h) (Or.inl ⟨by rfl,?_⟩) hHeld ?_ ?_
        rotate_left
        · rintro w' ⟨s0,s1,s2⟩;go_simp;with_reducible rfl
        rotate_left
        · simp only [ζl,δa,δb,δc,i64_w,i32_w];rfl
        refine take_ (i:=9) (N:=some 44) (v:=?_) (a':=?_) #[τ,τ,τ,τ,τ,τ,τ,τ,τ,τ,φ,φ,φ] rfl rfl (take_ofW HT_.out HW_.out (by kernel_rfl)) (fun _ _ _ h=>h) (Or.inl ⟨by rfl,?_⟩) hHeld ?_ ?_
        rotate_left
        · rintro w' ⟨s0,s1,s2⟩;go_simp;with_reducible rfl
        rotate_left
        · simp only [ζl,δa,δb,δc,i64_w,i32_w];rfl
        refine ζk (i:=10) (N:=some 45) (v:=?_) (a':=?_) #[τ,τ,τ,τ,τ,τ,τ,τ,τ,τ,τ,φ,φ] rfl rfl (ζj HT_.out (by kernel_rfl)) (fun _ _ _ h=>h) (Or.inl ⟨by rfl,?_⟩) ?_ ?_
        rotate_left
        · intro w';go_simp;with_reducible rfl
        rotate_left
        · simp only [ζl,δa,δb,δc,i64_w,i32_w];rfl
        refine one_ (i:=11) (N:=some 8) #[τ,τ,τ,τ,τ,τ,τ,τ,τ,τ,τ,τ,φ] rfl rfl (one_of HT_.out (by kernel_rfl)) (by decide) (fun K hK => ?_)
        refine box_step ?hg (N:=8) ?hd (cs:=#[.string (⟨#[]⟩:ByteArray),.int .i64 0,.string (⟨#[]⟩:ByteArray),.string (⟨#[]⟩:ByteArray)]) (t:=61) ?hr ?_;(case hd=>rfl);(case hg=>rfl);(case hr=>first|(go_simp;done)|(go_simp;rfl))
        intro gb519 hg w22 hbox hb
        have HS0_:=(hb.cell (World.block_lt_of_cell? _ _ (hHeld.1))).trans (hHeld.1)
        have HS1_:=(hb.cell (World.block_lt_of_cell? _ _ (hHeld.2.1))).trans (hHeld.2.1)
        have HS2_:=(hb.cell (World.block_lt_of_cell? _ _ (hHeld.2.2))).trans (hHeld.2.2)
        have n0_:=ζa (ζh (by (with_reducible repeat (first|apply ζd|apply ζc|apply ζe));exact HO_4.out) hb)
        have n1_:=ζa (blk_below (g:=gb507) (o:=.cells #[.string (⟨#[]⟩:ByteArray),.int .i64 0,.string (⟨#[]⟩:ByteArray),.string (⟨#[]⟩:ByteArray)] 61 (0,0)) (by (with_reducible repeat (first|refine δn ?_ _|refine δp ?_|refine δo ?_ _));exact BK507.out) hb)
        have n2_:=ζa (δr (by repeat (first|(with_reducible first|exact HB.out|apply δk|apply δi|apply δj|refine δq ?_ GE507.out)|exact HB.out)) hb)
        have n3_:=ζa (hbox)
        have n4_:=ζa ((by rw [hg];exact (δs (by repeat (first|(with_reducible first|exact HB.out|apply δk|apply δi|apply δj|refine δq ?_ GE507.out)|exact HB.out))):w.heap.size≤gb519))
        have n5_:=ζa ((by rw [hg];exact (δs (by repeat (first|(with_reducible first|exact HB.out|apply δk|apply δi|apply δj|refine δq ?_ GE507.out)|exact HB.out))):w.heap.size≤gb519))
        have n6_:=ζa ((by rw [hg];exact Nat.ne_of_lt (blk_lt (g:=gb507) (o:=.cells #[.string (⟨#[]⟩:ByteArray),.int .i64 0,.string (⟨#[]⟩:ByteArray),.string (⟨#[]⟩:ByteArray)] 61 (0,0)) (by (with_reducible repeat (first|refine δn ?_ _|refine δp ?_|refine δo ?_ _));exact BK507.out)):gb507≠gb519))
        have n7_:=ζa ((by rw [hg];exact Nat.ne_of_gt (blk_lt (g:=gb507) (o:=.cells #[.string (⟨#[]⟩:ByteArray),.int .i64 0,.string (⟨#[]⟩:ByteArray),.string (⟨#[]⟩:ByteArray)] 61 (0,0)) (by (with_reducible repeat (first|refine δn ?_ _|refine δp ?_|refine δo ?_ _));exact BK507.out)):gb519≠gb507))
        clear HO_4
        clear BK507
        clear HB
        have HO_4:=n0_
        have BK507:=n1_
        have HB:=n2_
        have BK519:=n3_
        have GW519:=n4_
        have GE519:=n5_
        have NB507_519:=n6_
        have NB519_507:=n7_
        clear n0_ n1_ n2_ n3_ n4_ n5_ n6_ n7_
        clear hb hbox hg
        refine hK.out _ _ ⟨HS0_,HS1_,HS2_⟩ (fun hHeld => ?_)
        clear hK K
        refine norm_ (a':=?_) ?_ ?_
        rotate_left
        ·
         show ζl _ (some 8) _=_
         simp only [ζl,δa,δb,δc,i64_w,i32_w];rfl
        refine one_ (i:=12) (N:=none) #[τ,τ,τ,τ,τ,τ,τ,τ,τ,τ,τ,τ,τ] rfl rfl (one_of HT_.out (by kernel_rfl)) (by decide) (fun K hK => ?_)
        have hs23:w22.cell? ⟨gb519,0,none⟩=some (.string (⟨#[]⟩:ByteArray)):=(δl BK519.out 0).trans rfl
        have hfs23:=δm BK519.out 0
        have hns23_0:=NB507_519.out
        have hms23_0:=NB519_507.out
        have hs24:w22.cell? ⟨gb519,1,none⟩=some (.int .i64 0):=(δl BK519.out 1).trans rfl
        have hfs24:=δm BK519.out 1
        have hns24_0:=NB507_519.out
        have hms24_0:=NB519_507.out
        have hs25:w22.cell? ⟨gb519,2,none⟩=some (.string (⟨#[]⟩:ByteArray)):=(δl BK519.out 2).trans rfl
        have hfs25:=δm BK519.out 2
        have hns25_0:=NB507_519.out
        have hms25_0:=NB519_507.out
        have hs26:w22.cell? ⟨gb519,3,none⟩=some (.string (⟨#[]⟩:ByteArray)):=(δl BK519.out 3).trans rfl
        have hfs26:=δm BK519.out 3
        have hns26_0:=NB507_519.out
        have hms26_0:=NB519_507.out
        refine skip_ (w1:=?_) (by rfl) rfl ?_ ?_
        rotate_left
        ·
         go_simp
         rfl
        refine hK.out _ _ ⟨((δt (p:=⟨gb519,_,none⟩) (by first|exact ζb (ζf HO_4.out BK519.out (by decide))|(rw [δu];exact ζb (ζf HO_4.out BK519.out (by decide)))|(show (Addr.add _ _).block≠_;rw [δu];exact ζb (ζf HO_4.out BK519.out (by decide)))|(dsimp only;exact ζb (ζf HO_4.out BK519.out (by decide)))) _).trans (((δt (p:=⟨gb519,_,none⟩) (by first|exact ζb (ζf HO_4.out BK519.out (by decide))|(rw [δu];exact ζb (ζf HO_4.out BK519.out (by decide)))|(show (Addr.add _ _).block≠_;rw [δu];exact ζb (ζf HO_4.out BK519.out (by decide)))|(dsimp only;exact ζb (ζf HO_4.out BK519.out (by decide)))) _).trans (((δt (p:=⟨gb519,_,none⟩) (by first|exact ζb (ζf HO_4.out BK519.out (by decide))|(rw [δu];exact ζb (ζf HO_4.out BK519.out (by decide)))|(show (Addr.add _ _).block≠_;rw [δu];exact ζb (ζf HO_4.out BK519.out (by decide)))|(dsimp only;exact ζb (ζf HO_4.out BK519.out (by decide)))) _).trans (((δt (p:=⟨gb519,_,none⟩) (by first|exact ζb (ζf HO_4.out BK519.out (by decide))|(rw [δu];exact ζb (ζf HO_4.out BK519.out (by decide)))|(show (Addr.add _ _).block≠_;rw [δu];exact ζb (ζf HO_4.out BK519.out (by decide)))|(dsimp only;exact ζb (ζf HO_4.out BK519.out (by decide)))) _).trans (hHeld.1)))))))),((δt (p:=⟨gb519,_,none⟩) (by first|exact ζb (ζf HO_4.out BK519.out (by decide))|(rw [δu];exact ζb (ζf HO_4.out BK519.out (by decide)))|(show (Addr.add _ _).block≠_;rw [δu];exact ζb (ζf HO_4.out BK519.out (by decide)))|(dsimp only;exact ζb (ζf HO_4.out BK519.out (by decide)))) _).trans (((δt (p:=⟨gb519,_,none⟩) (by first|exact ζb (ζf HO_4.out BK519.out (by decide))|(rw [δu];exact ζb (ζf HO_4.out BK519.out (by decide)))|(show (Addr.add _ _).block≠_;rw [δu];exact ζb (ζf HO_4.out BK519.out (by decide)))|(dsimp only;exact ζb (ζf HO_4.out BK519.out (by decide)))) _).trans (((δt (p:=⟨gb519,_,none⟩) (by first|exact ζb (ζf HO_4.out BK519.out (by decide))|(rw [δu];exact ζb (ζf HO_4.out BK519.out (by decide)))|(show (Addr.add _ _).block≠_;rw [δu];exact ζb (ζf HO_4.out BK519.out (by decide)))|(dsimp only;exact ζb (ζf HO_4.out BK519.out (by decide)))) _).trans (((δt (p:=⟨gb519,_,none⟩) (by first|exact ζb (ζf HO_4.out BK519.out (by decide))|(rw [δu];exact ζb (ζf HO_4.out BK519.out (by decide)))|(show (Addr.add _ _).block≠_;rw [δu];exact ζb (ζf HO_4.out BK519.out (by decide)))|(dsimp only;exact ζb (ζf HO_4.out BK519.out (by decide)))) _).trans (hHeld.2.1)))))))),((δt (p:=⟨gb519,_,none⟩) (by first|exact ζb (ζf HO_4.out BK519.out (by decide))|(rw [δu];exact ζb (ζf HO_4.out BK519.out (by decide)))|(show (Addr.add _ _).block≠_;rw [δu];exact ζb (ζf HO_4.out BK519.out (by decide)))|(dsimp only;exact ζb (ζf HO_4.out BK519.out (by decide)))) _).trans (((δt (p:=⟨gb519,_,none⟩) (by first|exact ζb (ζf HO_4.out BK519.out (by decide))|(rw [δu];exact ζb (ζf HO_4.out BK519.out (by decide)))|(show (Addr.add _ _).block≠_;rw [δu];exact ζb (ζf HO_4.out BK519.out (by decide)))|(dsimp only;exact ζb (ζf HO_4.out BK519.out (by decide)))) _).trans (((δt (p:=⟨gb519,_,none⟩) (by first|exact ζb (ζf HO_4.out BK519.out (by decide))|(rw [δu];exact ζb (ζf HO_4.out BK519.out (by decide)))|(show (Addr.add _ _).block≠_;rw [δu];exact ζb (ζf HO_4.out BK519.out (by decide)))|(dsimp only;exact ζb (ζf HO_4.out BK519.out (by decide)))) _).trans (((δt (p:=⟨gb519,_,none⟩) (by first|exact ζb (ζf HO_4.out BK519.out (by decide))|(rw [δu];exact ζb (ζf HO_4.out BK519.out (by decide)))|(show (Addr.add _ _).block≠_;rw [δu];exact ζb (ζf HO_4.out BK519.out (by decide)))|(dsimp only;exact ζb (ζf HO_4.out BK519.out (by decide)))) _).trans (hHeld.2.2))))))))⟩ (fun hHeld => ?_)
        clear hK K
        refine done_ (done_of HT_.out (by kernel_rfl)) ?_
        try go_wp2
        have n0_:Aside0 (Kd.R Kd.string 9 ((((w22.setCell ⟨gb519,0,none⟩ (.string (rdOf ByteArray.empty t508 1))).setCell ⟨gb519,1,none⟩ (.int .i64 t514)).setCell ⟨gb519,2,none⟩ (.string (rdOf ByteArray.empty t508 3))).setCell ⟨gb519,3,none⟩ (.string (rdOf ByteArray.empty t508 4))) w.heap.size (fun _=>True) (.slice (some ad513) t508.length co19) t508):=⟨by (with_reducible repeat (first|apply ζd|apply ζc|apply ζe));exact Kd.R_mono (ζi (p:=⟨gb519,3,none⟩) (ζi (p:=⟨gb519,2,none⟩) (ζi (p:=⟨gb519,1,none⟩) (ζi (p:=⟨gb519,0,none⟩) (Kd.R_types HO_4.out BK519.out (by decide)) (fun _ hk=>hk.2) (.string (rdOf ByteArray.empty t508 1))) (fun _ hk=>hk.2) (.int .i64 t514)) (fun _ hk=>hk.2) (.string (rdOf ByteArray.empty t508 3))) (fun _ hk=>hk.2) (.string (rdOf ByteArray.empty t508 4))) (fun _ hk=>trivial)⟩
        have n1_:Aside0 (((((w22.setCell ⟨gb519,0,none⟩ (.string (rdOf ByteArray.empty t508 1))).setCell ⟨gb519,1,none⟩ (.int .i64 t514)).setCell ⟨gb519,2,none⟩ (.string (rdOf ByteArray.empty t508 3))).setCell ⟨gb519,3,none⟩ (.string (rdOf ByteArray.empty t508 4))).heap[gb507]? = some (.cells #[.string (⟨#[]⟩:ByteArray),.int .i64 0,.string (⟨#[]⟩:ByteArray),.string (⟨#[]⟩:ByteArray)] 61 (0,0))):=⟨by (with_reducible repeat (first|refine δn ?_ _|refine δp ?_|refine δo ?_ _));refine blk_far ?_ NB507_519.out _;(with_reducible repeat (first|refine δn ?_ _|refine δp ?_|refine δo ?_ _));refine blk_far ?_ NB507_519.out _;(with_reducible repeat (first|refine δn ?_ _|refine δp ?_|refine δo ?_ _));refine blk_far ?_ NB507_519.out _;(with_reducible repeat (first|refine δn ?_ _|refine δp ?_|refine δo ?_ _));refine blk_far ?_ NB507_519.out _;(with_reducible repeat (first|refine δn ?_ _|refine δp ?_|refine δo ?_ _));exact BK507.out⟩
        have n2_:Aside0 (((((w22.setCell ⟨gb519,0,none⟩ (.string (rdOf ByteArray.empty t508 1))).setCell ⟨gb519,1,none⟩ (.int .i64 t514)).setCell ⟨gb519,2,none⟩ (.string (rdOf ByteArray.empty t508 3))).setCell ⟨gb519,3,none⟩ (.string (rdOf ByteArray.empty t508 4))).heap[gb519]? = some (.cells #[.string (rdOf ByteArray.empty t508 1),.int .i64 t514,.string (rdOf ByteArray.empty t508 3),.string (rdOf ByteArray.empty t508 4)] 61 (0,0))):=⟨by (with_reducible repeat (first|refine δn ?_ _|refine δp ?_|refine δo ?_ _));refine δw (cs:=#[.string (rdOf ByteArray.empty t508 1),.int .i64 t514,.string (rdOf ByteArray.empty t508 3),.string (⟨#[]⟩:ByteArray)]) ?_ 3 _ rfl;(with_reducible repeat (first|refine δn ?_ _|refine δp ?_|refine δo ?_ _));refine δw (cs:=#[.string (rdOf ByteArray.empty t508 1),.int .i64 t514,.string (⟨#[]⟩:ByteArray),.string (⟨#[]⟩:ByteArray)]) ?_ 2 _ rfl;(with_reducible repeat (first|refine δn ?_ _|refine δp ?_|refine δo ?_ _));refine δw (cs:=#[.string (rdOf ByteArray.empty t508 1),.int .i64 0,.string (⟨#[]⟩:ByteArray),.string (⟨#[]⟩:ByteArray)]) ?_ 1 _ rfl;(with_reducible repeat (first|refine δn ?_ _|refine δp ?_|refine δo ?_ _));refine δw (cs:=#[.string (⟨#[]⟩:ByteArray),.int .i64 0,.string (⟨#[]⟩:ByteArray),.string (⟨#[]⟩:ByteArray)]) ?_ 0 _ rfl;(with_reducible repeat (first|refine δn ?_ _|refine δp ?_|refine δo ?_ _));exact BK519.out⟩
        have n3_:Aside0 (Below w.heap.size w ((((w22.setCell ⟨gb519,0,none⟩ (.string (rdOf ByteArray.empty t508 1))).setCell ⟨gb519,1,none⟩ (.int .i64 t514)).setCell ⟨gb519,2,none⟩ (.string (rdOf ByteArray.empty t508 3))).setCell ⟨gb519,3,none⟩ (.string (rdOf ByteArray.empty t508 4)))):=⟨by repeat (first|(with_reducible first|exact HB.out|apply δk|apply δi|apply δj|refine δq ?_ GE507.out|refine δq ?_ GE519.out)|exact HB.out)⟩
        (try clear HO_4)
        (try clear BK507)
        (try clear BK519)
        (try clear HB)
        generalize ((((w22.setCell ⟨gb519,0,none⟩ (.string (rdOf ByteArray.empty t508 1))).setCell ⟨gb519,1,none⟩ (.int .i64 t514)).setCell ⟨gb519,2,none⟩ (.string (rdOf ByteArray.empty t508 3))).setCell ⟨gb519,3,none⟩ (.string (rdOf ByteArray.empty t508 4)))=w27 at n0_ n1_ n2_ n3_ ⊢
        have HO_4:=n0_
        have BK507:=n1_
        have BK519:=n2_
        have HB:=n3_
        clear n0_ n1_ n2_ n3_
        have n0_:=ζa (ζe HO_4.out)
        have n1_:=ζa (δp BK507.out)
        have n2_:=ζa (δp BK519.out)
        have n3_:=ζa (δj HB.out)
        clear HO_4
        clear BK507
        clear BK519
        clear HB
        have HO_4:=n0_
        have BK507:=n1_
        have BK519:=n2_
        have HB:=n3_
        clear n0_ n1_ n2_ n3_
        refine start_ (n:=5) (S:=fun w'=>w'.cell? ⟨gb519,0,none⟩=some (.string (rdOf ByteArray.empty t508 1))∧w'.cell? ⟨gb519,1,none⟩=some (.int .i64 t514)∧w'.cell? ⟨gb519,2,none⟩=some (.string (rdOf ByteArray.empty t508 3))∧w'.cell? ⟨gb519,3,none⟩=some (.string (rdOf ByteArray.empty t508 4))) (ds:=[]) #[φ,φ,φ,φ,φ] (by kernel_rfl) rfl rfl ⟨(δl BK519.out 0).trans rfl,(δl BK519.out 1).trans rfl,(δl BK519.out 2).trans rfl,(δl BK519.out 3).trans rfl⟩ (fun hHeld => ?_)
        generalize w27.drew=w28 at HO_4 BK507 BK519 HB hHeld ⊢
        refine take_ (i:=0) (N:=some 46) (v:=?_) (a':=?_) #[τ,φ,φ,φ,φ] rfl rfl (by kernel_rfl) (fun _ _ _ h=>h) (Or.inl ⟨by rfl,?_⟩) hHeld ?_ ?_
        rotate_left
        · rintro w' ⟨s0,s1,s2,s3⟩;go_simp;with_reducible rfl
        rotate_left
        · simp only [ζl,δa,δb,δc,i64_w,i32_w];rfl
        refine take_ (i:=1) (N:=some 47) (v:=?_) (a':=?_) #[τ,τ,φ,φ,φ] rfl rfl (by kernel_rfl) (fun _ _ _ h=>h) (Or.inl ⟨by rfl,?_⟩) hHeld ?_ ?_
        rotate_left
        · rintro w' ⟨s0,s1,s2,s3⟩;go_simp;with_reducible rfl
        rotate_left
        · simp only [ζl,δa,δb,δc,i64_w,i32_w];rfl
        refine one_ (i:=2) (N:=some 48) #[τ,τ,τ,φ,φ] rfl rfl (by kernel_rfl) (by decide) (fun K hK => ?_)
        refine goes_ Tryz.func92 (by kernel_rfl) rfl #[.agg #[.string (rdOf ByteArray.empty t508 1),.int .i64 t514,.string (rdOf ByteArray.empty t508 3),.string (rdOf ByteArray.empty t508 4)]] (by rfl) rfl rfl (by (try simp only [δd,δe,δf]);first|done|rfl|(simp only [δg,δh];rfl)) ?_
        with_reducible refine (impl_transfer_isRight.calls kj2 (rdOf ByteArray.empty t508 1) t514 (rdOf ByteArray.empty t508 3) (rdOf ByteArray.empty t508 4) t520 _ A18.out).mono ?_
        rintro e w29 ⟨rfl,hb⟩
        refine ⟨_,rfl,?_⟩
        have n0_:=ζa (ζh (by (with_reducible repeat (first|apply ζd|apply ζc|apply ζe));exact HO_4.out) hb)
        have n1_:=ζa (blk_below (g:=gb507) (o:=.cells #[.string (⟨#[]⟩:ByteArray),.int .i64 0,.string (⟨#[]⟩:ByteArray),.string (⟨#[]⟩:ByteArray)] 61 (0,0)) (by (with_reducible repeat (first|refine δn ?_ _|refine δp ?_|refine δo ?_ _));exact BK507.out) hb)
        have n2_:=ζa (blk_below (g:=gb519) (o:=.cells #[.string (rdOf ByteArray.empty t508 1),.int .i64 t514,.string (rdOf ByteArray.empty t508 3),.string (rdOf ByteArray.empty t508 4)] 61 (0,0)) (by (with_reducible repeat (first|refine δn ?_ _|refine δp ?_|refine δo ?_ _));exact BK519.out) hb)
        have n3_:=ζa (δr (by repeat (first|(with_reducible first|exact HB.out|apply δk|apply δi|apply δj|refine δq ?_ GE507.out|refine δq ?_ GE519.out)|exact HB.out)) hb)
        clear HO_4
        clear BK507
        clear BK519
        clear HB
        have HO_4:=n0_
        have BK507:=n1_
        have BK519:=n2_
        have HB:=n3_
        clear n0_ n1_ n2_ n3_
        (try clear hb)
        (try clear hb2)
        (try clear hk)
        (try clear hi)
        refine hK.out _ _ ⟨(δl BK519.out 0).trans rfl,(δl BK519.out 1).trans rfl,(δl BK519.out 2).trans rfl,(δl BK519.out 3).trans rfl⟩ (fun hHeld => ?_)
        clear hK K
        refine norm_ (a':=?_) ?_ ?_
        rotate_left
        ·
         show ζl _ (some 48) _=_
         simp only [ζl,δa,δb,δc,i64_w,i32_w];rfl
        refine one_ (i:=3) (N:=none) #[τ,τ,τ,τ,φ] rfl rfl (by kernel_rfl) (by decide) (fun K hK => ?_)
        have hs30:w29.cell? ⟨gb507,0,none⟩=some (.string (⟨#[]⟩:ByteArray)):=(δl BK507.out 0).trans rfl
        have hfs30:=δm BK507.out 0
        have hns30_1:=NB519_507.out
        have hms30_1:=NB507_519.out
        have hs31:w29.cell? ⟨gb507,1,none⟩=some (.int .i64 0):=(δl BK507.out 1).trans rfl
        have hfs31:=δm BK507.out 1
        have hns31_1:=NB519_507.out
        have hms31_1:=NB507_519.out
        have hs32:w29.cell? ⟨gb507,2,none⟩=some (.string (⟨#[]⟩:ByteArray)):=(δl BK507.out 2).trans rfl
        have hfs32:=δm BK507.out 2
        have hns32_1:=NB519_507.out
        have hms32_1:=NB507_519.out
        have hs33:w29.cell? ⟨gb507,3,none⟩=some (.string (⟨#[]⟩:ByteArray)):=(δl BK507.out 3).trans rfl
        have hfs33:=δm BK507.out 3
        have hns33_1:=NB519_507.out
        have hms33_1:=NB507_519.out
        refine skip_ (w1:=?_) (by rfl) rfl ?_ ?_
        rotate_left
        ·
         go_simp
         rfl
        refine hK.out _ _ ⟨((δt (p:=⟨gb507,_,none⟩) NB519_507.out _).trans (((δt (p:=⟨gb507,_,none⟩) NB519_507.out _).trans (((δt (p:=⟨gb507,_,none⟩) NB519_507.out _).trans (((δt (p:=⟨gb507,_,none⟩) NB519_507.out _).trans (hHeld.1)))))))),((δt (p:=⟨gb507,_,none⟩) NB519_507.out _).trans (((δt (p:=⟨gb507,_,none⟩) NB519_507.out _).trans (((δt (p:=⟨gb507,_,none⟩) NB519_507.out _).trans (((δt (p:=⟨gb507,_,none⟩) NB519_507.out _).trans (hHeld.2.1)))))))),((δt (p:=⟨gb507,_,none⟩) NB519_507.out _).trans (((δt (p:=⟨gb507,_,none⟩) NB519_507.out _).trans (((δt (p:=⟨gb507,_,none⟩) NB519_507.out _).trans (((δt (p:=⟨gb507,_,none⟩) NB519_507.out _).trans (hHeld.2.2.1)))))))),((δt (p:=⟨gb507,_,none⟩) NB519_507.out _).trans (((δt (p:=⟨gb507,_,none⟩) NB519_507.out _).trans (((δt (p:=⟨gb507,_,none⟩) NB519_507.out _).trans (((δt (p:=⟨gb507,_,none⟩) NB519_507.out _).trans (hHeld.2.2.2))))))))⟩ (fun hHeld => ?_)
        clear hK K
        refine ζk (i:=4) (N:=some 3) (v:=?_) (a':=?_) #[τ,τ,τ,τ,τ] rfl rfl (by kernel_rfl) (fun _ _ _ h=>h) (Or.inl ⟨by rfl,?_⟩) ?_ ?_
        rotate_left
        · intro w';go_simp;with_reducible rfl
        rotate_left
        · simp only [ζl,δa,δb,δc,i64_w,i32_w];rfl
        refine done_ (by kernel_rfl) ?_
        try go_wp2
        refine bodyPost_ret (results_ct rfl _ _ gb507 61 #[.string (rdOf ByteArray.empty t508 1),.int .i64 t514,.string (rdOf ByteArray.empty t508 3),.string (rdOf ByteArray.empty t508 4)] (0,0) _ rfl (by (with_reducible repeat (first|refine δn ?_ _|refine δp ?_|refine δo ?_ _));refine δw (cs:=#[.string (rdOf ByteArray.empty t508 1),.int .i64 t514,.string (rdOf ByteArray.empty t508 3),.string (⟨#[]⟩:ByteArray)]) ?_ 3 _ rfl;(with_reducible repeat (first|refine δn ?_ _|refine δp ?_|refine δo ?_ _));refine δw (cs:=#[.string (rdOf ByteArray.empty t508 1),.int .i64 t514,.string (⟨#[]⟩:ByteArray),.string (⟨#[]⟩:ByteArray)]) ?_ 2 _ rfl;(with_reducible repeat (first|refine δn ?_ _|refine δp ?_|refine δo ?_ _));refine δw (cs:=#[.string (rdOf ByteArray.empty t508 1),.int .i64 0,.string (⟨#[]⟩:ByteArray),.string (⟨#[]⟩:ByteArray)]) ?_ 1 _ rfl;(with_reducible repeat (first|refine δn ?_ _|refine δp ?_|refine δo ?_ _));refine δw (cs:=#[.string (⟨#[]⟩:ByteArray),.int .i64 0,.string (⟨#[]⟩:ByteArray),.string (⟨#[]⟩:ByteArray)]) ?_ 0 _ rfl;(with_reducible repeat (first|refine δn ?_ _|refine δp ?_|refine δo ?_ _));exact BK507.out) Tryz.underlying61 rfl (by kernel_rfl)) rfl ?_
        exact ⟨by first|rfl|(simp [errW_none,errW_some] <;> rfl)|(simp [*,errW_none,errW_some] <;> rfl),by repeat (first|(with_reducible first|exact HB.out|apply δk|apply δi|apply δj|refine δq ?_ GE507.out|refine δq ?_ GE519.out)|exact HB.out)⟩
       ·
        rw [if_neg c17] at H
        exact absurd H (by simp)
      ·
       rw [if_neg c16] at H
       exact absurd H (by simp)
     ·
      rw [if_neg c15] at H
      exact absurd H (by simp)
    ·
     rw [if_neg c13] at H
     exact absurd H (by simp)


open Bool renaming true → τ

/-! ### impl_supplyKey: function 156 -/
def impl_supplyKey.f (a0:ByteArray):Option (ByteArray):=if 2+a0.size≤9223372036854775807 then (some ((⟨#[115,47]⟩:ByteArray) ++ a0)) else (none)
set_option maxHeartbeats 8000000 in
set_option maxRecDepth 100000 in
theorem impl_supplyKey.calls (a0:ByteArray) (r:ByteArray) (w:World) (h:impl_supplyKey.f a0=some r) :
  Calls Tryz.prog 156 #[.string a0] w fun e w'=>e = .returned (.string r)∧Drawn0 w w':=by
 have H:(if 2+a0.size≤9223372036854775807 then (some ((⟨#[115,47]⟩:ByteArray) ++ a0)) else (none))=some r:=h
 clear h
 by_cases c2:2+a0.size≤9223372036854775807
 ·
  rw [if_pos c2] at H
  have c2b0:=eq_true c2
  have c2b1:decide (2+a0.size≤9223372036854775807)=τ:=decide_eq_true c2
  try have c2b2:(9223372036854775807<2+a0.size)=False:=eq_false (Nat.not_lt.2 c2)
  obtain rfl:=Option.some.inj H
  go_enter Tryz.func156,Tryz.ntmps156
  go_wp2
  go_ret
  exact ⟨by first|rfl|(simp;done)|(simp [*];done),by repeat (first|exact Drawn0.refl _|apply Drawn0.step)⟩
 ·
  rw [if_neg c2] at H
  exact absurd H (by simp)


open Go.Proofs.YtabmfhnhmoiljaaGreatDoorW.PrintWords renaming below_drew1 → δj, pw_below_drewN → δi, below_step → δr

/-! ### impl_mint_1_1: function 158 -/
set_option maxHeartbeats 2000000 in
set_option maxRecDepth 100000 in
theorem impl_mint_1_1.calls (k:Nat) (A0:Option Addr) (c0:Nat) (l0:List S51) (pd pn_:Addr) (d:ByteArray) (n_:Int) (r1:List S51) (r2:Int) (w:World) (hr0:Kd.C k51 w A0 l0.length l0) (hc0:l0.length≤c0) (hT0:TabsOK w) (hd:w.cell? pd=some (.string d)) (hn_:w.cell? pn_=some (.int .i64 n_))
  (h:((impl_supplyKey.f d).bind fun key=>impl_more.f k l0 key n_)=some (r1,r2)) :
  Calls Tryz.prog 158 #[.slice A0 l0.length c0,.pointer (some pd),.pointer (some pn_)] w fun e w' => ∃ v0_:Value,e = .returned (.tuple #[v0_,.int .i64 r2])∧(r2=0→Kd.R k51 51 w' w.heap.size (fun _=>True) v0_ r1)∧Below w.heap.size w w':=by
 obtain ⟨key,hk,h⟩:=Option.bind_eq_some_iff.mp h
 have HK:=ζa hk
 have HF:=ζa h
 have HR0:=ζa hr0
 have HC0:=ζa hc0
 have HT0:=ζa hT0
 have HB0:=ζa (Below.refl w.heap.size w)
 have Hd:=ζa hd
 have Hn_:=ζa hn_
 clear hk h hr0 hc0 hT0
 go_enter Tryz.func158,Tryz.ntmps158
 go_wp2_with fail
 go_region_held3 (fun w'=>w'.cell? pd=some (.string d)∧w'.cell? pn_=some (.int .i64 n_)) (first|go_keep|exact ⟨cell_keep HB3.out Hd.out,cell_keep HB3.out Hn_.out⟩)
  (first
   | (go_at_call 156;refine (impl_supplyKey.calls d key _ HK.out).mono ?_;rintro e w' ⟨rfl,⟨q',rfl⟩⟩)
   | (go_at_call 145;refine (impl_more.calls k A0 c0 l0 key n_ r1 r2 _ (by repeat (first|exact HR0.out|apply Kd.C_drew|apply Kd.C_drewN)) HC0.out (by first|exact HT0.out|exact HT0.out.below (by repeat (first|exact HB0.out|apply δj|apply δi))) HF.out).mono ?_;rintro e w3 ⟨v3,rfl,ho,hb⟩;have HO3:=ζa ho;have HB3:Aside0 (Below w.heap.size w w3):=⟨δr (by repeat (first|exact HB0.out|apply δj|apply δi)) hb⟩;clear ho hb))
 all_goals go_wp2
 all_goals (go_ret2;exact ⟨_,rfl,fun h0=>HO3.out h0,HB3.out⟩)



/-! ### impl_mint_1_2: function 159 -/
set_option maxHeartbeats 2000000 in
set_option maxRecDepth 100000 in
theorem impl_mint_1_2.calls (k:Nat) (A0:Option Addr) (c0:Nat) (l0:List S51) (pd pa pn_:Addr) (d a:ByteArray) (n_:Int) (r1:List S51) (r2:Int) (w:World) (hr0:Kd.C k51 w A0 l0.length l0) (hc0:l0.length≤c0) (hT0:TabsOK w) (hd:w.cell? pd=some (.string d)) (ha:w.cell? pa=some (.string a)) (hn_:w.cell? pn_=some (.int .i64 n_))
  (h:((impl_balanceKey.f d a).bind fun key=>impl_more.f k l0 key n_)=some (r1,r2)) :
  Calls Tryz.prog 159 #[.slice A0 l0.length c0,.pointer (some pd),.pointer (some pa),.pointer (some pn_)] w fun e w' => ∃ v0_:Value,e = .returned (.tuple #[v0_,.int .i64 r2])∧(r2=0→Kd.R k51 51 w' w.heap.size (fun _=>True) v0_ r1)∧Below w.heap.size w w':=by
 obtain ⟨key,hk,h⟩:=Option.bind_eq_some_iff.mp h
 have HK:=ζa hk
 have HF:=ζa h
 have HR0:=ζa hr0
 have HC0:=ζa hc0
 have HT0:=ζa hT0
 have HB0:=ζa (Below.refl w.heap.size w)
 have Hd:=ζa hd
 have Ha:=ζa ha
 have Hn_:=ζa hn_
 clear hk h hr0 hc0 hT0
 go_enter Tryz.func159,Tryz.ntmps159
 go_wp2_with fail
 go_region_held3 (fun w'=>w'.cell? pd=some (.string d)∧w'.cell? pa=some (.string a)∧w'.cell? pn_=some (.int .i64 n_)) (first|go_keep|exact ⟨cell_keep HB3.out Hd.out,cell_keep HB3.out Ha.out,cell_keep HB3.out Hn_.out⟩)
  (first
   | (go_at_call 143;refine (impl_balanceKey.calls d a key _ HK.out).mono ?_;rintro e w' ⟨rfl,⟨q',rfl⟩⟩)
   | (go_at_call 145;refine (impl_more.calls k A0 c0 l0 key n_ r1 r2 _ (by repeat (first|exact HR0.out|apply Kd.C_drew|apply Kd.C_drewN)) HC0.out (by first|exact HT0.out|exact HT0.out.below (by repeat (first|exact HB0.out|apply δj|apply δi))) HF.out).mono ?_;rintro e w3 ⟨v3,rfl,ho,hb⟩;have HO3:=ζa ho;have HB3:Aside0 (Below w.heap.size w w3):=⟨δr (by repeat (first|exact HB0.out|apply δj|apply δi)) hb⟩;clear ho hb))
 all_goals go_wp2
 all_goals (go_ret2;exact ⟨_,rfl,fun h0=>HO3.out h0,HB3.out⟩)


open Go.Proofs.YtabmfhnhmoiljaaGreatDoorW.PrintWords renaming below_alloc → δk, below_step → δr

/-! ### impl_mint_1: function 157 -/
def impl_mint.F (k:Nat) (a d:ByteArray) (n_:Int):List S51→Option (List S51 × Int):=fun l0=>impl_all.f k l0 [(fun l=>(impl_supplyKey.f d).bind fun key=>impl_more.f k l key n_),(fun l=>(impl_balanceKey.f d a).bind fun key=>impl_more.f k l key n_)]
set_option maxHeartbeats 2000000 in
set_option maxRecDepth 100000 in
theorem impl_mint_1.calls (k:Nat) (A0:Option Addr) (c0:Nat) (l0:List S51) (pa pd pn_:Addr) (a d:ByteArray) (n_:Int) (r1:List S51) (r2:Int) (w:World) (hr0:Kd.C k51 w A0 l0.length l0) (hc0:l0.length≤c0) (hT0:TabsOK w) (ha:w.cell? pa=some (.string a)) (hd:w.cell? pd=some (.string d)) (hn_:w.cell? pn_=some (.int .i64 n_)) (h:impl_mint.F k a d n_ l0=some (r1,r2)) :
  Calls Tryz.prog 157 #[.slice A0 l0.length c0,.pointer (some pd),.pointer (some pn_),.pointer (some pa)] w fun e w' => ∃ v0_:Value,e = .returned (.tuple #[v0_,.int .i64 r2])∧Kd.R k51 51 w' w.heap.size (fun _=>True) v0_ r1∧Below w.heap.size w w':=by
 have HH:=ζa h
 have HR0:=ζa hr0
 have HC0:=ζa hc0
 have HT0:=ζa hT0
 have Ha:=ζa ha
 have Hd:=ζa hd
 have Hn_:=ζa hn_
 have HB:=ζa (Below.refl w.heap.size w)
 clear h hr0 hc0 hT0 ha hd hn_
 go_enter Tryz.func157,Tryz.ntmps157
 go_wp2_with fail
 have HB1:Aside0 (Below w.heap.size w (w.alloc (.cells ([((158,#[.pointer (some pd),.pointer (some pn_)]):FV),(159,#[.pointer (some pd),.pointer (some pa),.pointer (some pn_)])].map encF).toArray 79))):=⟨δk HB.out _⟩
 refine (impl_all.calls k A0 c0 l0 _ _ [(158,#[.pointer (some pd),.pointer (some pn_)]),(159,#[.pointer (some pd),.pointer (some pa),.pointer (some pn_)])] [(fun l=>(impl_supplyKey.f d).bind fun key=>impl_more.f k l key n_),(fun l=>(impl_balanceKey.f d a).bind fun key=>impl_more.f k l key n_)] r1 r2 _ (Kd.C_alloc HR0.out _) HC0.out (rowF _ (show 2≤1000 by decide) (heap_alloc_new _ _)) rfl ?_ HH.out).mono ?_
 ·
  intro i x F hx hF
  rcases i with _|_|i
  ·
   simp only [List.getElem?_cons_zero,Option.some.injEq] at hx hF
   subst hx hF
   exact ⟨enters_of Tryz.func158 (by kernel_rfl) rfl,fun W A c l r code hb hr hc hF=>impl_mint_1_1.calls k A c l pd pn_ d n_ r code W hr hc ((HT0.out.below HB1.out).below hb) (cell_keep hb (cell_keep HB1.out Hd.out)) (cell_keep hb (cell_keep HB1.out Hn_.out)) hF⟩
  ·
   simp only [List.getElem?_cons_succ,List.getElem?_cons_zero,Option.some.injEq] at hx hF
   subst hx hF
   exact ⟨enters_of Tryz.func159 (by kernel_rfl) rfl,fun W A c l r code hb hr hc hF=>impl_mint_1_2.calls k A c l pd pa pn_ d a n_ r code W hr hc ((HT0.out.below HB1.out).below hb) (cell_keep hb (cell_keep HB1.out Hd.out)) (cell_keep hb (cell_keep HB1.out Ha.out)) (cell_keep hb (cell_keep HB1.out Hn_.out)) hF⟩
  · simp at hx
 rintro e w3 ⟨v3,rfl,ho,hb⟩
 have HO3:=ζa (Kd.R_lower ho HB1.out.size)
 have HB3:=ζa (δr HB1.out hb)
 clear ho hb
 go_wp2
 go_ret2
 exact ⟨_,rfl,HO3.out,HB3.out⟩


open Go.Proofs.YtabmfhnhmoiljaaGreatDoorW.PrintWords renaming gate_dst → δx, box_event → δz, below_step → δr, below_alloc → δk, pw_below_drewN → δi, below_drew1 → δj, blk_cell → δl

/-! ### impl_mint: function 100 -/
set_option maxHeartbeats 2000000 in
set_option maxRecDepth 100000 in
theorem impl_mint.calls (k:Nat) (a d:ByteArray) (n_:Int) (w:World) (hT0:TabsOK w) :
  Calls Tryz.prog 100 #[.string a,.string d,.int .i64 n_] w fun e w' => ∃ (g:Nat) (lb:Array Value),e = .returned (.func (.func g) #[] lb)∧ChgR w' (g,lb) (impl_mint.F k a d n_)∧Below w.heap.size w w':=by
 have HT0:=ζa hT0
 have HB:=ζa (Below.refl w.heap.size w)
 clear hT0
 go_enter Tryz.func100,Tryz.ntmps100
 go_wp2_with (first
  | ((with_reducible refine δx (N:=3) rfl ?_);refine δz ?hg (N:=3) ?hd (cs:=#[(.string a)]) (t:=9) ?hr ?_;(case hd=>rfl);(case hg=>rfl);(case hr=>first|(go_simp;done)|(go_simp;rfl));intro gba hg wa hbox hb;have n0_:=ζa (δr (by repeat (first|exact HB.out|apply δk|apply δi|apply δj)) hb);clear HB;have HB:=n0_;clear n0_;have BKa:=ζa hbox;clear hb hbox hg)
  | ((with_reducible refine δx (N:=4) rfl ?_);refine δz ?hg (N:=4) ?hd (cs:=#[(.string d)]) (t:=9) ?hr ?_;(case hd=>rfl);(case hg=>rfl);(case hr=>first|(go_simp;done)|(go_simp;rfl));intro gbd hg wd hbox hb;have n0_:=ζa (δr (by repeat (first|exact HB.out|apply δk|apply δi|apply δj)) hb);clear HB;have HB:=n0_;clear n0_;have BKd:=ζa hbox;have ma:=ζa (blk_below BKa.out hb);clear BKa;have BKa:=ma;clear ma;clear hb hbox hg)
  | ((with_reducible refine δx (N:=5) rfl ?_);refine δz ?hg (N:=5) ?hd (cs:=#[(.int .i64 n_)]) (t:=3) ?hr ?_;(case hd=>rfl);(case hg=>rfl);(case hr=>first|(go_simp;done)|(go_simp;rfl));intro gbn_ hg wn_ hbox hb;have n0_:=ζa (δr (by repeat (first|exact HB.out|apply δk|apply δi|apply δj)) hb);clear HB;have HB:=n0_;clear n0_;have BKn_:=ζa hbox;have ma:=ζa (blk_below BKa.out hb);clear BKa;have BKa:=ma;clear ma;have md:=ζa (blk_below BKd.out hb);clear BKd;have BKd:=md;clear md;clear hb hbox hg))
 go_ret
 refine ⟨_,_,rfl,⟨enters_of Tryz.func157 (by kernel_rfl) rfl,fun W A c l r code hb hr hc hF => ?_⟩,HB.out⟩
 exact (impl_mint_1.calls k A c l _ _ _ a d n_ r code W hr hc ((HT0.out.below HB.out).below hb) ((δl (blk_below BKa.out hb) 0).trans rfl) ((δl (blk_below BKd.out hb) 0).trans rfl) ((δl (blk_below BKn_.out hb) 0).trans rfl) hF)


open Go.Proofs.YtabmfhnhmoiljaaGreatDoorW.PrintWords renaming below_alloc → δk, below_drew1 → δj, pw_below_drewN → δi, below_step → δr, gate_dst → δx, box_event → δz, blk_cell → δl, blk_frozen → δm, below_set → δq, blk_put → δw, blk_alloc → δo, blk_drew → δp, blk_drewN → δn
open Go.Proofs.YtabmfhnhmoiljaaGreatDoorW.PrintWords.Kd renaming R_alloc → ζd, R_drew → ζe, R_drewN → ζc

/-! ### impl_doneCoins: function 56 -/
def impl_doneCoins.f (k:Nat) (name:ByteArray) (list:List S51) (data:ByteArray) (ok:Bool):Option (List S51 × Int) :=
 (impl_transferOf.f k data).bind fun q1=>if q1.2.2.2.2=τ then (if q1.1.toList=name.toList then (if ok=τ then ((slices_Clone_impl_Pair_impl_Pair.f list).bind fun q2=>some (q2,0)) else ((impl_move.F k (⟨#[101,115,99,114,111,119]⟩:ByteArray) q1.2.2.1 name q1.2.1 list).bind fun q3=>some (q3.1,q3.2))) else ((impl_otherName.f name).bind fun q4=>(impl_voucherOf.f q4).bind fun q5=>if q1.1.toList=q5.toList then (if ok=τ then ((slices_Clone_impl_Pair_impl_Pair.f list).bind fun q6=>some (q6,0)) else ((impl_mint.F k q1.2.2.1 q1.1 q1.2.1 list).bind fun q7=>some (q7.1,q7.2))) else ((slices_Clone_impl_Pair_impl_Pair.f list).bind fun q8=>some (q8,3)))) else ((slices_Clone_impl_Pair_impl_Pair.f list).bind fun q9=>some (q9,3))
set_option maxHeartbeats 4000000 in
set_option maxRecDepth 100000 in
theorem impl_doneCoins.calls (k:Nat) (name:ByteArray) (A_list:Option Addr) (c_list:Nat) (list:List S51) (data:ByteArray) (ok:Bool) (r1:List S51) (r2:Int) (w:World) (hr0_list:Kd.C k51 w A_list list.length list) (hc0_list:list.length≤c_list) (hT0:TabsOK w) (h:impl_doneCoins.f k name list data ok=some (r1,r2)) :
  Calls Tryz.prog 56 #[.string name,.slice A_list list.length c_list,.string data,.bool ok] w fun e w' => ∃ v0_:Value,e = .returned (.tuple #[v0_,.int .i64 r2])∧Kd.R k51 51 w' w.heap.size (fun _=>True) v0_ r1∧Below w.heap.size w w':=by
 have HR0_list:=ζa hr0_list
 have HC0_list:=ζa hc0_list
 clear hr0_list hc0_list
 have HT0:=ζa hT0
 clear hT0
 have HB0:=ζa (Below.refl w.heap.size w)
 unfold impl_doneCoins.f at h
 have HH:=ζa h
 clear h
 go_enter Tryz.func56,Tryz.ntmps56
 have h:=HH.out
 clear HH
 obtain ⟨⟨u0,u1,u2,u3,found⟩,h1_,h⟩:=Option.bind_eq_some_iff.mp h
 have HH:=ζa h
 have H1:=ζa h1_
 clear h h1_
 go_wp2_with fail
 refine (impl_transferOf.calls k data u0 u1 u2 u3 found _ (HT0.out.below (by repeat (first|exact HB0.out|apply δk|apply δj|apply δi))) H1.out).mono ?_
 rintro e w1 ⟨rfl,hb⟩
 have m_:=ζa (δr (by repeat (first|exact HB0.out|apply δk|apply δj|apply δi)) hb)
 clear hb
 have HB1:=m_
 clear m_
 have h:=HH.out
 clear HH
 cases found with
 | true =>
  rw [if_pos rfl] at h
  have HH:=ζa h
  clear h
  go_wp2_with (first|((with_reducible refine δx (N:=10) rfl ?_);refine δz ?hg (N:=10) ?hd (cs:=#[.string (⟨#[]⟩:ByteArray),.int .i64 0,.string (⟨#[]⟩:ByteArray),.string (⟨#[]⟩:ByteArray)]) (t:=61) ?hr ?_;(case hd=>rfl);(case hg=>rfl);(case hr=>first|(go_simp;done)|(go_simp;rfl));intro gbt hg w3 hbox hb;have hbc:=δr (show Below w1.heap.size w1 _ from by repeat (first|exact Below.refl _ _|apply δk|apply δj|apply δi)) hb;have GEt:Aside0 (w1.heap.size≤gbt):=⟨by rw [hg];exact Below.size (show Below w1.heap.size w1 _ from by repeat (first|exact Below.refl _ _|apply δk|apply δj|apply δi))⟩;have GWt:Aside0 (w.heap.size≤gbt):=⟨Nat.le_trans HB1.out.size GEt.out⟩;have BKZ:=ζa hbox;have HBZ:=ζa hbc;have hzz:=hbox;clear hb hbc hbox hg;have hzt_0:=(δl BKZ.out 0).trans rfl;have hzt_1:=(δl BKZ.out 1).trans rfl;have hzt_2:=(δl BKZ.out 2).trans rfl;have hzt_3:=(δl BKZ.out 3).trans rfl;have hft_0:=δm BKZ.out 0;have hft_1:=δm BKZ.out 1;have hft_2:=δm BKZ.out 2;have hft_3:=δm BKZ.out 3;clear hzz)|((with_reducible refine gate_store (t:=61) (p:=10) rfl ?_);refine store_event (t:=61) (p:=10) (v:=?vo3) (w1:=((((w3.setCell ⟨gbt,0,none⟩ (.string u0)).setCell ⟨gbt,1,none⟩ (.int .i64 u1)).setCell ⟨gbt,2,none⟩ (.string u2)).setCell ⟨gbt,3,none⟩ (.string u3))) ?hg ?ho ?hn ?hr ?_;(case ho=>rfl);(case hg=>rfl);(case hn=>rfl);(case hr=>(go_simp;done));intro w4 hw;have hbc:Below w1.heap.size w1 w4:=(by rw [hw];exact (δq (δq (δq (δq HBZ.out GEt.out) GEt.out) GEt.out) GEt.out));have BKt:Aside0 (w4.heap[gbt]? = some (.cells #[.string u0,.int .i64 u1,.string u2,.string u3] 61 (0,0))):=⟨by rw [hw];exact (δw (δw (δw (δw BKZ.out 0 _ rfl) 1 _ rfl) 2 _ rfl) 3 _ rfl)⟩;have m_:=ζa (δr HB1.out hbc);have HB3:=m_;clear m_;clear hbc hw BKZ HBZ;clear hzt_0 hft_0 hzt_1 hft_1 hzt_2 hft_2 hzt_3 hft_3;have hzt_0:=(δl BKt.out 0).trans rfl;have hzt_1:=(δl BKt.out 1).trans rfl;have hzt_2:=(δl BKt.out 2).trans rfl;have hzt_3:=(δl BKt.out 3).trans rfl;have hft_0:=δm BKt.out 0;have hft_1:=δm BKt.out 1;have hft_2:=δm BKt.out 2;have hft_3:=δm BKt.out 3))
  refine (impl_move.calls k ((⟨#[101,115,99,114,111,119]⟩:ByteArray)) u2 name u1 _ (HT0.out.below (by repeat (first|exact HB3.out|apply δk|apply δj|apply δi)))).mono ?_
  rintro e w5 ⟨g_m,lb_m,rfl,hch,hb⟩
  have m_:=ζa (blk_below (by repeat (first|exact BKt.out|apply δo|apply δp|apply δn)) hb)
  clear BKt
  have BKt:=m_
  clear m_
  clear hzt_0 hft_0 hzt_1 hft_1 hzt_2 hft_2 hzt_3 hft_3
  have m_:=ζa (δr (by repeat (first|exact HB3.out|apply δk|apply δj|apply δi)) hb)
  clear hb
  have HB5:=m_
  clear m_
  have CH_m:=ζa hch
  have eg_m : ∀ args w,(callFunc g_m args).run Tryz.prog w = .ok (.enter g_m args) w:=hch.enters
  clear hch
  have hzt_0:=(δl BKt.out 0).trans rfl
  have hft_0:=δm BKt.out 0
  have hzt_1:=(δl BKt.out 1).trans rfl
  have hft_1:=δm BKt.out 1
  have hzt_2:=(δl BKt.out 2).trans rfl
  have hft_2:=δm BKt.out 2
  have hzt_3:=(δl BKt.out 3).trans rfl
  have hft_3:=δm BKt.out 3
  have h:=HH.out
  clear HH
  by_cases cc6:u0.toList=name.toList
  ·
   rw [if_pos cc6] at h
   have HH:=ζa h
   clear h
   have f6a:(u0.toList == name.toList)=τ:=beq_iff_eq.mpr cc6
   have f6b:(u0.toList != name.toList)=φ:=bne_eq_false_iff_eq.mpr cc6
   have C6:=ζa cc6
   clear cc6
   have h:=HH.out
   clear HH
   cases ok with
   | true =>
    rw [if_pos rfl] at h
    have HH:=ζa h
    clear h
    have h:=HH.out
    clear HH
    obtain ⟨o2,h8_,h⟩:=Option.bind_eq_some_iff.mp h
    have HH:=ζa h
    have H8:=ζa h8_
    clear h h8_
    go_wp2_with fail
    refine (slices_Clone_impl_Pair_impl_Pair.calls A_list c_list list o2 _ (by repeat (first|exact Kd.C_below HR0_list.out HB5.out|apply Kd.C_alloc|apply Kd.C_drew|apply Kd.C_drewN)) HC0_list.out H8.out).mono ?_
    rintro e w8 ⟨v8,rfl,ho,hb⟩
    have m_:=ζa (blk_below (by repeat (first|exact BKt.out|apply δo|apply δp|apply δn)) hb)
    clear BKt
    have BKt:=m_
    clear m_
    have m_:=ζa (CH_m.out.below (δr (by repeat (first|exact Below.refl _ _|apply δk|apply δj|apply δi)) hb))
    clear CH_m
    have CH_m:=m_
    clear m_
    clear hzt_0 hft_0 hzt_1 hft_1 hzt_2 hft_2 hzt_3 hft_3
    have ho':=Kd.R_lower ho (Below.size (show Below w.heap.size w _ from by repeat (first|exact HB5.out|apply δk|apply δj|apply δi)))
    obtain ⟨adr8,cap8,rfl,hl8,hq8⟩:=Kd.R_reads ho'
    have HC8:=ζa hl8
    have HRn8:=ζa hq8
    have HOn8:=ζa ho'
    clear hl8 hq8 ho ho'
    have m_:=ζa (δr (by repeat (first|exact HB5.out|apply δk|apply δj|apply δi)) hb)
    clear hb
    have HB8:=m_
    clear m_
    have hzt_0:=(δl BKt.out 0).trans rfl
    have hft_0:=δm BKt.out 0
    have hzt_1:=(δl BKt.out 1).trans rfl
    have hft_1:=δm BKt.out 1
    have hzt_2:=(δl BKt.out 2).trans rfl
    have hft_2:=δm BKt.out 2
    have hzt_3:=(δl BKt.out 3).trans rfl
    have hft_3:=δm BKt.out 3
    have h:=HH.out
    clear HH
    simp only [Option.some.injEq,Prod.mk.injEq] at h
    obtain ⟨rfl,rfl⟩:=h
    go_wp2
    go_ret2
    exact ⟨_,rfl,(by repeat (first|exact HOn8.out|apply ζd|apply ζe|apply ζc)),(by repeat (first|exact HB8.out|apply δk|apply δj|apply δi))⟩
   | false =>
    rw [if_neg (by decide)] at h
    have HH:=ζa h
    clear h
    have h:=HH.out
    clear HH
    obtain ⟨⟨o1,c1⟩,h9_,h⟩:=Option.bind_eq_some_iff.mp h
    have HH:=ζa h
    have H9:=ζa h9_
    clear h h9_
    go_wp2_with fail
    refine (CH_m.out.calls _ A_list c_list list o1 c1 (by repeat (first|exact Below.refl _ _|apply δk|apply δj|apply δi)) (by repeat (first|exact Kd.C_below HR0_list.out HB5.out|apply Kd.C_alloc|apply Kd.C_drew|apply Kd.C_drewN)) HC0_list.out H9.out).mono ?_
    rintro e w9 ⟨v9,rfl,ho,hb⟩
    have m_:=ζa (blk_below (by repeat (first|exact BKt.out|apply δo|apply δp|apply δn)) hb)
    clear BKt
    have BKt:=m_
    clear m_
    clear hzt_0 hft_0 hzt_1 hft_1 hzt_2 hft_2 hzt_3 hft_3
    have ho':=Kd.R_lower ho (Below.size (show Below w.heap.size w _ from by repeat (first|exact HB5.out|apply δk|apply δj|apply δi)))
    obtain ⟨adr9,cap9,rfl,hl9,hq9⟩:=Kd.R_reads ho'
    have HC9:=ζa hl9
    have HRn9:=ζa hq9
    have HOn9:=ζa ho'
    clear hl9 hq9 ho ho'
    have m_:=ζa (δr (by repeat (first|exact HB5.out|apply δk|apply δj|apply δi)) hb)
    clear hb
    have HB9:=m_
    clear m_
    have hzt_0:=(δl BKt.out 0).trans rfl
    have hft_0:=δm BKt.out 0
    have hzt_1:=(δl BKt.out 1).trans rfl
    have hft_1:=δm BKt.out 1
    have hzt_2:=(δl BKt.out 2).trans rfl
    have hft_2:=δm BKt.out 2
    have hzt_3:=(δl BKt.out 3).trans rfl
    have hft_3:=δm BKt.out 3
    have h:=HH.out
    clear HH
    simp only [Option.some.injEq,Prod.mk.injEq] at h
    obtain ⟨rfl,rfl⟩:=h
    go_wp2
    go_ret2
    exact ⟨_,rfl,(by repeat (first|exact HOn9.out|apply ζd|apply ζe|apply ζc)),(by repeat (first|exact HB9.out|apply δk|apply δj|apply δi))⟩
  ·
   rw [if_neg cc6] at h
   have HH:=ζa h
   clear h
   have f6a:(u0.toList == name.toList)=φ:=beq_eq_false_iff_ne.mpr cc6
   have f6b:(u0.toList != name.toList)=τ:=bne_iff_ne.mpr cc6
   have C6:=ζa cc6
   clear cc6
   have h:=HH.out
   clear HH
   obtain ⟨x1,h10_,h⟩:=Option.bind_eq_some_iff.mp h
   have HH:=ζa h
   have H10:=ζa h10_
   clear h h10_
   have h:=HH.out
   clear HH
   obtain ⟨x2,h11_,h⟩:=Option.bind_eq_some_iff.mp h
   have HH:=ζa h
   have H11:=ζa h11_
   clear h h11_
   have h:=HH.out
   clear HH
   by_cases cc12:u0.toList=x2.toList
   ·
    rw [if_pos cc12] at h
    have HH:=ζa h
    clear h
    have f12a:(u0.toList == x2.toList)=τ:=beq_iff_eq.mpr cc12
    have f12b:(u0.toList != x2.toList)=φ:=bne_eq_false_iff_eq.mpr cc12
    have C12:=ζa cc12
    clear cc12
    go_wp2_with fail
    have HBr:=ζa HB5.out
    go_region_held3 (fun w'=>w'.cell? ⟨gbt,0,none⟩=some (.string u0)∧w'.cell? ⟨gbt,1,none⟩=some (.int .i64 u1)∧w'.cell? ⟨gbt,2,none⟩=some (.string u2)∧w'.cell? ⟨gbt,3,none⟩=some (.string u3)) (first|go_keep|exact ⟨(δl (by repeat (first|exact BKt.out|apply δo|apply δp|apply δn)) 0).trans rfl,(δl (by repeat (first|exact BKt.out|apply δo|apply δp|apply δn)) 1).trans rfl,(δl (by repeat (first|exact BKt.out|apply δo|apply δp|apply δn)) 2).trans rfl,(δl (by repeat (first|exact BKt.out|apply δo|apply δp|apply δn)) 3).trans rfl⟩)
     (first
      | (go_at_call 94;refine (impl_otherName.calls name x1 _ H10.out).mono ?_;rintro e w' ⟨rfl,⟨q',rfl⟩⟩)
      | (go_at_call 93;refine (impl_voucherOf.calls x1 x2 _ H11.out).mono ?_;rintro e w' ⟨rfl,⟨q',rfl⟩⟩))
    all_goals
     go_wp2_with fail
     refine (impl_mint.calls k u2 u0 u1 _ (HT0.out.below (by repeat (first|exact HBr.out|apply δk|apply δj|apply δi)))).mono ?_
     rintro e w13 ⟨g_b,lb_b,rfl,hch,hb⟩
     have m_:=ζa (blk_below (by repeat (first|exact BKt.out|apply δo|apply δp|apply δn)) hb)
     clear BKt
     have BKt:=m_
     clear m_
     have m_:=ζa (CH_m.out.below (δr (by repeat (first|exact Below.refl _ _|apply δk|apply δj|apply δi)) hb))
     clear CH_m
     have CH_m:=m_
     clear m_
     clear hzt_0 hft_0 hzt_1 hft_1 hzt_2 hft_2 hzt_3 hft_3
     have m_:=ζa (δr (by repeat (first|exact HBr.out|apply δk|apply δj|apply δi)) hb)
     clear hb
     have HB13:=m_
     clear m_
     have CH_b:=ζa hch
     have eg_b : ∀ args w,(callFunc g_b args).run Tryz.prog w = .ok (.enter g_b args) w:=hch.enters
     clear hch
     have hzt_0:=(δl BKt.out 0).trans rfl
     have hft_0:=δm BKt.out 0
     have hzt_1:=(δl BKt.out 1).trans rfl
     have hft_1:=δm BKt.out 1
     have hzt_2:=(δl BKt.out 2).trans rfl
     have hft_2:=δm BKt.out 2
     have hzt_3:=(δl BKt.out 3).trans rfl
     have hft_3:=δm BKt.out 3
     have h:=HH.out
     clear HH
     cases ok with
     | true =>
      rw [if_pos rfl] at h
      have HH:=ζa h
      clear h
      have h:=HH.out
      clear HH
      obtain ⟨o2,h15_,h⟩:=Option.bind_eq_some_iff.mp h
      have HH:=ζa h
      have H15:=ζa h15_
      clear h h15_
      go_wp2_with fail
      refine (slices_Clone_impl_Pair_impl_Pair.calls A_list c_list list o2 _ (by repeat (first|exact Kd.C_below HR0_list.out HB13.out|apply Kd.C_alloc|apply Kd.C_drew|apply Kd.C_drewN)) HC0_list.out H15.out).mono ?_
      rintro e w15 ⟨v15,rfl,ho,hb⟩
      have m_:=ζa (blk_below (by repeat (first|exact BKt.out|apply δo|apply δp|apply δn)) hb)
      clear BKt
      have BKt:=m_
      clear m_
      have m_:=ζa (CH_m.out.below (δr (by repeat (first|exact Below.refl _ _|apply δk|apply δj|apply δi)) hb))
      clear CH_m
      have CH_m:=m_
      clear m_
      have m_:=ζa (CH_b.out.below (δr (by repeat (first|exact Below.refl _ _|apply δk|apply δj|apply δi)) hb))
      clear CH_b
      have CH_b:=m_
      clear m_
      clear hzt_0 hft_0 hzt_1 hft_1 hzt_2 hft_2 hzt_3 hft_3
      have ho':=Kd.R_lower ho (Below.size (show Below w.heap.size w _ from by repeat (first|exact HB13.out|apply δk|apply δj|apply δi)))
      obtain ⟨adr15,cap15,rfl,hl15,hq15⟩:=Kd.R_reads ho'
      have HC15:=ζa hl15
      have HRn15:=ζa hq15
      have HOn15:=ζa ho'
      clear hl15 hq15 ho ho'
      have m_:=ζa (δr (by repeat (first|exact HB13.out|apply δk|apply δj|apply δi)) hb)
      clear hb
      have HB15:=m_
      clear m_
      have hzt_0:=(δl BKt.out 0).trans rfl
      have hft_0:=δm BKt.out 0
      have hzt_1:=(δl BKt.out 1).trans rfl
      have hft_1:=δm BKt.out 1
      have hzt_2:=(δl BKt.out 2).trans rfl
      have hft_2:=δm BKt.out 2
      have hzt_3:=(δl BKt.out 3).trans rfl
      have hft_3:=δm BKt.out 3
      have h:=HH.out
      clear HH
      simp only [Option.some.injEq,Prod.mk.injEq] at h
      obtain ⟨rfl,rfl⟩:=h
      go_wp2
      go_ret2
      exact ⟨_,rfl,(by repeat (first|exact HOn15.out|apply ζd|apply ζe|apply ζc)),(by repeat (first|exact HB15.out|apply δk|apply δj|apply δi))⟩
     | false =>
      rw [if_neg (by decide)] at h
      have HH:=ζa h
      clear h
      have h:=HH.out
      clear HH
      obtain ⟨⟨o1,c1⟩,h16_,h⟩:=Option.bind_eq_some_iff.mp h
      have HH:=ζa h
      have H16:=ζa h16_
      clear h h16_
      go_wp2_with fail
      refine (CH_b.out.calls _ A_list c_list list o1 c1 (by repeat (first|exact Below.refl _ _|apply δk|apply δj|apply δi)) (by repeat (first|exact Kd.C_below HR0_list.out HB13.out|apply Kd.C_alloc|apply Kd.C_drew|apply Kd.C_drewN)) HC0_list.out H16.out).mono ?_
      rintro e w16 ⟨v16,rfl,ho,hb⟩
      have m_:=ζa (blk_below (by repeat (first|exact BKt.out|apply δo|apply δp|apply δn)) hb)
      clear BKt
      have BKt:=m_
      clear m_
      have m_:=ζa (CH_m.out.below (δr (by repeat (first|exact Below.refl _ _|apply δk|apply δj|apply δi)) hb))
      clear CH_m
      have CH_m:=m_
      clear m_
      clear hzt_0 hft_0 hzt_1 hft_1 hzt_2 hft_2 hzt_3 hft_3
      have ho':=Kd.R_lower ho (Below.size (show Below w.heap.size w _ from by repeat (first|exact HB13.out|apply δk|apply δj|apply δi)))
      obtain ⟨adr16,cap16,rfl,hl16,hq16⟩:=Kd.R_reads ho'
      have HC16:=ζa hl16
      have HRn16:=ζa hq16
      have HOn16:=ζa ho'
      clear hl16 hq16 ho ho'
      have m_:=ζa (δr (by repeat (first|exact HB13.out|apply δk|apply δj|apply δi)) hb)
      clear hb
      have HB16:=m_
      clear m_
      have hzt_0:=(δl BKt.out 0).trans rfl
      have hft_0:=δm BKt.out 0
      have hzt_1:=(δl BKt.out 1).trans rfl
      have hft_1:=δm BKt.out 1
      have hzt_2:=(δl BKt.out 2).trans rfl
      have hft_2:=δm BKt.out 2
      have hzt_3:=(δl BKt.out 3).trans rfl
      have hft_3:=δm BKt.out 3
      have h:=HH.out
      clear HH
      simp only [Option.some.injEq,Prod.mk.injEq] at h
      obtain ⟨rfl,rfl⟩:=h
      go_wp2
      go_ret2
      exact ⟨_,rfl,(by repeat (first|exact HOn16.out|apply ζd|apply ζe|apply ζc)),(by repeat (first|exact HB16.out|apply δk|apply δj|apply δi))⟩
   ·
    rw [if_neg cc12] at h
    have HH:=ζa h
    clear h
    have f12a:(u0.toList == x2.toList)=φ:=beq_eq_false_iff_ne.mpr cc12
    have f12b:(u0.toList != x2.toList)=τ:=bne_iff_ne.mpr cc12
    have C12:=ζa cc12
    clear cc12
    go_wp2_with fail
    have HBr:=ζa HB5.out
    go_region_held3 (fun w'=>w'.cell? ⟨gbt,0,none⟩=some (.string u0)∧w'.cell? ⟨gbt,1,none⟩=some (.int .i64 u1)∧w'.cell? ⟨gbt,2,none⟩=some (.string u2)∧w'.cell? ⟨gbt,3,none⟩=some (.string u3)) (first|go_keep|exact ⟨(δl (by repeat (first|exact BKt.out|apply δo|apply δp|apply δn)) 0).trans rfl,(δl (by repeat (first|exact BKt.out|apply δo|apply δp|apply δn)) 1).trans rfl,(δl (by repeat (first|exact BKt.out|apply δo|apply δp|apply δn)) 2).trans rfl,(δl (by repeat (first|exact BKt.out|apply δo|apply δp|apply δn)) 3).trans rfl⟩)
     (first
      | (go_at_call 94;refine (impl_otherName.calls name x1 _ H10.out).mono ?_;rintro e w' ⟨rfl,⟨q',rfl⟩⟩)
      | (go_at_call 93;refine (impl_voucherOf.calls x1 x2 _ H11.out).mono ?_;rintro e w' ⟨rfl,⟨q',rfl⟩⟩))
    all_goals
     have h:=HH.out
     clear HH
     obtain ⟨o2,h17_,h⟩:=Option.bind_eq_some_iff.mp h
     have HH:=ζa h
     have H17:=ζa h17_
     clear h h17_
     go_wp2_with fail
     refine (slices_Clone_impl_Pair_impl_Pair.calls A_list c_list list o2 _ (by repeat (first|exact Kd.C_below HR0_list.out HBr.out|apply Kd.C_alloc|apply Kd.C_drew|apply Kd.C_drewN)) HC0_list.out H17.out).mono ?_
     rintro e w17 ⟨v17,rfl,ho,hb⟩
     have m_:=ζa (blk_below (by repeat (first|exact BKt.out|apply δo|apply δp|apply δn)) hb)
     clear BKt
     have BKt:=m_
     clear m_
     have m_:=ζa (CH_m.out.below (δr (by repeat (first|exact Below.refl _ _|apply δk|apply δj|apply δi)) hb))
     clear CH_m
     have CH_m:=m_
     clear m_
     clear hzt_0 hft_0 hzt_1 hft_1 hzt_2 hft_2 hzt_3 hft_3
     have ho':=Kd.R_lower ho (Below.size (show Below w.heap.size w _ from by repeat (first|exact HBr.out|apply δk|apply δj|apply δi)))
     obtain ⟨adr17,cap17,rfl,hl17,hq17⟩:=Kd.R_reads ho'
     have HC17:=ζa hl17
     have HRn17:=ζa hq17
     have HOn17:=ζa ho'
     clear hl17 hq17 ho ho'
     have m_:=ζa (δr (by repeat (first|exact HBr.out|apply δk|apply δj|apply δi)) hb)
     clear hb
     have HB17:=m_
     clear m_
     have hzt_0:=(δl BKt.out 0).trans rfl
     have hft_0:=δm BKt.out 0
     have hzt_1:=(δl BKt.out 1).trans rfl
     have hft_1:=δm BKt.out 1
     have hzt_2:=(δl BKt.out 2).trans rfl
     have hft_2:=δm BKt.out 2
     have hzt_3:=(δl BKt.out 3).trans rfl
     have hft_3:=δm BKt.out 3
     have h:=HH.out
     clear HH
     simp only [Option.some.injEq,Prod.mk.injEq] at h
     obtain ⟨rfl,rfl⟩:=h
     go_wp2
     go_ret2
     exact ⟨_,rfl,(by repeat (first|exact HOn17.out|apply ζd|apply ζe|apply ζc)),(by repeat (first|exact HB17.out|apply δk|apply δj|apply δi))⟩
 | false =>
  rw [if_neg (by decide)] at h
  have HH:=ζa h
  clear h
  go_wp2_with (first|((with_reducible refine δx (N:=10) rfl ?_);refine δz ?hg (N:=10) ?hd (cs:=#[.string (⟨#[]⟩:ByteArray),.int .i64 0,.string (⟨#[]⟩:ByteArray),.string (⟨#[]⟩:ByteArray)]) (t:=61) ?hr ?_;(case hd=>rfl);(case hg=>rfl);(case hr=>first|(go_simp;done)|(go_simp;rfl));intro gbt hg w18 hbox hb;have hbc:=δr (show Below w1.heap.size w1 _ from by repeat (first|exact Below.refl _ _|apply δk|apply δj|apply δi)) hb;have GEt:Aside0 (w1.heap.size≤gbt):=⟨by rw [hg];exact Below.size (show Below w1.heap.size w1 _ from by repeat (first|exact Below.refl _ _|apply δk|apply δj|apply δi))⟩;have GWt:Aside0 (w.heap.size≤gbt):=⟨Nat.le_trans HB1.out.size GEt.out⟩;have BKZ:=ζa hbox;have HBZ:=ζa hbc;have hzz:=hbox;clear hb hbc hbox hg;have hzt_0:=(δl BKZ.out 0).trans rfl;have hzt_1:=(δl BKZ.out 1).trans rfl;have hzt_2:=(δl BKZ.out 2).trans rfl;have hzt_3:=(δl BKZ.out 3).trans rfl;have hft_0:=δm BKZ.out 0;have hft_1:=δm BKZ.out 1;have hft_2:=δm BKZ.out 2;have hft_3:=δm BKZ.out 3;clear hzz)|((with_reducible refine gate_store (t:=61) (p:=10) rfl ?_);refine store_event (t:=61) (p:=10) (v:=?vo18) (w1:=((((w18.setCell ⟨gbt,0,none⟩ (.string u0)).setCell ⟨gbt,1,none⟩ (.int .i64 u1)).setCell ⟨gbt,2,none⟩ (.string u2)).setCell ⟨gbt,3,none⟩ (.string u3))) ?hg ?ho ?hn ?hr ?_;(case ho=>rfl);(case hg=>rfl);(case hn=>rfl);(case hr=>(go_simp;done));intro w19 hw;have hbc:Below w1.heap.size w1 w19:=(by rw [hw];exact (δq (δq (δq (δq HBZ.out GEt.out) GEt.out) GEt.out) GEt.out));have BKt:Aside0 (w19.heap[gbt]? = some (.cells #[.string u0,.int .i64 u1,.string u2,.string u3] 61 (0,0))):=⟨by rw [hw];exact (δw (δw (δw (δw BKZ.out 0 _ rfl) 1 _ rfl) 2 _ rfl) 3 _ rfl)⟩;have m_:=ζa (δr HB1.out hbc);have HB18:=m_;clear m_;clear hbc hw BKZ HBZ;clear hzt_0 hft_0 hzt_1 hft_1 hzt_2 hft_2 hzt_3 hft_3;have hzt_0:=(δl BKt.out 0).trans rfl;have hzt_1:=(δl BKt.out 1).trans rfl;have hzt_2:=(δl BKt.out 2).trans rfl;have hzt_3:=(δl BKt.out 3).trans rfl;have hft_0:=δm BKt.out 0;have hft_1:=δm BKt.out 1;have hft_2:=δm BKt.out 2;have hft_3:=δm BKt.out 3))
  refine (impl_move.calls k ((⟨#[101,115,99,114,111,119]⟩:ByteArray)) u2 name u1 _ (HT0.out.below (by repeat (first|exact HB18.out|apply δk|apply δj|apply δi)))).mono ?_
  rintro e w20 ⟨g_m,lb_m,rfl,hch,hb⟩
  have m_:=ζa (blk_below (by repeat (first|exact BKt.out|apply δo|apply δp|apply δn)) hb)
  clear BKt
  have BKt:=m_
  clear m_
  clear hzt_0 hft_0 hzt_1 hft_1 hzt_2 hft_2 hzt_3 hft_3
  have m_:=ζa (δr (by repeat (first|exact HB18.out|apply δk|apply δj|apply δi)) hb)
  clear hb
  have HB20:=m_
  clear m_
  have CH_m:=ζa hch
  have eg_m : ∀ args w,(callFunc g_m args).run Tryz.prog w = .ok (.enter g_m args) w:=hch.enters
  clear hch
  have hzt_0:=(δl BKt.out 0).trans rfl
  have hft_0:=δm BKt.out 0
  have hzt_1:=(δl BKt.out 1).trans rfl
  have hft_1:=δm BKt.out 1
  have hzt_2:=(δl BKt.out 2).trans rfl
  have hft_2:=δm BKt.out 2
  have hzt_3:=(δl BKt.out 3).trans rfl
  have hft_3:=δm BKt.out 3
  have h:=HH.out
  clear HH
  obtain ⟨o2,h21_,h⟩:=Option.bind_eq_some_iff.mp h
  have HH:=ζa h
  have H21:=ζa h21_
  clear h h21_
  go_wp2_with fail
  refine (slices_Clone_impl_Pair_impl_Pair.calls A_list c_list list o2 _ (by repeat (first|exact Kd.C_below HR0_list.out HB20.out|apply Kd.C_alloc|apply Kd.C_drew|apply Kd.C_drewN)) HC0_list.out H21.out).mono ?_
  rintro e w21 ⟨v21,rfl,ho,hb⟩
  have m_:=ζa (blk_below (by repeat (first|exact BKt.out|apply δo|apply δp|apply δn)) hb)
  clear BKt
  have BKt:=m_
  clear m_
  have m_:=ζa (CH_m.out.below (δr (by repeat (first|exact Below.refl _ _|apply δk|apply δj|apply δi)) hb))
  clear CH_m
  have CH_m:=m_
  clear m_
  clear hzt_0 hft_0 hzt_1 hft_1 hzt_2 hft_2 hzt_3 hft_3
  have ho':=Kd.R_lower ho (Below.size (show Below w.heap.size w _ from by repeat (first|exact HB20.out|apply δk|apply δj|apply δi)))
  obtain ⟨adr21,cap21,rfl,hl21,hq21⟩:=Kd.R_reads ho'
  have HC21:=ζa hl21
  have HRn21:=ζa hq21
  have HOn21:=ζa ho'
  clear hl21 hq21 ho ho'
  have m_:=ζa (δr (by repeat (first|exact HB20.out|apply δk|apply δj|apply δi)) hb)
  clear hb
  have HB21:=m_
  clear m_
  have hzt_0:=(δl BKt.out 0).trans rfl
  have hft_0:=δm BKt.out 0
  have hzt_1:=(δl BKt.out 1).trans rfl
  have hft_1:=δm BKt.out 1
  have hzt_2:=(δl BKt.out 2).trans rfl
  have hft_2:=δm BKt.out 2
  have hzt_3:=(δl BKt.out 3).trans rfl
  have hft_3:=δm BKt.out 3
  have h:=HH.out
  clear HH
  simp only [Option.some.injEq,Prod.mk.injEq] at h
  obtain ⟨rfl,rfl⟩:=h
  go_wp2
  go_ret2
  exact ⟨_,rfl,(by repeat (first|exact HOn21.out|apply ζd|apply ζe|apply ζc)),(by repeat (first|exact HB21.out|apply δk|apply δj|apply δi))⟩


open Go.Proofs.YtabmfhnhmoiljaaGreatDoorW.PrintWords renaming gate_dst → δx, below_size → δs, below_alloc → δk, pw_below_drewN → δi, below_drew1 → δj, below_step → δr, gate_callee → δv
open Go.Proofs.YtabmfhnhmoiljaaGreatDoorW.PrintWords.Kd renaming R_reads' → ζg, R_below → ζh, R_alloc → ζd, R_drewN → ζc, R_drew → ζe

/-! ### impl_DoneCoins: function 28 -/
def impl_DoneCoins.f (k:Nat) (a0:ByteArray) (l1:List (S51)) (a2:ByteArray) (a3:Bool):Option ((List (S51)) × Int):=(impl_nameCode.f k a0 l1 (([a2]:List ByteArray))).bind fun t570=>(if t570=0 then ((impl_doneCoins.f k a0 l1 a2 a3).bind fun bt571=>(some (bt571.1,bt571.2))) else (some (([]:List (S51)),t570)))
set_option maxHeartbeats 8000000 in
set_option maxRecDepth 100000 in
theorem impl_DoneCoins.calls (k:Nat) (a0:ByteArray) (A1:Option Addr) (c1:Nat) (l1:List (S51)) (a2:ByteArray) (a3:Bool) (r1:List (S51)) (r2:Int) (w:World) (hr1:Kd.C k51 w A1 l1.length l1) (hc1:l1.length≤c1) (hT0:TabsOK w) (h:impl_DoneCoins.f k a0 l1 a2 a3=some (r1,r2)) :
  Calls Tryz.prog 28 #[.string a0,.slice A1 l1.length c1,.string a2,.bool a3] w fun e w' => ∃ v0_:Value,e = .returned (.tuple #[v0_,.int .i64 r2])∧Kd.R k51 51 w' w.heap.size (fun _=>True) v0_ r1∧Below w.heap.size w w':=by
 have HT0:=ζa hT0
 clear hT0
 have HR1:=ζa hr1
 have HC1:=ζa hc1
 clear hr1 hc1
 have HB:=ζa (Below.refl w.heap.size w)
 have H:((impl_nameCode.f k a0 l1 (([a2]:List ByteArray))).bind fun t570=>(if t570=0 then ((impl_doneCoins.f k a0 l1 a2 a3).bind fun bt571=>(some (bt571.1,bt571.2))) else (some (([]:List (S51)),t570))))=some (r1,r2):=h
 clear h
 obtain ⟨y567,hy567⟩ : ∃ y_:List ByteArray,y_=(([a2]:List ByteArray)):=⟨_,rfl⟩
 replace H:((impl_nameCode.f k a0 l1 y567).bind fun t570=>(if t570=0 then ((impl_doneCoins.f k a0 l1 a2 a3).bind fun bt571=>(some (bt571.1,bt571.2))) else (some (([]:List (S51)),t570))))=some (r1,r2):=by first|(rw [hy567];with_reducible exact H)|(have H2_:=(Option.bind_some _ _).symm.trans H;rw [hy567];with_reducible exact H2_)|(have H2_:=(Option.bind_some _ _).symm.trans H;with_reducible exact H2_)|with_reducible exact H|(rw [hy567];exact H)|exact H
 have Ny567:=ζa hy567
 clear hy567
 replace H:=Option.bind_eq_some_iff.mp H
 obtain ⟨t570,A50,H⟩:=H
 replace H:(if t570=0 then ((impl_doneCoins.f k a0 l1 a2 a3).bind fun bt571=>(some (bt571.1,bt571.2))) else (some (([]:List (S51)),t570)))=some (r1,r2):=H
 have A5:=ζa A50
 clear A50
 by_cases c6:t570=0
 ·
  rw [if_pos c6] at H
  have c6b0:(t570 == 0)=τ:=beq_iff_eq.mpr c6
  have c6b1:(t570 != 0)=φ:=bne_eq_false_iff_eq.mpr c6
  clear c6
  replace H:=Option.bind_eq_some_iff.mp H
  obtain ⟨⟨t571,t572⟩,A70,H⟩:=H
  replace H:(some (t571,t572))=some (r1,r2):=H
  have A7:=ζa A70
  clear A70
  simp only [Option.some.injEq,Prod.mk.injEq] at H
  obtain ⟨rfl,rfl⟩:=H
  go_enter Tryz.func28,Tryz.ntmps28
  go_wp2_with (first|((with_reducible refine δx (N:=14) rfl ?_);refine Kd.R_lit Kd.string _ 9 ?hg (N:=14) ?hd (xs:=([a2]:List ByteArray)) (inner:=[.string a2]) (ok:=fun _=>True) (okp:=fun _=>True) ?hr ?hp (fun _ hk=>hk) trivial (Below.refl _ _) (Nat.le_refl _) (by simp) ?_;(case hd=>rfl);(case hg=>rfl);(case hr=>first|(go_simp;done)|(go_simp;rfl));(case hp=>exact (Reps.one (show Kd.M Kd.string _ _ _ a2 [.string a2] from rfl) (Reps.none _ _)));intro v568 w8 ho9 hb hg_ hnew_;clear hg_ hnew_;(first|rw [← Ny567.out] at ho9|(simp only [Int.reduceToNat] at ho9;rw [← Ny567.out] at ho9));have n0_:=ζa (Kd.R_lower ho9 (δs (by repeat (first|(with_reducible first|exact HB.out|apply δk|apply δi|apply δj)|exact HB.out))));have n1_:=ζa (δr (by repeat (first|(with_reducible first|exact HB.out|apply δk|apply δi|apply δj)|exact HB.out)) hb);clear HB;have HO569:=n0_;have HB:=n1_;clear n0_ n1_;clear hb ho9;obtain ⟨Ao10,co10,eo10⟩:=Kd.R_slice HO569.out;subst eo10)|((with_reducible refine δv (f:=45) rfl ?_);refine goesL_ (some 15) rfl rfl Tryz.func45 (by kernel_rfl) rfl #[.string a0,.slice A1 l1.length c1,.slice Ao10 y567.length co10] rfl (by (try simp only [δd,δe,δf]);first|done|rfl|(simp only [δg,δh];rfl)) ?_;(with_reducible refine (impl_nameCode.calls k a0 _ _ l1 _ _ y567 t570 _ ?side1 ?side2 ?side3 ?side4 A5.out).mono ?_);(case side1=>repeat (first|exact (Kd.C_below HR1.out HB.out)|(with_reducible refine Kd.C_alloc ?_ _)|(with_reducible refine Kd.C_drewN ?_ _)|(with_reducible refine Kd.C_drew ?_)));(case side2=>exact HC1.out);(case side3=>repeat (first|exact (ζg HO569.out).2.2|(with_reducible refine Kd.C_alloc ?_ _)|(with_reducible refine Kd.C_drewN ?_ _)|(with_reducible refine Kd.C_drew ?_)));(case side4=>exact (ζg HO569.out).2.1);rintro e w11 ⟨rfl,hb⟩;refine ⟨_,rfl,?_⟩;have n0_:=ζa (ζh (by (with_reducible repeat (first|apply ζd|apply ζc|apply ζe));exact HO569.out) hb);have n1_:=ζa (δr (by repeat (first|(with_reducible first|exact HB.out|apply δk|apply δi|apply δj)|exact HB.out)) hb);clear HO569;clear HB;have HO569:=n0_;have HB:=n1_;clear n0_ n1_;(try clear hb);(try clear hb2);(try clear hk);(try clear hi))|((with_reducible refine δv (f:=56) rfl ?_);refine goesL_ (some 23) rfl rfl Tryz.func56 (by kernel_rfl) rfl #[.string a0,.slice A1 l1.length c1,.string a2,.bool a3] rfl (by (try simp only [δd,δe,δf]);first|done|rfl|(simp only [δg,δh];rfl)) ?_;(with_reducible refine (impl_doneCoins.calls k a0 _ _ l1 a2 a3 t571 t572 _ ?side1 ?side2 (HT0.out.below (by repeat (first|(with_reducible first|exact HB.out|apply δk|apply δi|apply δj)|exact HB.out))) A7.out).mono ?_);(case side1=>repeat (first|exact (Kd.C_below HR1.out HB.out)|(with_reducible refine Kd.C_alloc ?_ _)|(with_reducible refine Kd.C_drewN ?_ _)|(with_reducible refine Kd.C_drew ?_)));(case side2=>exact HC1.out);rintro e w12 ⟨v573,rfl,ho0,hb⟩;refine ⟨_,rfl,?_⟩;have n0_:=ζa (ζh (by (with_reducible repeat (first|apply ζd|apply ζc|apply ζe));exact HO569.out) hb);have n1_:=ζa (Kd.R_lower ho0 (δs (by repeat (first|(with_reducible first|exact HB.out|apply δk|apply δi|apply δj)|exact HB.out))));have n2_:=ζa (δr (by repeat (first|(with_reducible first|exact HB.out|apply δk|apply δi|apply δj)|exact HB.out)) hb);clear HO569;clear HB;have HO569:=n0_;have HO574:=n1_;have HB:=n2_;clear n0_ n1_ n2_;(try clear hb);(try clear hb2);(try clear hk);(try clear hi);(try clear ho0)))
  go_ret2
  exact ⟨_,by first|rfl|(simp [errW_none,errW_some] <;> rfl)|(simp [*,errW_none,errW_some] <;> rfl),by (with_reducible repeat (first|apply ζd|apply ζc|apply ζe));exact HO574.out,by repeat (first|(with_reducible first|exact HB.out|apply δk|apply δi|apply δj)|exact HB.out)⟩
 ·
  rw [if_neg c6] at H
  have c6b0:(t570 == 0)=φ:=beq_eq_false_iff_ne.mpr c6
  have c6b1:(t570 != 0)=τ:=bne_iff_ne.mpr c6
  simp only [Option.some.injEq,Prod.mk.injEq] at H
  obtain ⟨rfl,rfl⟩:=H
  go_enter Tryz.func28,Tryz.ntmps28
  go_wp2_with (first|((with_reducible refine δx (N:=14) rfl ?_);refine Kd.R_lit Kd.string _ 9 ?hg (N:=14) ?hd (xs:=([a2]:List ByteArray)) (inner:=[.string a2]) (ok:=fun _=>True) (okp:=fun _=>True) ?hr ?hp (fun _ hk=>hk) trivial (Below.refl _ _) (Nat.le_refl _) (by simp) ?_;(case hd=>rfl);(case hg=>rfl);(case hr=>first|(go_simp;done)|(go_simp;rfl));(case hp=>exact (Reps.one (show Kd.M Kd.string _ _ _ a2 [.string a2] from rfl) (Reps.none _ _)));intro v568 w13 ho14 hb hg_ hnew_;clear hg_ hnew_;(first|rw [← Ny567.out] at ho14|(simp only [Int.reduceToNat] at ho14;rw [← Ny567.out] at ho14));have n0_:=ζa (Kd.R_lower ho14 (δs (by repeat (first|(with_reducible first|exact HB.out|apply δk|apply δi|apply δj)|exact HB.out))));have n1_:=ζa (δr (by repeat (first|(with_reducible first|exact HB.out|apply δk|apply δi|apply δj)|exact HB.out)) hb);clear HB;have HO569:=n0_;have HB:=n1_;clear n0_ n1_;clear hb ho14;obtain ⟨Ao15,co15,eo15⟩:=Kd.R_slice HO569.out;subst eo15)|((with_reducible refine δv (f:=45) rfl ?_);refine goesL_ (some 15) rfl rfl Tryz.func45 (by kernel_rfl) rfl #[.string a0,.slice A1 l1.length c1,.slice Ao15 y567.length co15] rfl (by (try simp only [δd,δe,δf]);first|done|rfl|(simp only [δg,δh];rfl)) ?_;(with_reducible refine (impl_nameCode.calls k a0 _ _ l1 _ _ y567 t570 _ ?side1 ?side2 ?side3 ?side4 A5.out).mono ?_);(case side1=>repeat (first|exact (Kd.C_below HR1.out HB.out)|(with_reducible refine Kd.C_alloc ?_ _)|(with_reducible refine Kd.C_drewN ?_ _)|(with_reducible refine Kd.C_drew ?_)));(case side2=>exact HC1.out);(case side3=>repeat (first|exact (ζg HO569.out).2.2|(with_reducible refine Kd.C_alloc ?_ _)|(with_reducible refine Kd.C_drewN ?_ _)|(with_reducible refine Kd.C_drew ?_)));(case side4=>exact (ζg HO569.out).2.1);rintro e w16 ⟨rfl,hb⟩;refine ⟨_,rfl,?_⟩;have n0_:=ζa (ζh (by (with_reducible repeat (first|apply ζd|apply ζc|apply ζe));exact HO569.out) hb);have n1_:=ζa (δr (by repeat (first|(with_reducible first|exact HB.out|apply δk|apply δi|apply δj)|exact HB.out)) hb);clear HO569;clear HB;have HO569:=n0_;have HB:=n1_;clear n0_ n1_;(try clear hb);(try clear hb2);(try clear hk);(try clear hi)))
  go_ret2
  exact ⟨_,by first|rfl|(simp [errW_none,errW_some] <;> rfl)|(simp [*,errW_none,errW_some] <;> rfl),by first|exact Kd.R_nil _ _ _ _ _|exact Kd.N_nil _ _ _ _ _|exact Kd.V_nil _ _ _ _ _|exact Kd.Q_nil _ _ _ _ _|exact Kd.S_nil _ _ _ _ _,by repeat (first|(with_reducible first|exact HB.out|apply δk|apply δi|apply δj)|exact HB.out)⟩


open Go.Proofs.YtabmfhnhmoiljaaGreatDoorW.PrintWords renaming below_alloc → δk, pw_below_drewN → δi, below_drew1 → δj, gate_callee → δv, below_step → δr, below_size → δs
open Go.Proofs.YtabmfhnhmoiljaaGreatDoorW.PrintWords.Kd renaming R_reads' → ζg, R_alloc → ζd, R_drewN → ζc, R_drew → ζe, R_below → ζh

/-! ### laws_FnExactDoneCoins: function 7 -/
mutual
def laws_FnExactDoneCoins.j0:Nat→ByteArray→List (S49)→ByteArray→Bool→List (S51)→Int→List (S51)→List (S51)→Int→Bool→Option (Bool)
 | 0,_,_,_,_,_,_,_,_,_,_=>none
 | k+1,x0,x1,x2,x3,x10,x11,x12,x13,x14,x58=>if x58=τ then (some φ) else ((laws_toPairS.f k x1).bind fun t591=>((laws_eqPairS.f k x12 t591).bind fun t594=>(if t594=τ then ((laws_markPairS.f k x12 1).bind fun bt595=>(if bt595.1<0 then (laws_FnExactDoneCoins.j1 k x0 x1 x2 x3 x10 x11 x13 τ) else ((laws_eqPairS.f k x13 x10).bind fun t597=>(if t597=τ then (laws_FnExactDoneCoins.j1 k x0 x1 x2 x3 x10 x11 x13 (x14 != x11)) else (laws_FnExactDoneCoins.j1 k x0 x1 x2 x3 x10 x11 x13 τ))))) else (some φ))))
def laws_FnExactDoneCoins.j1:Nat→ByteArray→List (S49)→ByteArray→Bool→List (S51)→Int→List (S51)→Bool→Option (Bool)
 | 0,_,_,_,_,_,_,_,_=>none
 | k+1,x0,x1,x2,x3,x10,x11,x13,x79=>if x79=τ then (some φ) else ((laws_markPairS.f k x13 1).bind fun bt598=>((laws_heldPairS.f k bt598.2 1).bind fun t600=>(if t600<0 then (some φ) else (if t600=bt598.1 then ((laws_toPairS.f k x1).bind fun t601=>((impl_DoneCoins.f k x0 t601 x2 x3).bind fun bt604=>((laws_eqPairS.f k bt604.1 x10).bind fun t608=>(if t608=τ then (laws_FnExactDoneCoins.j2 k bt598.2 bt598.1 (bt604.2 != x11)) else (laws_FnExactDoneCoins.j2 k bt598.2 bt598.1 τ))))) else (some φ)))))
def laws_FnExactDoneCoins.j2:Nat→List (S51)→Int→Bool→Option (Bool)
 | 0,_,_,_=>none
 | k+1,x13,x16,x108=>if x108=τ then (some φ) else ((laws_heldPairS.f k x13 1).bind fun t609=>(if t609<0 then (some φ) else (if t609=x16 then (some τ) else (some φ))))
end
def laws_FnExactDoneCoins.f (k:Nat) (a0:ByteArray) (l1:List (S49)) (a2:ByteArray) (a3:Bool):Option (Bool):=if (a0.size:Int) > 1048576 then (some τ) else (if (a2.size:Int) > 1048576 then (some τ) else ((laws_szPairS.f k l1 1048576).bind fun t575=>(if t575<0 then (some τ) else ((laws_toPairS.f k l1).bind fun t576=>((spec_DoneCoins.f k a0 t576 a2 a3).bind fun bt579=>((laws_toPairS.f k l1).bind fun t583=>((impl_DoneCoins.f k a0 t583 a2 a3).bind fun bt586=>((laws_eqPairS.f k bt586.1 bt579.1).bind fun t590=>(if t590=τ then (laws_FnExactDoneCoins.j0 k a0 l1 a2 a3 bt579.1 bt579.2 t583 bt586.1 bt586.2 (bt586.2 != bt579.2)) else (laws_FnExactDoneCoins.j0 k a0 l1 a2 a3 bt579.1 bt579.2 t583 bt586.1 bt586.2 τ))))))))))
set_option maxHeartbeats 8000000 in
set_option maxRecDepth 100000 in
theorem laws_FnExactDoneCoins.calls (k:Nat) (a0:ByteArray) (A1:Option Addr) (c1:Nat) (l1:List (S49)) (a2:ByteArray) (a3:Bool) (r:Bool) (w:World) (hr1:Kd.C k49 w A1 l1.length l1) (hc1:l1.length≤c1) (hT0:TabsOK w) (h:laws_FnExactDoneCoins.f k a0 l1 a2 a3=some r) :
  Calls Tryz.prog 7 #[.string a0,.slice A1 l1.length c1,.string a2,.bool a3] w fun e w'=>e = .returned (.bool r)∧Below w.heap.size w w':=by
 have HT0:=ζa hT0
 clear hT0
 have HR1:=ζa hr1
 have HC1:=ζa hc1
 clear hr1 hc1
 have HB:=ζa (Below.refl w.heap.size w)
 have H:(if (a0.size:Int) > 1048576 then (some τ) else (if (a2.size:Int) > 1048576 then (some τ) else ((laws_szPairS.f k l1 1048576).bind fun t575=>(if t575<0 then (some τ) else ((laws_toPairS.f k l1).bind fun t576=>((spec_DoneCoins.f k a0 t576 a2 a3).bind fun bt579=>((laws_toPairS.f k l1).bind fun t583=>((impl_DoneCoins.f k a0 t583 a2 a3).bind fun bt586=>((laws_eqPairS.f k bt586.1 bt579.1).bind fun t590=>(if t590=τ then (laws_FnExactDoneCoins.j0 k a0 l1 a2 a3 bt579.1 bt579.2 t583 bt586.1 bt586.2 (bt586.2 != bt579.2)) else (laws_FnExactDoneCoins.j0 k a0 l1 a2 a3 bt579.1 bt579.2 t583 bt586.1 bt586.2 τ)))))))))))=some r:=h
 clear h
 by_cases c5:(a0.size:Int) > 1048576
 ·
  rw [if_pos c5] at H
  have c5b0:decide (1048576<(a0.size:Int))=τ:=decide_eq_true c5
  have c5b1:decide (1048576<a0.size)=τ:=decide_eq_true (by omega)
  clear c5
  obtain rfl:=Option.some.inj H
  go_enter Tryz.func7,Tryz.ntmps7
  go_wp2
  go_ret
  exact ⟨by first|rfl|(simp [errW_none,errW_some] <;> rfl)|(simp [*,errW_none,errW_some] <;> rfl),by repeat (first|(with_reducible first|exact HB.out|apply δk|apply δi|apply δj)|exact HB.out)⟩
 ·
  rw [if_neg c5] at H
  have c5b0:decide (1048576<(a0.size:Int))=φ:=decide_eq_false c5
  have c5b1:decide (1048576<a0.size)=φ:=decide_eq_false (by omega)
  clear c5
  by_cases c6:(a2.size:Int) > 1048576
  ·
   rw [if_pos c6] at H
   have c6b0:decide (1048576<(a2.size:Int))=τ:=decide_eq_true c6
   have c6b1:decide (1048576<a2.size)=τ:=decide_eq_true (by omega)
   clear c6
   obtain rfl:=Option.some.inj H
   go_enter Tryz.func7,Tryz.ntmps7
   go_wp2
   go_ret
   exact ⟨by first|rfl|(simp [errW_none,errW_some] <;> rfl)|(simp [*,errW_none,errW_some] <;> rfl),by repeat (first|(with_reducible first|exact HB.out|apply δk|apply δi|apply δj)|exact HB.out)⟩
  ·
   rw [if_neg c6] at H
   have c6b0:decide (1048576<(a2.size:Int))=φ:=decide_eq_false c6
   have c6b1:decide (1048576<a2.size)=φ:=decide_eq_false (by omega)
   clear c6
   replace H:=Option.bind_eq_some_iff.mp H
   obtain ⟨t575,A70,H⟩:=H
   replace H:(if t575<0 then (some τ) else ((laws_toPairS.f k l1).bind fun t576=>((spec_DoneCoins.f k a0 t576 a2 a3).bind fun bt579=>((laws_toPairS.f k l1).bind fun t583=>((impl_DoneCoins.f k a0 t583 a2 a3).bind fun bt586=>((laws_eqPairS.f k bt586.1 bt579.1).bind fun t590=>(if t590=τ then (laws_FnExactDoneCoins.j0 k a0 l1 a2 a3 bt579.1 bt579.2 t583 bt586.1 bt586.2 (bt586.2 != bt579.2)) else (laws_FnExactDoneCoins.j0 k a0 l1 a2 a3 bt579.1 bt579.2 t583 bt586.1 bt586.2 τ))))))))=some r:=H
   have A7:=ζa A70
   clear A70
   by_cases c8:t575<0
   ·
    rw [if_pos c8] at H
    have c8b0:decide (t575<0)=τ:=decide_eq_true c8
    clear c8
    obtain rfl:=Option.some.inj H
    go_enter Tryz.func7,Tryz.ntmps7
    go_wp2_with (first|((with_reducible refine δv (f:=14) rfl ?_);refine goesL_ (some 28) rfl rfl Tryz.func14 (by kernel_rfl) rfl #[.slice A1 l1.length c1,.int .i64 1048576] rfl (by (try simp only [δd,δe,δf]);first|done|rfl|(simp only [δg,δh];rfl)) ?_;(with_reducible refine (laws_szPairS.calls k _ _ l1 1048576 t575 _ ?side1 ?side2 A7.out).mono ?_);(case side1=>repeat (first|exact HR1.out|(with_reducible refine Kd.C_alloc ?_ _)|(with_reducible refine Kd.C_drewN ?_ _)|(with_reducible refine Kd.C_drew ?_)));(case side2=>exact HC1.out);rintro e w9 ⟨rfl,hb⟩;refine ⟨_,rfl,?_⟩;have n0_:=ζa (δr (by repeat (first|(with_reducible first|exact HB.out|apply δk|apply δi|apply δj)|exact HB.out)) hb);clear HB;have HB:=n0_;clear n0_;(try clear hb);(try clear hb2);(try clear hk);(try clear hi)))
    go_ret
    exact ⟨by first|rfl|(simp [errW_none,errW_some] <;> rfl)|(simp [*,errW_none,errW_some] <;> rfl),by repeat (first|(with_reducible first|exact HB.out|apply δk|apply δi|apply δj)|exact HB.out)⟩
   ·
    rw [if_neg c8] at H
    have c8b0:decide (t575<0)=φ:=decide_eq_false c8
    clear c8
    replace H:=Option.bind_eq_some_iff.mp H
    obtain ⟨t576,A100,H⟩:=H
    replace H:((spec_DoneCoins.f k a0 t576 a2 a3).bind fun bt579=>((laws_toPairS.f k l1).bind fun t583=>((impl_DoneCoins.f k a0 t583 a2 a3).bind fun bt586=>((laws_eqPairS.f k bt586.1 bt579.1).bind fun t590=>(if t590=τ then (laws_FnExactDoneCoins.j0 k a0 l1 a2 a3 bt579.1 bt579.2 t583 bt586.1 bt586.2 (bt586.2 != bt579.2)) else (laws_FnExactDoneCoins.j0 k a0 l1 a2 a3 bt579.1 bt579.2 t583 bt586.1 bt586.2 τ))))))=some r:=H
    have A10:=ζa A100
    clear A100
    replace H:=Option.bind_eq_some_iff.mp H
    obtain ⟨⟨t579,t580⟩,A110,H⟩:=H
    replace H:((laws_toPairS.f k l1).bind fun t583=>((impl_DoneCoins.f k a0 t583 a2 a3).bind fun bt586=>((laws_eqPairS.f k bt586.1 t579).bind fun t590=>(if t590=τ then (laws_FnExactDoneCoins.j0 k a0 l1 a2 a3 t579 t580 t583 bt586.1 bt586.2 (bt586.2 != t580)) else (laws_FnExactDoneCoins.j0 k a0 l1 a2 a3 t579 t580 t583 bt586.1 bt586.2 τ)))))=some r:=H
    have A11:=ζa A110
    clear A110
    replace H:=Option.bind_eq_some_iff.mp H
    obtain ⟨t583,A120,H⟩:=H
    replace H:((impl_DoneCoins.f k a0 t583 a2 a3).bind fun bt586=>((laws_eqPairS.f k bt586.1 t579).bind fun t590=>(if t590=τ then (laws_FnExactDoneCoins.j0 k a0 l1 a2 a3 t579 t580 t583 bt586.1 bt586.2 (bt586.2 != t580)) else (laws_FnExactDoneCoins.j0 k a0 l1 a2 a3 t579 t580 t583 bt586.1 bt586.2 τ))))=some r:=H
    have A12:=ζa A120
    clear A120
    replace H:=Option.bind_eq_some_iff.mp H
    obtain ⟨⟨t586,t587⟩,A130,H⟩:=H
    replace H:((laws_eqPairS.f k t586 t579).bind fun t590=>(if t590=τ then (laws_FnExactDoneCoins.j0 k a0 l1 a2 a3 t579 t580 t583 t586 t587 (t587 != t580)) else (laws_FnExactDoneCoins.j0 k a0 l1 a2 a3 t579 t580 t583 t586 t587 τ)))=some r:=H
    have A13:=ζa A130
    clear A130
    have HC14:=ζa H
    clear H
    go_enter Tryz.func7,Tryz.ntmps7
    go_upto_region 12 with (first|((with_reducible refine δv (f:=14) rfl ?_);refine goesL_ (some 28) rfl rfl Tryz.func14 (by kernel_rfl) rfl #[.slice A1 l1.length c1,.int .i64 1048576] rfl (by (try simp only [δd,δe,δf]);first|done|rfl|(simp only [δg,δh];rfl)) ?_;(with_reducible refine (laws_szPairS.calls k _ _ l1 1048576 t575 _ ?side1 ?side2 A7.out).mono ?_);(case side1=>repeat (first|exact HR1.out|(with_reducible refine Kd.C_alloc ?_ _)|(with_reducible refine Kd.C_drewN ?_ _)|(with_reducible refine Kd.C_drew ?_)));(case side2=>exact HC1.out);rintro e w15 ⟨rfl,hb⟩;refine ⟨_,rfl,?_⟩;have n0_:=ζa (δr (by repeat (first|(with_reducible first|exact HB.out|apply δk|apply δi|apply δj)|exact HB.out)) hb);clear HB;have HB:=n0_;clear n0_;(try clear hb);(try clear hb2);(try clear hk);(try clear hi))|((with_reducible refine δv (f:=16) rfl ?_);refine goesL_ (some 34) rfl rfl Tryz.func16 (by kernel_rfl) rfl #[.slice A1 l1.length c1] rfl (by (try simp only [δd,δe,δf]);first|done|rfl|(simp only [δg,δh];rfl)) ?_;(with_reducible refine (laws_toPairS.calls k _ _ l1 t576 _ ?side1 ?side2 A10.out).mono ?_);(case side1=>repeat (first|exact (Kd.C_below HR1.out HB.out)|(with_reducible refine Kd.C_alloc ?_ _)|(with_reducible refine Kd.C_drewN ?_ _)|(with_reducible refine Kd.C_drew ?_)));(case side2=>exact HC1.out);rintro e w16 ⟨v577,rfl,ho0,hb⟩;refine ⟨_,rfl,?_⟩;have n0_:=ζa (Kd.R_lower ho0 (δs (by repeat (first|(with_reducible first|exact HB.out|apply δk|apply δi|apply δj)|exact HB.out))));have n1_:=ζa (δr (by repeat (first|(with_reducible first|exact HB.out|apply δk|apply δi|apply δj)|exact HB.out)) hb);clear HB;have HO578:=n0_;have HB:=n1_;clear n0_ n1_;(try clear hb);(try clear hb2);(try clear hk);(try clear hi);(try clear ho0);obtain ⟨Ao17,co17,eo17⟩:=Kd.R_slice HO578.out;subst eo17)|((with_reducible refine δv (f:=27) rfl ?_);refine goesL_ (some 37) rfl rfl Tryz.func27 (by kernel_rfl) rfl #[.string a0,.slice Ao17 t576.length co17,.string a2,.bool a3] rfl (by (try simp only [δd,δe,δf]);first|done|rfl|(simp only [δg,δh];rfl)) ?_;(with_reducible refine (spec_DoneCoins.calls k a0 _ _ t576 a2 a3 t579 t580 _ ?side1 ?side2 A11.out).mono ?_);(case side1=>repeat (first|exact (ζg HO578.out).2.2|(with_reducible refine Kd.C_alloc ?_ _)|(with_reducible refine Kd.C_drewN ?_ _)|(with_reducible refine Kd.C_drew ?_)));(case side2=>exact (ζg HO578.out).2.1);rintro e w18 ⟨v581,rfl,ho0,hb⟩;refine ⟨_,rfl,?_⟩;have n0_:=ζa (Kd.R_elder' (by (with_reducible repeat (first|apply ζd|apply ζc|apply ζe));exact HO578.out) (Kd.R_base ho0) hb);have n1_:=ζa (Kd.R_lower (Kd.R_new' ho0 (Kd.R_lt (by (with_reducible repeat (first|apply ζd|apply ζc|apply ζe));exact HO578.out))) (δs (by repeat (first|(with_reducible first|exact HB.out|apply δk|apply δi|apply δj)|exact HB.out))));have n2_:=ζa (δr (by repeat (first|(with_reducible first|exact HB.out|apply δk|apply δi|apply δj)|exact HB.out)) hb);clear HO578;clear HB;have HO578:=n0_;have HO582:=n1_;have HB:=n2_;clear n0_ n1_ n2_;(try clear hb);(try clear hb2);(try clear hk);(try clear hi);(try clear ho0))|((with_reducible refine δv (f:=16) rfl ?_);refine goesL_ (some 41) rfl rfl Tryz.func16 (by kernel_rfl) rfl #[.slice A1 l1.length c1] rfl (by (try simp only [δd,δe,δf]);first|done|rfl|(simp only [δg,δh];rfl)) ?_;(with_reducible refine (laws_toPairS.calls k _ _ l1 t583 _ ?side1 ?side2 A12.out).mono ?_);(case side1=>repeat (first|exact (Kd.C_below HR1.out HB.out)|(with_reducible refine Kd.C_alloc ?_ _)|(with_reducible refine Kd.C_drewN ?_ _)|(with_reducible refine Kd.C_drew ?_)));(case side2=>exact HC1.out);rintro e w19 ⟨v584,rfl,ho0,hb⟩;refine ⟨_,rfl,?_⟩;have n0_:=ζa (Kd.R_elder' (by (with_reducible repeat (first|apply ζd|apply ζc|apply ζe));exact HO578.out) (Kd.R_base ho0) hb);have n1_:=ζa (Kd.R_elder' (by (with_reducible repeat (first|apply ζd|apply ζc|apply ζe));exact HO582.out) (Kd.R_base ho0) hb);have n2_:=ζa (Kd.R_lower (Kd.R_new' (Kd.R_new' ho0 (Kd.R_lt (by (with_reducible repeat (first|apply ζd|apply ζc|apply ζe));exact HO578.out))) (Kd.R_lt (by (with_reducible repeat (first|apply ζd|apply ζc|apply ζe));exact HO582.out))) (δs (by repeat (first|(with_reducible first|exact HB.out|apply δk|apply δi|apply δj)|exact HB.out))));have n3_:=ζa (δr (by repeat (first|(with_reducible first|exact HB.out|apply δk|apply δi|apply δj)|exact HB.out)) hb);clear HO578;clear HO582;clear HB;have HO578:=n0_;have HO582:=n1_;have HO585:=n2_;have HB:=n3_;clear n0_ n1_ n2_ n3_;(try clear hb);(try clear hb2);(try clear hk);(try clear hi);(try clear ho0);obtain ⟨Ao20,co20,eo20⟩:=Kd.R_slice HO585.out;subst eo20)|((with_reducible refine δv (f:=28) rfl ?_);refine goesL_ (some 47) rfl rfl Tryz.func28 (by kernel_rfl) rfl #[.string a0,.slice Ao20 t583.length co20,.string a2,.bool a3] rfl (by (try simp only [δd,δe,δf]);first|done|rfl|(simp only [δg,δh];rfl)) ?_;(with_reducible refine (impl_DoneCoins.calls k a0 _ _ t583 a2 a3 t586 t587 _ ?side1 ?side2 (HT0.out.below (by repeat (first|(with_reducible first|exact HB.out|apply δk|apply δi|apply δj)|exact HB.out))) A13.out).mono ?_);(case side1=>repeat (first|exact (ζg HO585.out).2.2|(with_reducible refine Kd.C_alloc ?_ _)|(with_reducible refine Kd.C_drewN ?_ _)|(with_reducible refine Kd.C_drew ?_)));(case side2=>exact (ζg HO585.out).2.1);rintro e w21 ⟨v588,rfl,ho0,hb⟩;refine ⟨_,rfl,?_⟩;have n0_:=ζa (Kd.R_elder' (by (with_reducible repeat (first|apply ζd|apply ζc|apply ζe));exact HO578.out) (Kd.R_base ho0) hb);have n1_:=ζa (Kd.R_elder' (by (with_reducible repeat (first|apply ζd|apply ζc|apply ζe));exact HO582.out) (Kd.R_base ho0) hb);have n2_:=ζa (Kd.R_elder' (by (with_reducible repeat (first|apply ζd|apply ζc|apply ζe));exact HO585.out) (Kd.R_base ho0) hb);have n3_:=ζa (Kd.R_lower (Kd.R_new' (Kd.R_new' (Kd.R_new' ho0 (Kd.R_lt (by (with_reducible repeat (first|apply ζd|apply ζc|apply ζe));exact HO578.out))) (Kd.R_lt (by (with_reducible repeat (first|apply ζd|apply ζc|apply ζe));exact HO582.out))) (Kd.R_lt (by (with_reducible repeat (first|apply ζd|apply ζc|apply ζe));exact HO585.out))) (δs (by repeat (first|(with_reducible first|exact HB.out|apply δk|apply δi|apply δj)|exact HB.out))));have n4_:=ζa (δr (by repeat (first|(with_reducible first|exact HB.out|apply δk|apply δi|apply δj)|exact HB.out)) hb);clear HO578;clear HO582;clear HO585;clear HB;have HO578:=n0_;have HO582:=n1_;have HO585:=n2_;have HO589:=n3_;have HB:=n4_;clear n0_ n1_ n2_ n3_ n4_;(try clear hb);(try clear hb2);(try clear hk);(try clear hi);(try clear ho0)))
    (try simp only [ζl,δa,δb,δc])
    go_cut [58] (fun v58 wc => ∃ (kq:Nat) (x58_13:Bool),v58 = .bool x58_13∧Aside0 (laws_FnExactDoneCoins.j0 kq a0 l1 a2 a3 t579 t580 t583 t586 t587 x58_13=some r)∧Aside0 (kq≤k)∧Aside0 (Kd.R k51 51 wc w.heap.size (fun k_=>some k_≠((.slice Ao20 t583.length co20):Value).ownBlock∧some k_≠(v588:Value).ownBlock) v581 t579)∧Aside0 (Kd.R k51 51 wc w.heap.size (fun k_=>some k_≠(v581:Value).ownBlock∧some k_≠(v588:Value).ownBlock) (.slice Ao20 t583.length co20) t583)∧Aside0 (Kd.R k51 51 wc w.heap.size (fun k_=>some k_≠(v581:Value).ownBlock∧some k_≠((.slice Ao20 t583.length co20):Value).ownBlock) v588 t586)∧Aside0 (Below w.heap.size w wc))
    case first =>
     have H:=HC14.out
     clear HC14
     replace H:=Option.bind_eq_some_iff.mp H
     obtain ⟨t590,A220,H⟩:=H
     replace H:(if t590=τ then (laws_FnExactDoneCoins.j0 k a0 l1 a2 a3 t579 t580 t583 t586 t587 (t587 != t580)) else (laws_FnExactDoneCoins.j0 k a0 l1 a2 a3 t579 t580 t583 t586 t587 τ))=some r:=H
     have A22:=ζa A220
     clear A220
     by_cases c23:t590=τ
     ·
      subst c23
      have H1:(laws_FnExactDoneCoins.j0 k a0 l1 a2 a3 t579 t580 t583 t586 t587 (t587 != t580))=some r:=by rw [if_pos rfl] at H;exact H
      clear H
      have H:=H1
      clear H1
      have H':=ζa H
      clear H
      obtain ⟨Ao24,co24,eo24⟩:=Kd.R_slice HO589.out
      subst eo24
      obtain ⟨Ao25,co25,eo25⟩:=Kd.R_slice HO582.out
      subst eo25
      go_wp2_with (first|((with_reducible refine δv (f:=18) rfl ?_);refine goesL_ (some 52) rfl rfl Tryz.func18 (by kernel_rfl) rfl #[.slice Ao24 t586.length co24,.slice Ao25 t579.length co25] rfl (by (try simp only [δd,δe,δf]);first|done|rfl|(simp only [δg,δh];rfl)) ?_;(with_reducible refine (laws_eqPairS.calls k _ _ t586 _ _ t579 τ _ ?side1 ?side2 ?side3 ?side4 A22.out).mono ?_);(case side1=>repeat (first|exact (ζg HO589.out).2.2|(with_reducible refine Kd.C_alloc ?_ _)|(with_reducible refine Kd.C_drewN ?_ _)|(with_reducible refine Kd.C_drew ?_)));(case side2=>exact (ζg HO589.out).2.1);(case side3=>repeat (first|exact (ζg HO582.out).2.2|(with_reducible refine Kd.C_alloc ?_ _)|(with_reducible refine Kd.C_drewN ?_ _)|(with_reducible refine Kd.C_drew ?_)));(case side4=>exact (ζg HO582.out).2.1);rintro e w26 ⟨rfl,hb⟩;refine ⟨_,rfl,?_⟩;have n0_:=ζa (ζh (by (with_reducible repeat (first|apply ζd|apply ζc|apply ζe));exact HO578.out) hb);have n1_:=ζa (ζh (by (with_reducible repeat (first|apply ζd|apply ζc|apply ζe));exact HO582.out) hb);have n2_:=ζa (ζh (by (with_reducible repeat (first|apply ζd|apply ζc|apply ζe));exact HO585.out) hb);have n3_:=ζa (ζh (by (with_reducible repeat (first|apply ζd|apply ζc|apply ζe));exact HO589.out) hb);have n4_:=ζa (δr (by repeat (first|(with_reducible first|exact HB.out|apply δk|apply δi|apply δj)|exact HB.out)) hb);clear HO578;clear HO582;clear HO585;clear HO589;clear HB;have HO578:=n0_;have HO582:=n1_;have HO585:=n2_;have HO589:=n3_;have HB:=n4_;clear n0_ n1_ n2_ n3_ n4_;(try clear hb);(try clear hb2);(try clear hk);(try clear hi)))
      go_meet
      case rel=>exact ⟨_,((t587 != t580)),(by first|rfl|(simp;done)|(simp [*];done)),H',⟨by first|omega|exact Nat.le_refl _⟩,⟨by (with_reducible repeat (first|apply ζd|apply ζc|apply ζe));exact Kd.R_mono HO582.out (fun _ hk=>⟨hk.1.2,hk.2⟩)⟩,⟨by (with_reducible repeat (first|apply ζd|apply ζc|apply ζe));exact Kd.R_mono HO585.out (fun _ hk=>⟨hk.1.2,hk.2⟩)⟩,⟨by (with_reducible repeat (first|apply ζd|apply ζc|apply ζe));exact Kd.R_mono HO589.out (fun _ hk=>⟨hk.1.2,hk.2⟩)⟩,⟨by repeat (first|(with_reducible first|exact HB.out|apply δk|apply δi|apply δj)|exact HB.out)⟩⟩
     ·
      replace c23:=Bool.eq_false_iff.mpr c23
      subst c23
      have H1:(laws_FnExactDoneCoins.j0 k a0 l1 a2 a3 t579 t580 t583 t586 t587 τ)=some r:=by rw [if_neg (show ¬ (φ=τ) by decide)] at H;exact H
      clear H
      have H:=H1
      clear H1
      have H':=ζa H
      clear H
      obtain ⟨Ao27,co27,eo27⟩:=Kd.R_slice HO589.out
      subst eo27
      obtain ⟨Ao28,co28,eo28⟩:=Kd.R_slice HO582.out
      subst eo28
      go_wp2_with (first|((with_reducible refine δv (f:=18) rfl ?_);refine goesL_ (some 52) rfl rfl Tryz.func18 (by kernel_rfl) rfl #[.slice Ao27 t586.length co27,.slice Ao28 t579.length co28] rfl (by (try simp only [δd,δe,δf]);first|done|rfl|(simp only [δg,δh];rfl)) ?_;(with_reducible refine (laws_eqPairS.calls k _ _ t586 _ _ t579 φ _ ?side1 ?side2 ?side3 ?side4 A22.out).mono ?_);(case side1=>repeat (first|exact (ζg HO589.out).2.2|(with_reducible refine Kd.C_alloc ?_ _)|(with_reducible refine Kd.C_drewN ?_ _)|(with_reducible refine Kd.C_drew ?_)));(case side2=>exact (ζg HO589.out).2.1);(case side3=>repeat (first|exact (ζg HO582.out).2.2|(with_reducible refine Kd.C_alloc ?_ _)|(with_reducible refine Kd.C_drewN ?_ _)|(with_reducible refine Kd.C_drew ?_)));(case side4=>exact (ζg HO582.out).2.1);rintro e w29 ⟨rfl,hb⟩;refine ⟨_,rfl,?_⟩;have n0_:=ζa (ζh (by (with_reducible repeat (first|apply ζd|apply ζc|apply ζe));exact HO578.out) hb);have n1_:=ζa (ζh (by (with_reducible repeat (first|apply ζd|apply ζc|apply ζe));exact HO582.out) hb);have n2_:=ζa (ζh (by (with_reducible repeat (first|apply ζd|apply ζc|apply ζe));exact HO585.out) hb);have n3_:=ζa (ζh (by (with_reducible repeat (first|apply ζd|apply ζc|apply ζe));exact HO589.out) hb);have n4_:=ζa (δr (by repeat (first|(with_reducible first|exact HB.out|apply δk|apply δi|apply δj)|exact HB.out)) hb);clear HO578;clear HO582;clear HO585;clear HO589;clear HB;have HO578:=n0_;have HO582:=n1_;have HO585:=n2_;have HO589:=n3_;have HB:=n4_;clear n0_ n1_ n2_ n3_ n4_;(try clear hb);(try clear hb2);(try clear hk);(try clear hi)))
      go_meet
      case rel=>exact ⟨_,(τ),(by first|rfl|(simp;done)|(simp [*];done)),H',⟨by first|omega|exact Nat.le_refl _⟩,⟨by (with_reducible repeat (first|apply ζd|apply ζc|apply ζe));exact Kd.R_mono HO582.out (fun _ hk=>⟨hk.1.2,hk.2⟩)⟩,⟨by (with_reducible repeat (first|apply ζd|apply ζc|apply ζe));exact Kd.R_mono HO585.out (fun _ hk=>⟨hk.1.2,hk.2⟩)⟩,⟨by (with_reducible repeat (first|apply ζd|apply ζc|apply ζe));exact Kd.R_mono HO589.out (fun _ hk=>⟨hk.1.2,hk.2⟩)⟩,⟨by repeat (first|(with_reducible first|exact HB.out|apply δk|apply δi|apply δj)|exact HB.out)⟩⟩
    case rest =>
     clear HC14
     try clear c1
     try clear c2
     try clear p2
     try clear c5
     try clear c5b0
     try clear c5b1
     try clear c6
     try clear c6b0
     try clear c6b1
     try clear c7
     try clear c8
     try clear c8b0
     try clear c14
     try clear c16
     try clear c18
     try clear c23
     try clear c27
     try clear c28
     obtain ⟨kq,x58_13,rfl,HA,HJ13,HO_10,HO_12,HO_13,HB⟩:=hcut
     cases kq with
     | zero=>exact absurd HA.out (by simp [laws_FnExactDoneCoins.j0])
     | succ kj13 =>
      have H:=HA.out
      clear HA
      simp only [laws_FnExactDoneCoins.j0] at H
      by_cases c30:x58_13=τ
      ·
       subst c30
       have H1:(some φ)=some r:=by rw [if_pos rfl] at H;exact H
       clear H
       have H:=H1
       clear H1
       obtain rfl:=Option.some.inj H
       go_wp2
       go_ret
       exact ⟨by first|rfl|(simp [errW_none,errW_some] <;> rfl)|(simp [*,errW_none,errW_some] <;> rfl),by repeat (first|(with_reducible first|exact HB.out|apply δk|apply δi|apply δj)|exact HB.out)⟩
      ·
       replace c30:=Bool.eq_false_iff.mpr c30
       subst c30
       have H1:((laws_toPairS.f kj13 l1).bind fun t591=>((laws_eqPairS.f kj13 t583 t591).bind fun t594=>(if t594=τ then ((laws_markPairS.f kj13 t583 1).bind fun bt595=>(if bt595.1<0 then (laws_FnExactDoneCoins.j1 kj13 a0 l1 a2 a3 t579 t580 t586 τ) else ((laws_eqPairS.f kj13 t586 t579).bind fun t597=>(if t597=τ then (laws_FnExactDoneCoins.j1 kj13 a0 l1 a2 a3 t579 t580 t586 (t587 != t580)) else (laws_FnExactDoneCoins.j1 kj13 a0 l1 a2 a3 t579 t580 t586 τ))))) else (some φ))))=some r:=by rw [if_neg (show ¬ (φ=τ) by decide)] at H;exact H
       clear H
       have H:=H1
       clear H1
       replace H:=Option.bind_eq_some_iff.mp H
       obtain ⟨t591,A310,H⟩:=H
       replace H:((laws_eqPairS.f kj13 t583 t591).bind fun t594=>(if t594=τ then ((laws_markPairS.f kj13 t583 1).bind fun bt595=>(if bt595.1<0 then (laws_FnExactDoneCoins.j1 kj13 a0 l1 a2 a3 t579 t580 t586 τ) else ((laws_eqPairS.f kj13 t586 t579).bind fun t597=>(if t597=τ then (laws_FnExactDoneCoins.j1 kj13 a0 l1 a2 a3 t579 t580 t586 (t587 != t580)) else (laws_FnExactDoneCoins.j1 kj13 a0 l1 a2 a3 t579 t580 t586 τ))))) else (some φ)))=some r:=H
       have A31:=ζa A310
       clear A310
       replace H:=Option.bind_eq_some_iff.mp H
       obtain ⟨t594,A320,H⟩:=H
       replace H:(if t594=τ then ((laws_markPairS.f kj13 t583 1).bind fun bt595=>(if bt595.1<0 then (laws_FnExactDoneCoins.j1 kj13 a0 l1 a2 a3 t579 t580 t586 τ) else ((laws_eqPairS.f kj13 t586 t579).bind fun t597=>(if t597=τ then (laws_FnExactDoneCoins.j1 kj13 a0 l1 a2 a3 t579 t580 t586 (t587 != t580)) else (laws_FnExactDoneCoins.j1 kj13 a0 l1 a2 a3 t579 t580 t586 τ))))) else (some φ))=some r:=H
       have A32:=ζa A320
       clear A320
       by_cases c33:t594=τ
       ·
        subst c33
        have H1:((laws_markPairS.f kj13 t583 1).bind fun bt595=>(if bt595.1<0 then (laws_FnExactDoneCoins.j1 kj13 a0 l1 a2 a3 t579 t580 t586 τ) else ((laws_eqPairS.f kj13 t586 t579).bind fun t597=>(if t597=τ then (laws_FnExactDoneCoins.j1 kj13 a0 l1 a2 a3 t579 t580 t586 (t587 != t580)) else (laws_FnExactDoneCoins.j1 kj13 a0 l1 a2 a3 t579 t580 t586 τ)))))=some r:=by rw [if_pos rfl] at H;exact H
        clear H
        have H:=H1
        clear H1
        replace H:=Option.bind_eq_some_iff.mp H
        obtain ⟨⟨t595,t596⟩,A340,H⟩:=H
        replace H:(if t595<0 then (laws_FnExactDoneCoins.j1 kj13 a0 l1 a2 a3 t579 t580 t586 τ) else ((laws_eqPairS.f kj13 t586 t579).bind fun t597=>(if t597=τ then (laws_FnExactDoneCoins.j1 kj13 a0 l1 a2 a3 t579 t580 t586 (t587 != t580)) else (laws_FnExactDoneCoins.j1 kj13 a0 l1 a2 a3 t579 t580 t586 τ))))=some r:=H
        have A34:=ζa A340
        clear A340
        have HC35:=ζa H
        clear H
        go_upto_region 18 with (first|((with_reducible refine δv (f:=16) rfl ?_);refine goesL_ (some 61) rfl rfl Tryz.func16 (by kernel_rfl) rfl #[.slice A1 l1.length c1] rfl (by (try simp only [δd,δe,δf]);first|done|rfl|(simp only [δg,δh];rfl)) ?_;(with_reducible refine (laws_toPairS.calls kj13 _ _ l1 t591 _ ?side1 ?side2 A31.out).mono ?_);(case side1=>repeat (first|exact (Kd.C_below HR1.out HB.out)|(with_reducible refine Kd.C_alloc ?_ _)|(with_reducible refine Kd.C_drewN ?_ _)|(with_reducible refine Kd.C_drew ?_)));(case side2=>exact HC1.out);rintro e w36 ⟨v592,rfl,ho0,hb⟩;refine ⟨_,rfl,?_⟩;have n0_:=ζa (Kd.R_elder' (by (with_reducible repeat (first|apply ζd|apply ζc|apply ζe));exact HO_10.out) (Kd.R_base ho0) hb);have n1_:=ζa (Kd.R_elder' (by (with_reducible repeat (first|apply ζd|apply ζc|apply ζe));exact HO_12.out) (Kd.R_base ho0) hb);have n2_:=ζa (Kd.R_elder' (by (with_reducible repeat (first|apply ζd|apply ζc|apply ζe));exact HO_13.out) (Kd.R_base ho0) hb);have n3_:=ζa (Kd.R_lower (Kd.R_new' (Kd.R_new' (Kd.R_new' ho0 (Kd.R_lt (by (with_reducible repeat (first|apply ζd|apply ζc|apply ζe));exact HO_10.out))) (Kd.R_lt (by (with_reducible repeat (first|apply ζd|apply ζc|apply ζe));exact HO_12.out))) (Kd.R_lt (by (with_reducible repeat (first|apply ζd|apply ζc|apply ζe));exact HO_13.out))) (δs (by repeat (first|(with_reducible first|exact HB.out|apply δk|apply δi|apply δj)|exact HB.out))));have n4_:=ζa (δr (by repeat (first|(with_reducible first|exact HB.out|apply δk|apply δi|apply δj)|exact HB.out)) hb);clear HO_10;clear HO_12;clear HO_13;clear HB;have HO_10:=n0_;have HO_12:=n1_;have HO_13:=n2_;have HO593:=n3_;have HB:=n4_;clear n0_ n1_ n2_ n3_ n4_;(try clear hb);(try clear hb2);(try clear hk);(try clear hi);(try clear ho0);obtain ⟨Ao37,co37,eo37⟩:=Kd.R_slice HO593.out;subst eo37)|((with_reducible refine δv (f:=18) rfl ?_);refine goesL_ (some 62) rfl rfl Tryz.func18 (by kernel_rfl) rfl #[.slice Ao20 t583.length co20,.slice Ao37 t591.length co37] rfl (by (try simp only [δd,δe,δf]);first|done|rfl|(simp only [δg,δh];rfl)) ?_;(with_reducible refine (laws_eqPairS.calls kj13 _ _ t583 _ _ t591 τ _ ?side1 ?side2 ?side3 ?side4 A32.out).mono ?_);(case side1=>repeat (first|exact (ζg HO_12.out).2.2|(with_reducible refine Kd.C_alloc ?_ _)|(with_reducible refine Kd.C_drewN ?_ _)|(with_reducible refine Kd.C_drew ?_)));(case side2=>exact (ζg HO_12.out).2.1);(case side3=>repeat (first|exact (ζg HO593.out).2.2|(with_reducible refine Kd.C_alloc ?_ _)|(with_reducible refine Kd.C_drewN ?_ _)|(with_reducible refine Kd.C_drew ?_)));(case side4=>exact (ζg HO593.out).2.1);rintro e w38 ⟨rfl,hb⟩;refine ⟨_,rfl,?_⟩;have n0_:=ζa (ζh (by (with_reducible repeat (first|apply ζd|apply ζc|apply ζe));exact HO_10.out) hb);have n1_:=ζa (ζh (by (with_reducible repeat (first|apply ζd|apply ζc|apply ζe));exact HO_12.out) hb);have n2_:=ζa (ζh (by (with_reducible repeat (first|apply ζd|apply ζc|apply ζe));exact HO_13.out) hb);have n3_:=ζa (ζh (by (with_reducible repeat (first|apply ζd|apply ζc|apply ζe));exact HO593.out) hb);have n4_:=ζa (δr (by repeat (first|(with_reducible first|exact HB.out|apply δk|apply δi|apply δj)|exact HB.out)) hb);clear HO_10;clear HO_12;clear HO_13;clear HO593;clear HB;have HO_10:=n0_;have HO_12:=n1_;have HO_13:=n2_;have HO593:=n3_;have HB:=n4_;clear n0_ n1_ n2_ n3_ n4_;(try clear hb);(try clear hb2);(try clear hk);(try clear hi))|((with_reducible refine δv (f:=19) rfl ?_);refine goesL_ (some 66) rfl rfl Tryz.func19 (by kernel_rfl) rfl #[.slice Ao20 t583.length co20,.int .i64 1] rfl (by (try simp only [δd,δe,δf]);first|done|rfl|(simp only [δg,δh];rfl)) ?_;(with_reducible refine (laws_markPairS.calls kj13 (fun k_=>some k_=(.slice Ao20 t583.length co20:Value).ownBlock) (.slice Ao20 t583.length co20) t583 1 t595 t596 w _ ?side1 ?side2 A34.out).mono ?_);(case side1=>repeat (first|(with_reducible first|exact HB.out|apply δk|apply δi|apply δj)|exact HB.out));(case side2=>exact Kd.R_tight rfl HO_12.out);rintro e w39 ⟨rfl,hy0,hb,hkp⟩;refine ⟨_,rfl,?_⟩;have n0_:=ζa (Kd.R_mono (ok':=fun k_=>some k_≠(.slice Ao20 t583.length co20:Value).ownBlock∧some k_≠(v588:Value).ownBlock∧some k_≠(.slice Ao37 t591.length co37:Value).ownBlock) (Kd.R_keptB (HO_10.out) hkp (fun k_ hk_ hs_=>(hk_.1.1) hs_)) (fun k_ hk_=>⟨hk_.1.1.1,hk_.1.1.2,hk_.1.2⟩));have n1_:=ζa (Kd.R_reok rfl hy0 (fun k_ e_=>HO_12.out.1 k_ e_));have n2_:=ζa (Kd.R_mono (ok':=fun k_=>some k_≠(v581:Value).ownBlock∧some k_≠(.slice Ao20 t583.length co20:Value).ownBlock∧some k_≠(.slice Ao37 t591.length co37:Value).ownBlock) (Kd.R_keptB (HO_13.out) hkp (fun k_ hk_ hs_=>(hk_.1.2) hs_)) (fun k_ hk_=>⟨hk_.1.1.1,hk_.1.1.2,hk_.1.2⟩));have n3_:=ζa (Kd.R_mono (ok':=fun k_=>some k_≠(v581:Value).ownBlock∧some k_≠(.slice Ao20 t583.length co20:Value).ownBlock∧some k_≠(v588:Value).ownBlock) (Kd.R_keptB (HO593.out) hkp (fun k_ hk_ hs_=>(hk_.1.2) hs_)) (fun k_ hk_=>⟨hk_.1.1.1.2,hk_.1.1.2,hk_.1.2⟩));have n4_:=ζa (hb);clear HO_10;clear HO_12;clear HO_13;clear HO593;clear HB;have HO_10:=n0_;have HO_12:=n1_;have HO_13:=n2_;have HO593:=n3_;have HB:=n4_;clear n0_ n1_ n2_ n3_ n4_;(try clear hb);(try clear hkp);(try clear hy0)))
        (try simp only [ζl,δa,δb,δc])
        go_cut [79] (fun v79 wc => ∃ (kq:Nat) (x79_34:Bool),v79 = .bool x79_34∧Aside0 (laws_FnExactDoneCoins.j1 kq a0 l1 a2 a3 t579 t580 t586 x79_34=some r)∧Aside0 (kq≤kj13)∧Aside0 (Kd.R k51 51 wc w.heap.size (fun k_=>some k_≠(v588:Value).ownBlock) v581 t579)∧Aside0 (Kd.R k51 51 wc w.heap.size (fun k_=>some k_≠(v581:Value).ownBlock) v588 t586)∧Aside0 (Below w.heap.size w wc))
        case first =>
         have H:=HC35.out
         clear HC35
         by_cases c40:t595<0
         ·
          rw [if_pos c40] at H
          have c40b0:decide (t595<0)=τ:=decide_eq_true c40
          clear c40
          (first|rw [c40b0]|(simp only [i64_w,i32_w];rw [c40b0])|skip)
          have H':=ζa H
          clear H
          go_wp2
          go_meet
          case rel=>exact ⟨_,(τ),(by first|rfl|(simp;done)|(simp [*];done)),H',⟨by have:=HJ13.out;first|omega|exact Nat.le_refl _⟩,⟨by (with_reducible repeat (first|apply ζd|apply ζc|apply ζe));exact Kd.R_mono HO_10.out (fun _ hk=>hk.2.1)⟩,⟨by (with_reducible repeat (first|apply ζd|apply ζc|apply ζe));exact Kd.R_mono HO_13.out (fun _ hk=>hk.1)⟩,⟨by repeat (first|(with_reducible first|exact HB.out|apply δk|apply δi|apply δj)|exact HB.out)⟩⟩
         ·
          rw [if_neg c40] at H
          have c40b0:decide (t595<0)=φ:=decide_eq_false c40
          clear c40
          (first|rw [c40b0]|(simp only [i64_w,i32_w];rw [c40b0])|skip)
          replace H:=Option.bind_eq_some_iff.mp H
          obtain ⟨t597,A410,H⟩:=H
          replace H:(if t597=τ then (laws_FnExactDoneCoins.j1 kj13 a0 l1 a2 a3 t579 t580 t586 (t587 != t580)) else (laws_FnExactDoneCoins.j1 kj13 a0 l1 a2 a3 t579 t580 t586 τ))=some r:=H
          have A41:=ζa A410
          clear A410
          by_cases c42:t597=τ
          ·
           subst c42
           have H1:(laws_FnExactDoneCoins.j1 kj13 a0 l1 a2 a3 t579 t580 t586 (t587 != t580))=some r:=by rw [if_pos rfl] at H;exact H
           clear H
           have H:=H1
           clear H1
           have H':=ζa H
           clear H
           obtain ⟨Ao43,co43,eo43⟩:=Kd.R_slice HO_13.out
           subst eo43
           obtain ⟨Ao44,co44,eo44⟩:=Kd.R_slice HO_10.out
           subst eo44
           go_wp2_with (first|(go_at_call 18;(with_reducible refine (laws_eqPairS.calls kj13 _ _ t586 _ _ t579 τ _ ?side1 ?side2 ?side3 ?side4 A41.out).mono ?_);(case side1=>repeat (first|exact (ζg HO_13.out).2.2|(with_reducible refine Kd.C_alloc ?_ _)|(with_reducible refine Kd.C_drewN ?_ _)|(with_reducible refine Kd.C_drew ?_)));(case side2=>exact (ζg HO_13.out).2.1);(case side3=>repeat (first|exact (ζg HO_10.out).2.2|(with_reducible refine Kd.C_alloc ?_ _)|(with_reducible refine Kd.C_drewN ?_ _)|(with_reducible refine Kd.C_drew ?_)));(case side4=>exact (ζg HO_10.out).2.1);rintro e w45 ⟨rfl,hb⟩;have n0_:=ζa (ζh (by (with_reducible repeat (first|apply ζd|apply ζc|apply ζe));exact HO_10.out) hb);have n1_:=ζa (ζh (by (with_reducible repeat (first|apply ζd|apply ζc|apply ζe));exact HO_12.out) hb);have n2_:=ζa (ζh (by (with_reducible repeat (first|apply ζd|apply ζc|apply ζe));exact HO_13.out) hb);have n3_:=ζa (ζh (by (with_reducible repeat (first|apply ζd|apply ζc|apply ζe));exact HO593.out) hb);have n4_:=ζa (δr (by repeat (first|(with_reducible first|exact HB.out|apply δk|apply δi|apply δj)|exact HB.out)) hb);clear HO_10;clear HO_12;clear HO_13;clear HO593;clear HB;have HO_10:=n0_;have HO_12:=n1_;have HO_13:=n2_;have HO593:=n3_;have HB:=n4_;clear n0_ n1_ n2_ n3_ n4_;(try clear hb);(try clear hb2);(try clear hk);(try clear hi)))
           go_meet
           case rel=>exact ⟨_,((t587 != t580)),(by first|rfl|(simp;done)|(simp [*];done)),H',⟨by have:=HJ13.out;first|omega|exact Nat.le_refl _⟩,⟨by (with_reducible repeat (first|apply ζd|apply ζc|apply ζe));exact Kd.R_mono HO_10.out (fun _ hk=>hk.2.1)⟩,⟨by (with_reducible repeat (first|apply ζd|apply ζc|apply ζe));exact Kd.R_mono HO_13.out (fun _ hk=>hk.1)⟩,⟨by repeat (first|(with_reducible first|exact HB.out|apply δk|apply δi|apply δj)|exact HB.out)⟩⟩
          ·
           replace c42:=Bool.eq_false_iff.mpr c42
           subst c42
           have H1:(laws_FnExactDoneCoins.j1 kj13 a0 l1 a2 a3 t579 t580 t586 τ)=some r:=by rw [if_neg (show ¬ (φ=τ) by decide)] at H;exact H
           clear H
           have H:=H1
           clear H1
           have H':=ζa H
           clear H
           obtain ⟨Ao46,co46,eo46⟩:=Kd.R_slice HO_13.out
           subst eo46
           obtain ⟨Ao47,co47,eo47⟩:=Kd.R_slice HO_10.out
           subst eo47
           go_wp2_with (first|(go_at_call 18;(with_reducible refine (laws_eqPairS.calls kj13 _ _ t586 _ _ t579 φ _ ?side1 ?side2 ?side3 ?side4 A41.out).mono ?_);(case side1=>repeat (first|exact (ζg HO_13.out).2.2|(with_reducible refine Kd.C_alloc ?_ _)|(with_reducible refine Kd.C_drewN ?_ _)|(with_reducible refine Kd.C_drew ?_)));(case side2=>exact (ζg HO_13.out).2.1);(case side3=>repeat (first|exact (ζg HO_10.out).2.2|(with_reducible refine Kd.C_alloc ?_ _)|(with_reducible refine Kd.C_drewN ?_ _)|(with_reducible refine Kd.C_drew ?_)));(case side4=>exact (ζg HO_10.out).2.1);rintro e w48 ⟨rfl,hb⟩;have n0_:=ζa (ζh (by (with_reducible repeat (first|apply ζd|apply ζc|apply ζe));exact HO_10.out) hb);have n1_:=ζa (ζh (by (with_reducible repeat (first|apply ζd|apply ζc|apply ζe));exact HO_12.out) hb);have n2_:=ζa (ζh (by (with_reducible repeat (first|apply ζd|apply ζc|apply ζe));exact HO_13.out) hb);have n3_:=ζa (ζh (by (with_reducible repeat (first|apply ζd|apply ζc|apply ζe));exact HO593.out) hb);have n4_:=ζa (δr (by repeat (first|(with_reducible first|exact HB.out|apply δk|apply δi|apply δj)|exact HB.out)) hb);clear HO_10;clear HO_12;clear HO_13;clear HO593;clear HB;have HO_10:=n0_;have HO_12:=n1_;have HO_13:=n2_;have HO593:=n3_;have HB:=n4_;clear n0_ n1_ n2_ n3_ n4_;(try clear hb);(try clear hb2);(try clear hk);(try clear hi)))
           go_meet
           case rel=>exact ⟨_,(τ),(by first|rfl|(simp;done)|(simp [*];done)),H',⟨by have:=HJ13.out;first|omega|exact Nat.le_refl _⟩,⟨by (with_reducible repeat (first|apply ζd|apply ζc|apply ζe));exact Kd.R_mono HO_10.out (fun _ hk=>hk.2.1)⟩,⟨by (with_reducible repeat (first|apply ζd|apply ζc|apply ζe));exact Kd.R_mono HO_13.out (fun _ hk=>hk.1)⟩,⟨by repeat (first|(with_reducible first|exact HB.out|apply δk|apply δi|apply δj)|exact HB.out)⟩⟩
        case rest =>
         clear HC35
         try clear c1
         try clear c2
         try clear p2
         try clear c3
         try clear c4
         try clear c5
         try clear c5b0
         try clear c5b1
         try clear c6
         try clear c6b0
         try clear c6b1
         try clear c7
         try clear c8
         try clear c8b0
         try clear c14
         try clear c16
         try clear c18
         try clear c19
         try clear c23
         try clear c27
         try clear c28
         try clear c30
         try clear c33
         try clear c40
         try clear c40b0
         try clear c42
         try clear p2
         obtain ⟨kq,x79_34,rfl,HA,HJ34,HO_10,HO_13,HB⟩:=hcut
         cases kq with
         | zero=>exact absurd HA.out (by simp [laws_FnExactDoneCoins.j1])
         | succ kj34 =>
          have H:=HA.out
          clear HA
          simp only [laws_FnExactDoneCoins.j1] at H
          by_cases c49:x79_34=τ
          ·
           subst c49
           have H1:(some φ)=some r:=by rw [if_pos rfl] at H;exact H
           clear H
           have H:=H1
           clear H1
           obtain rfl:=Option.some.inj H
           go_wp2
           go_ret
           exact ⟨by first|rfl|(simp [errW_none,errW_some] <;> rfl)|(simp [*,errW_none,errW_some] <;> rfl),by repeat (first|(with_reducible first|exact HB.out|apply δk|apply δi|apply δj)|exact HB.out)⟩
          ·
           replace c49:=Bool.eq_false_iff.mpr c49
           subst c49
           have H1:((laws_markPairS.f kj34 t586 1).bind fun bt598=>((laws_heldPairS.f kj34 bt598.2 1).bind fun t600=>(if t600<0 then (some φ) else (if t600=bt598.1 then ((laws_toPairS.f kj34 l1).bind fun t601=>((impl_DoneCoins.f kj34 a0 t601 a2 a3).bind fun bt604=>((laws_eqPairS.f kj34 bt604.1 t579).bind fun t608=>(if t608=τ then (laws_FnExactDoneCoins.j2 kj34 bt598.2 bt598.1 (bt604.2 != t580)) else (laws_FnExactDoneCoins.j2 kj34 bt598.2 bt598.1 τ))))) else (some φ)))))=some r:=by rw [if_neg (show ¬ (φ=τ) by decide)] at H;exact H
           clear H
           have H:=H1
           clear H1
           replace H:=Option.bind_eq_some_iff.mp H
           obtain ⟨⟨t598,t599⟩,A500,H⟩:=H
           replace H:((laws_heldPairS.f kj34 t599 1).bind fun t600=>(if t600<0 then (some φ) else (if t600=t598 then ((laws_toPairS.f kj34 l1).bind fun t601=>((impl_DoneCoins.f kj34 a0 t601 a2 a3).bind fun bt604=>((laws_eqPairS.f kj34 bt604.1 t579).bind fun t608=>(if t608=τ then (laws_FnExactDoneCoins.j2 kj34 t599 t598 (bt604.2 != t580)) else (laws_FnExactDoneCoins.j2 kj34 t599 t598 τ))))) else (some φ))))=some r:=H
           have A50:=ζa A500
           clear A500
           replace H:=Option.bind_eq_some_iff.mp H
           obtain ⟨t600,A510,H⟩:=H
           replace H:(if t600<0 then (some φ) else (if t600=t598 then ((laws_toPairS.f kj34 l1).bind fun t601=>((impl_DoneCoins.f kj34 a0 t601 a2 a3).bind fun bt604=>((laws_eqPairS.f kj34 bt604.1 t579).bind fun t608=>(if t608=τ then (laws_FnExactDoneCoins.j2 kj34 t599 t598 (bt604.2 != t580)) else (laws_FnExactDoneCoins.j2 kj34 t599 t598 τ))))) else (some φ)))=some r:=H
           have A51:=ζa A510
           clear A510
           by_cases c52:t600<0
           ·
            rw [if_pos c52] at H
            have c52b0:decide (t600<0)=τ:=decide_eq_true c52
            clear c52
            obtain rfl:=Option.some.inj H
            obtain ⟨Ao53,co53,eo53⟩:=Kd.R_slice HO_13.out
            subst eo53
            go_wp2_with (first|((with_reducible refine δv (f:=19) rfl ?_);refine goesL_ (some 82) rfl rfl Tryz.func19 (by kernel_rfl) rfl #[.slice Ao53 t586.length co53,.int .i64 1] rfl (by (try simp only [δd,δe,δf]);first|done|rfl|(simp only [δg,δh];rfl)) ?_;(with_reducible refine (laws_markPairS.calls kj34 (fun k_=>some k_=(.slice Ao53 t586.length co53:Value).ownBlock) (.slice Ao53 t586.length co53) t586 1 t598 t599 w _ ?side1 ?side2 A50.out).mono ?_);(case side1=>repeat (first|(with_reducible first|exact HB.out|apply δk|apply δi|apply δj)|exact HB.out));(case side2=>exact Kd.R_tight rfl HO_13.out);rintro e w54 ⟨rfl,hy0,hb,hkp⟩;refine ⟨_,rfl,?_⟩;have n0_:=ζa (Kd.R_mono (ok':=fun k_=>some k_≠(.slice Ao53 t586.length co53:Value).ownBlock) (Kd.R_keptB (HO_10.out) hkp (fun k_ hk_ hs_=>(hk_) hs_)) (fun k_ hk_=>hk_.1));have n1_:=ζa (Kd.R_reok rfl hy0 (fun k_ e_=>HO_13.out.1 k_ e_));have n2_:=ζa (hb);clear HO_10;clear HO_13;clear HB;have HO_10:=n0_;have HO_13:=n1_;have HB:=n2_;clear n0_ n1_ n2_;(try clear hb);(try clear hkp);(try clear hy0))|((with_reducible refine δv (f:=20) rfl ?_);refine goesL_ (some 85) rfl rfl Tryz.func20 (by kernel_rfl) rfl #[.slice Ao53 t599.length co53,.int .i64 1] rfl (by (try simp only [δd,δe,δf]);first|done|(rw [show t599.length=t586.length from (ζg HO_13.out).1.symm] <;> rfl)|rfl|(simp only [δg,δh];rfl)) ?_;(with_reducible refine (laws_heldPairS.calls kj34 _ _ t599 1 t600 _ ?side1 ?side2 A51.out).mono ?_);(case side1=>repeat (first|exact (ζg HO_13.out).2.2|(with_reducible refine Kd.C_alloc ?_ _)|(with_reducible refine Kd.C_drewN ?_ _)|(with_reducible refine Kd.C_drew ?_)));(case side2=>rw [show t599.length=t586.length from (ζg HO_13.out).1.symm];exact (ζg HO_13.out).2.1);rintro e w55 ⟨rfl,hb⟩;refine ⟨_,rfl,?_⟩;have n0_:=ζa (ζh (by (with_reducible repeat (first|apply ζd|apply ζc|apply ζe));exact HO_10.out) hb);have n1_:=ζa (ζh (by (with_reducible repeat (first|apply ζd|apply ζc|apply ζe));exact HO_13.out) hb);have n2_:=ζa (δr (by repeat (first|(with_reducible first|exact HB.out|apply δk|apply δi|apply δj)|exact HB.out)) hb);clear HO_10;clear HO_13;clear HB;have HO_10:=n0_;have HO_13:=n1_;have HB:=n2_;clear n0_ n1_ n2_;(try clear hb);(try clear hb2);(try clear hk);(try clear hi)))
            go_ret
            exact ⟨by first|rfl|(simp [errW_none,errW_some] <;> rfl)|(simp [*,errW_none,errW_some] <;> rfl),by repeat (first|(with_reducible first|exact HB.out|apply δk|apply δi|apply δj)|exact HB.out)⟩
           ·
            rw [if_neg c52] at H
            have c52b0:decide (t600<0)=φ:=decide_eq_false c52
            clear c52
            by_cases c56:t600=t598
            ·
             rw [if_pos c56] at H
             have c56b0:(t600 == t598)=τ:=beq_iff_eq.mpr c56
             have c56b1:(t600 != t598)=φ:=bne_eq_false_iff_eq.mpr c56
             clear c56
             replace H:=Option.bind_eq_some_iff.mp H
             obtain ⟨t601,A570,H⟩:=H
             replace H:((impl_DoneCoins.f kj34 a0 t601 a2 a3).bind fun bt604=>((laws_eqPairS.f kj34 bt604.1 t579).bind fun t608=>(if t608=τ then (laws_FnExactDoneCoins.j2 kj34 t599 t598 (bt604.2 != t580)) else (laws_FnExactDoneCoins.j2 kj34 t599 t598 τ))))=some r:=H
             have A57:=ζa A570
             clear A570
             replace H:=Option.bind_eq_some_iff.mp H
             obtain ⟨⟨t604,t605⟩,A580,H⟩:=H
             replace H:((laws_eqPairS.f kj34 t604 t579).bind fun t608=>(if t608=τ then (laws_FnExactDoneCoins.j2 kj34 t599 t598 (t605 != t580)) else (laws_FnExactDoneCoins.j2 kj34 t599 t598 τ)))=some r:=H
             have A58:=ζa A580
             clear A580
             have HC59:=ζa H
             clear H
             obtain ⟨Ao60,co60,eo60⟩:=Kd.R_slice HO_13.out
             subst eo60
             go_upto_region 29 with (first|((with_reducible refine δv (f:=19) rfl ?_);refine goesL_ (some 82) rfl rfl Tryz.func19 (by kernel_rfl) rfl #[.slice Ao60 t586.length co60,.int .i64 1] rfl (by (try simp only [δd,δe,δf]);first|done|rfl|(simp only [δg,δh];rfl)) ?_;(with_reducible refine (laws_markPairS.calls kj34 (fun k_=>some k_=(.slice Ao60 t586.length co60:Value).ownBlock) (.slice Ao60 t586.length co60) t586 1 t598 t599 w _ ?side1 ?side2 A50.out).mono ?_);(case side1=>repeat (first|(with_reducible first|exact HB.out|apply δk|apply δi|apply δj)|exact HB.out));(case side2=>exact Kd.R_tight rfl HO_13.out);rintro e w61 ⟨rfl,hy0,hb,hkp⟩;refine ⟨_,rfl,?_⟩;have n0_:=ζa (Kd.R_mono (ok':=fun k_=>some k_≠(.slice Ao60 t586.length co60:Value).ownBlock) (Kd.R_keptB (HO_10.out) hkp (fun k_ hk_ hs_=>(hk_) hs_)) (fun k_ hk_=>hk_.1));have n1_:=ζa (Kd.R_reok rfl hy0 (fun k_ e_=>HO_13.out.1 k_ e_));have n2_:=ζa (hb);clear HO_10;clear HO_13;clear HB;have HO_10:=n0_;have HO_13:=n1_;have HB:=n2_;clear n0_ n1_ n2_;(try clear hb);(try clear hkp);(try clear hy0))|((with_reducible refine δv (f:=20) rfl ?_);refine goesL_ (some 85) rfl rfl Tryz.func20 (by kernel_rfl) rfl #[.slice Ao60 t599.length co60,.int .i64 1] rfl (by (try simp only [δd,δe,δf]);first|done|(rw [show t599.length=t586.length from (ζg HO_13.out).1.symm] <;> rfl)|rfl|(simp only [δg,δh];rfl)) ?_;(with_reducible refine (laws_heldPairS.calls kj34 _ _ t599 1 t600 _ ?side1 ?side2 A51.out).mono ?_);(case side1=>repeat (first|exact (ζg HO_13.out).2.2|(with_reducible refine Kd.C_alloc ?_ _)|(with_reducible refine Kd.C_drewN ?_ _)|(with_reducible refine Kd.C_drew ?_)));(case side2=>rw [show t599.length=t586.length from (ζg HO_13.out).1.symm];exact (ζg HO_13.out).2.1);rintro e w62 ⟨rfl,hb⟩;refine ⟨_,rfl,?_⟩;have n0_:=ζa (ζh (by (with_reducible repeat (first|apply ζd|apply ζc|apply ζe));exact HO_10.out) hb);have n1_:=ζa (ζh (by (with_reducible repeat (first|apply ζd|apply ζc|apply ζe));exact HO_13.out) hb);have n2_:=ζa (δr (by repeat (first|(with_reducible first|exact HB.out|apply δk|apply δi|apply δj)|exact HB.out)) hb);clear HO_10;clear HO_13;clear HB;have HO_10:=n0_;have HO_13:=n1_;have HB:=n2_;clear n0_ n1_ n2_;(try clear hb);(try clear hb2);(try clear hk);(try clear hi))|((with_reducible refine δv (f:=16) rfl ?_);refine goesL_ (some 94) rfl rfl Tryz.func16 (by kernel_rfl) rfl #[.slice A1 l1.length c1] rfl (by (try simp only [δd,δe,δf]);first|done|rfl|(simp only [δg,δh];rfl)) ?_;(with_reducible refine (laws_toPairS.calls kj34 _ _ l1 t601 _ ?side1 ?side2 A57.out).mono ?_);(case side1=>repeat (first|exact (Kd.C_below HR1.out HB.out)|(with_reducible refine Kd.C_alloc ?_ _)|(with_reducible refine Kd.C_drewN ?_ _)|(with_reducible refine Kd.C_drew ?_)));(case side2=>exact HC1.out);rintro e w63 ⟨v602,rfl,ho0,hb⟩;refine ⟨_,rfl,?_⟩;have n0_:=ζa (Kd.R_elder' (by (with_reducible repeat (first|apply ζd|apply ζc|apply ζe));exact HO_10.out) (Kd.R_base ho0) hb);have n1_:=ζa (Kd.R_elder' (by (with_reducible repeat (first|apply ζd|apply ζc|apply ζe));exact HO_13.out) (Kd.R_base ho0) hb);have n2_:=ζa (Kd.R_lower (Kd.R_new' (Kd.R_new' ho0 (Kd.R_lt (by (with_reducible repeat (first|apply ζd|apply ζc|apply ζe));exact HO_10.out))) (Kd.R_lt (by (with_reducible repeat (first|apply ζd|apply ζc|apply ζe));exact HO_13.out))) (δs (by repeat (first|(with_reducible first|exact HB.out|apply δk|apply δi|apply δj)|exact HB.out))));have n3_:=ζa (δr (by repeat (first|(with_reducible first|exact HB.out|apply δk|apply δi|apply δj)|exact HB.out)) hb);clear HO_10;clear HO_13;clear HB;have HO_10:=n0_;have HO_13:=n1_;have HO603:=n2_;have HB:=n3_;clear n0_ n1_ n2_ n3_;(try clear hb);(try clear hb2);(try clear hk);(try clear hi);(try clear ho0);obtain ⟨Ao64,co64,eo64⟩:=Kd.R_slice HO603.out;subst eo64)|((with_reducible refine δv (f:=28) rfl ?_);refine goesL_ (some 97) rfl rfl Tryz.func28 (by kernel_rfl) rfl #[.string a0,.slice Ao64 t601.length co64,.string a2,.bool a3] rfl (by (try simp only [δd,δe,δf]);first|done|rfl|(simp only [δg,δh];rfl)) ?_;(with_reducible refine (impl_DoneCoins.calls kj34 a0 _ _ t601 a2 a3 t604 t605 _ ?side1 ?side2 (HT0.out.below (by repeat (first|(with_reducible first|exact HB.out|apply δk|apply δi|apply δj)|exact HB.out))) A58.out).mono ?_);(case side1=>repeat (first|exact (ζg HO603.out).2.2|(with_reducible refine Kd.C_alloc ?_ _)|(with_reducible refine Kd.C_drewN ?_ _)|(with_reducible refine Kd.C_drew ?_)));(case side2=>exact (ζg HO603.out).2.1);rintro e w65 ⟨v606,rfl,ho0,hb⟩;refine ⟨_,rfl,?_⟩;have n0_:=ζa (Kd.R_elder' (by (with_reducible repeat (first|apply ζd|apply ζc|apply ζe));exact HO_10.out) (Kd.R_base ho0) hb);have n1_:=ζa (Kd.R_elder' (by (with_reducible repeat (first|apply ζd|apply ζc|apply ζe));exact HO_13.out) (Kd.R_base ho0) hb);have n2_:=ζa (Kd.R_elder' (by (with_reducible repeat (first|apply ζd|apply ζc|apply ζe));exact HO603.out) (Kd.R_base ho0) hb);have n3_:=ζa (Kd.R_lower (Kd.R_new' (Kd.R_new' (Kd.R_new' ho0 (Kd.R_lt (by (with_reducible repeat (first|apply ζd|apply ζc|apply ζe));exact HO_10.out))) (Kd.R_lt (by (with_reducible repeat (first|apply ζd|apply ζc|apply ζe));exact HO_13.out))) (Kd.R_lt (by (with_reducible repeat (first|apply ζd|apply ζc|apply ζe));exact HO603.out))) (δs (by repeat (first|(with_reducible first|exact HB.out|apply δk|apply δi|apply δj)|exact HB.out))));have n4_:=ζa (δr (by repeat (first|(with_reducible first|exact HB.out|apply δk|apply δi|apply δj)|exact HB.out)) hb);clear HO_10;clear HO_13;clear HO603;clear HB;have HO_10:=n0_;have HO_13:=n1_;have HO603:=n2_;have HO607:=n3_;have HB:=n4_;clear n0_ n1_ n2_ n3_ n4_;(try clear hb);(try clear hb2);(try clear hk);(try clear hi);(try clear ho0)))
             (try simp only [ζl,δa,δb,δc])
             go_cut [108] (fun v108 wc => ∃ (kq:Nat) (x108_58:Bool),v108 = .bool x108_58∧Aside0 (laws_FnExactDoneCoins.j2 kq t599 t598 x108_58=some r)∧Aside0 (kq≤kj34)∧Aside0 (Kd.R k51 51 wc w.heap.size (fun _=>True) (.slice Ao60 t586.length co60) t599)∧Aside0 (Below w.heap.size w wc))
             case first =>
              have H:=HC59.out
              clear HC59
              replace H:=Option.bind_eq_some_iff.mp H
              obtain ⟨t608,A660,H⟩:=H
              replace H:(if t608=τ then (laws_FnExactDoneCoins.j2 kj34 t599 t598 (t605 != t580)) else (laws_FnExactDoneCoins.j2 kj34 t599 t598 τ))=some r:=H
              have A66:=ζa A660
              clear A660
              by_cases c67:t608=τ
              ·
               subst c67
               have H1:(laws_FnExactDoneCoins.j2 kj34 t599 t598 (t605 != t580))=some r:=by rw [if_pos rfl] at H;exact H
               clear H
               have H:=H1
               clear H1
               have H':=ζa H
               clear H
               obtain ⟨Ao68,co68,eo68⟩:=Kd.R_slice HO607.out
               subst eo68
               obtain ⟨Ao69,co69,eo69⟩:=Kd.R_slice HO_10.out
               subst eo69
               go_wp2_with (first|((with_reducible refine δv (f:=18) rfl ?_);refine goesL_ (some 102) rfl rfl Tryz.func18 (by kernel_rfl) rfl #[.slice Ao68 t604.length co68,.slice Ao69 t579.length co69] rfl (by (try simp only [δd,δe,δf]);first|done|rfl|(simp only [δg,δh];rfl)) ?_;(with_reducible refine (laws_eqPairS.calls kj34 _ _ t604 _ _ t579 τ _ ?side1 ?side2 ?side3 ?side4 A66.out).mono ?_);(case side1=>repeat (first|exact (ζg HO607.out).2.2|(with_reducible refine Kd.C_alloc ?_ _)|(with_reducible refine Kd.C_drewN ?_ _)|(with_reducible refine Kd.C_drew ?_)));(case side2=>exact (ζg HO607.out).2.1);(case side3=>repeat (first|exact (ζg HO_10.out).2.2|(with_reducible refine Kd.C_alloc ?_ _)|(with_reducible refine Kd.C_drewN ?_ _)|(with_reducible refine Kd.C_drew ?_)));(case side4=>exact (ζg HO_10.out).2.1);rintro e w70 ⟨rfl,hb⟩;refine ⟨_,rfl,?_⟩;have n0_:=ζa (ζh (by (with_reducible repeat (first|apply ζd|apply ζc|apply ζe));exact HO_10.out) hb);have n1_:=ζa (ζh (by (with_reducible repeat (first|apply ζd|apply ζc|apply ζe));exact HO_13.out) hb);have n2_:=ζa (ζh (by (with_reducible repeat (first|apply ζd|apply ζc|apply ζe));exact HO603.out) hb);have n3_:=ζa (ζh (by (with_reducible repeat (first|apply ζd|apply ζc|apply ζe));exact HO607.out) hb);have n4_:=ζa (δr (by repeat (first|(with_reducible first|exact HB.out|apply δk|apply δi|apply δj)|exact HB.out)) hb);clear HO_10;clear HO_13;clear HO603;clear HO607;clear HB;have HO_10:=n0_;have HO_13:=n1_;have HO603:=n2_;have HO607:=n3_;have HB:=n4_;clear n0_ n1_ n2_ n3_ n4_;(try clear hb);(try clear hb2);(try clear hk);(try clear hi)))
               go_meet
               case rel=>exact ⟨_,((t605 != t580)),(by first|rfl|(simp;done)|(simp [*];done)),H',⟨by have:=HJ13.out;have:=HJ34.out;first|omega|exact Nat.le_refl _⟩,⟨by (with_reducible repeat (first|apply ζd|apply ζc|apply ζe));exact Kd.R_mono HO_13.out (fun _ hk=>trivial)⟩,⟨by repeat (first|(with_reducible first|exact HB.out|apply δk|apply δi|apply δj)|exact HB.out)⟩⟩
              ·
               replace c67:=Bool.eq_false_iff.mpr c67
               subst c67
               have H1:(laws_FnExactDoneCoins.j2 kj34 t599 t598 τ)=some r:=by rw [if_neg (show ¬ (φ=τ) by decide)] at H;exact H
               clear H
               have H:=H1
               clear H1
               have H':=ζa H
               clear H
               obtain ⟨Ao71,co71,eo71⟩:=Kd.R_slice HO607.out
               subst eo71
               obtain ⟨Ao72,co72,eo72⟩:=Kd.R_slice HO_10.out
               subst eo72
               go_wp2_with (first|((with_reducible refine δv (f:=18) rfl ?_);refine goesL_ (some 102) rfl rfl Tryz.func18 (by kernel_rfl) rfl #[.slice Ao71 t604.length co71,.slice Ao72 t579.length co72] rfl (by (try simp only [δd,δe,δf]);first|done|rfl|(simp only [δg,δh];rfl)) ?_;(with_reducible refine (laws_eqPairS.calls kj34 _ _ t604 _ _ t579 φ _ ?side1 ?side2 ?side3 ?side4 A66.out).mono ?_);(case side1=>repeat (first|exact (ζg HO607.out).2.2|(with_reducible refine Kd.C_alloc ?_ _)|(with_reducible refine Kd.C_drewN ?_ _)|(with_reducible refine Kd.C_drew ?_)));(case side2=>exact (ζg HO607.out).2.1);(case side3=>repeat (first|exact (ζg HO_10.out).2.2|(with_reducible refine Kd.C_alloc ?_ _)|(with_reducible refine Kd.C_drewN ?_ _)|(with_reducible refine Kd.C_drew ?_)));(case side4=>exact (ζg HO_10.out).2.1);rintro e w73 ⟨rfl,hb⟩;refine ⟨_,rfl,?_⟩;have n0_:=ζa (ζh (by (with_reducible repeat (first|apply ζd|apply ζc|apply ζe));exact HO_10.out) hb);have n1_:=ζa (ζh (by (with_reducible repeat (first|apply ζd|apply ζc|apply ζe));exact HO_13.out) hb);have n2_:=ζa (ζh (by (with_reducible repeat (first|apply ζd|apply ζc|apply ζe));exact HO603.out) hb);have n3_:=ζa (ζh (by (with_reducible repeat (first|apply ζd|apply ζc|apply ζe));exact HO607.out) hb);have n4_:=ζa (δr (by repeat (first|(with_reducible first|exact HB.out|apply δk|apply δi|apply δj)|exact HB.out)) hb);clear HO_10;clear HO_13;clear HO603;clear HO607;clear HB;have HO_10:=n0_;have HO_13:=n1_;have HO603:=n2_;have HO607:=n3_;have HB:=n4_;clear n0_ n1_ n2_ n3_ n4_;(try clear hb);(try clear hb2);(try clear hk);(try clear hi)))
               go_meet
               case rel=>exact ⟨_,(τ),(by first|rfl|(simp;done)|(simp [*];done)),H',⟨by have:=HJ13.out;have:=HJ34.out;first|omega|exact Nat.le_refl _⟩,⟨by (with_reducible repeat (first|apply ζd|apply ζc|apply ζe));exact Kd.R_mono HO_13.out (fun _ hk=>trivial)⟩,⟨by repeat (first|(with_reducible first|exact HB.out|apply δk|apply δi|apply δj)|exact HB.out)⟩⟩
             case rest =>
              clear HC59
              try clear c1
              try clear c2
              try clear p2
              try clear c3
              try clear c4
              try clear c5
              try clear c5b0
              try clear c5b1
              try clear c6
              try clear c6b0
              try clear c6b1
              try clear c7
              try clear c8
              try clear c8b0
              try clear c14
              try clear c16
              try clear c18
              try clear c19
              try clear c20
              try clear c23
              try clear c27
              try clear c28
              try clear c30
              try clear c33
              try clear c40
              try clear c40b0
              try clear c42
              try clear c49
              try clear c52
              try clear c52b0
              try clear c56
              try clear c56b0
              try clear c56b1
              try clear c67
              try clear p2
              obtain ⟨kq,x108_58,rfl,HA,HJ58,HO_13,HB⟩:=hcut
              have hl13_58:=(ζg HO_13.out).1
              rw [hl13_58] at HO_13
              (try simp only [hl13_58])
              cases kq with
              | zero=>exact absurd HA.out (by simp [laws_FnExactDoneCoins.j2])
              | succ kj58 =>
               have H:=HA.out
               clear HA
               simp only [laws_FnExactDoneCoins.j2] at H
               by_cases c74:x108_58=τ
               ·
                subst c74
                have H1:(some φ)=some r:=by rw [if_pos rfl] at H;exact H
                clear H
                have H:=H1
                clear H1
                obtain rfl:=Option.some.inj H
                go_wp2
                go_ret
                exact ⟨by first|rfl|(simp [errW_none,errW_some] <;> rfl)|(simp [*,errW_none,errW_some] <;> rfl),by repeat (first|(with_reducible first|exact HB.out|apply δk|apply δi|apply δj)|exact HB.out)⟩
               ·
                replace c74:=Bool.eq_false_iff.mpr c74
                subst c74
                have H1:((laws_heldPairS.f kj58 t599 1).bind fun t609=>(if t609<0 then (some φ) else (if t609=t598 then (some τ) else (some φ))))=some r:=by rw [if_neg (show ¬ (φ=τ) by decide)] at H;exact H
                clear H
                have H:=H1
                clear H1
                replace H:=Option.bind_eq_some_iff.mp H
                obtain ⟨t609,A750,H⟩:=H
                replace H:(if t609<0 then (some φ) else (if t609=t598 then (some τ) else (some φ)))=some r:=H
                have A75:=ζa A750
                clear A750
                by_cases c76:t609<0
                ·
                 rw [if_pos c76] at H
                 have c76b0:decide (t609<0)=τ:=decide_eq_true c76
                 clear c76
                 obtain rfl:=Option.some.inj H
                 go_wp2_with (first|((with_reducible refine δv (f:=20) rfl ?_);refine goesL_ (some 111) rfl rfl Tryz.func20 (by kernel_rfl) rfl #[.slice Ao60 t599.length co60,.int .i64 1] rfl (by (try simp only [δd,δe,δf]);first|done|rfl|(simp only [δg,δh];rfl)) ?_;(with_reducible refine (laws_heldPairS.calls kj58 _ _ t599 1 t609 _ ?side1 ?side2 A75.out).mono ?_);(case side1=>repeat (first|exact (ζg HO_13.out).2.2|(with_reducible refine Kd.C_alloc ?_ _)|(with_reducible refine Kd.C_drewN ?_ _)|(with_reducible refine Kd.C_drew ?_)));(case side2=>exact (ζg HO_13.out).2.1);rintro e w77 ⟨rfl,hb⟩;refine ⟨_,rfl,?_⟩;have n0_:=ζa (ζh (by (with_reducible repeat (first|apply ζd|apply ζc|apply ζe));exact HO_13.out) hb);have n1_:=ζa (δr (by repeat (first|(with_reducible first|exact HB.out|apply δk|apply δi|apply δj)|exact HB.out)) hb);clear HO_13;clear HB;have HO_13:=n0_;have HB:=n1_;clear n0_ n1_;(try clear hb);(try clear hb2);(try clear hk);(try clear hi)))
                 go_ret
                 exact ⟨by first|rfl|(simp [errW_none,errW_some] <;> rfl)|(simp [*,errW_none,errW_some] <;> rfl),by repeat (first|(with_reducible first|exact HB.out|apply δk|apply δi|apply δj)|exact HB.out)⟩
                ·
                 rw [if_neg c76] at H
                 have c76b0:decide (t609<0)=φ:=decide_eq_false c76
                 clear c76
                 by_cases c78:t609=t598
                 ·
                  rw [if_pos c78] at H
                  have c78b0:(t609 == t598)=τ:=beq_iff_eq.mpr c78
                  have c78b1:(t609 != t598)=φ:=bne_eq_false_iff_eq.mpr c78
                  clear c78
                  obtain rfl:=Option.some.inj H
                  go_wp2_with (first|((with_reducible refine δv (f:=20) rfl ?_);refine goesL_ (some 111) rfl rfl Tryz.func20 (by kernel_rfl) rfl #[.slice Ao60 t599.length co60,.int .i64 1] rfl (by (try simp only [δd,δe,δf]);first|done|rfl|(simp only [δg,δh];rfl)) ?_;(with_reducible refine (laws_heldPairS.calls kj58 _ _ t599 1 t609 _ ?side1 ?side2 A75.out).mono ?_);(case side1=>repeat (first|exact (ζg HO_13.out).2.2|(with_reducible refine Kd.C_alloc ?_ _)|(with_reducible refine Kd.C_drewN ?_ _)|(with_reducible refine Kd.C_drew ?_)));(case side2=>exact (ζg HO_13.out).2.1);rintro e w79 ⟨rfl,hb⟩;refine ⟨_,rfl,?_⟩;have n0_:=ζa (ζh (by (with_reducible repeat (first|apply ζd|apply ζc|apply ζe));exact HO_13.out) hb);have n1_:=ζa (δr (by repeat (first|(with_reducible first|exact HB.out|apply δk|apply δi|apply δj)|exact HB.out)) hb);clear HO_13;clear HB;have HO_13:=n0_;have HB:=n1_;clear n0_ n1_;(try clear hb);(try clear hb2);(try clear hk);(try clear hi)))
                  go_ret
                  exact ⟨by first|rfl|(simp [errW_none,errW_some] <;> rfl)|(simp [*,errW_none,errW_some] <;> rfl),by repeat (first|(with_reducible first|exact HB.out|apply δk|apply δi|apply δj)|exact HB.out)⟩
                 ·
                  rw [if_neg c78] at H
                  have c78b0:(t609 == t598)=φ:=beq_eq_false_iff_ne.mpr c78
                  have c78b1:(t609 != t598)=τ:=bne_iff_ne.mpr c78
                  obtain rfl:=Option.some.inj H
                  go_wp2_with (first|((with_reducible refine δv (f:=20) rfl ?_);refine goesL_ (some 111) rfl rfl Tryz.func20 (by kernel_rfl) rfl #[.slice Ao60 t599.length co60,.int .i64 1] rfl (by (try simp only [δd,δe,δf]);first|done|rfl|(simp only [δg,δh];rfl)) ?_;(with_reducible refine (laws_heldPairS.calls kj58 _ _ t599 1 t609 _ ?side1 ?side2 A75.out).mono ?_);(case side1=>repeat (first|exact (ζg HO_13.out).2.2|(with_reducible refine Kd.C_alloc ?_ _)|(with_reducible refine Kd.C_drewN ?_ _)|(with_reducible refine Kd.C_drew ?_)));(case side2=>exact (ζg HO_13.out).2.1);rintro e w80 ⟨rfl,hb⟩;refine ⟨_,rfl,?_⟩;have n0_:=ζa (ζh (by (with_reducible repeat (first|apply ζd|apply ζc|apply ζe));exact HO_13.out) hb);have n1_:=ζa (δr (by repeat (first|(with_reducible first|exact HB.out|apply δk|apply δi|apply δj)|exact HB.out)) hb);clear HO_13;clear HB;have HO_13:=n0_;have HB:=n1_;clear n0_ n1_;(try clear hb);(try clear hb2);(try clear hk);(try clear hi)))
                  go_ret
                  exact ⟨by first|rfl|(simp [errW_none,errW_some] <;> rfl)|(simp [*,errW_none,errW_some] <;> rfl),by repeat (first|(with_reducible first|exact HB.out|apply δk|apply δi|apply δj)|exact HB.out)⟩
            ·
             rw [if_neg c56] at H
             have c56b0:(t600 == t598)=φ:=beq_eq_false_iff_ne.mpr c56
             have c56b1:(t600 != t598)=τ:=bne_iff_ne.mpr c56
             obtain rfl:=Option.some.inj H
             obtain ⟨Ao81,co81,eo81⟩:=Kd.R_slice HO_13.out
             subst eo81
             go_wp2_with (first|((with_reducible refine δv (f:=19) rfl ?_);refine goesL_ (some 82) rfl rfl Tryz.func19 (by kernel_rfl) rfl #[.slice Ao81 t586.length co81,.int .i64 1] rfl (by (try simp only [δd,δe,δf]);first|done|rfl|(simp only [δg,δh];rfl)) ?_;(with_reducible refine (laws_markPairS.calls kj34 (fun k_=>some k_=(.slice Ao81 t586.length co81:Value).ownBlock) (.slice Ao81 t586.length co81) t586 1 t598 t599 w _ ?side1 ?side2 A50.out).mono ?_);(case side1=>repeat (first|(with_reducible first|exact HB.out|apply δk|apply δi|apply δj)|exact HB.out));(case side2=>exact Kd.R_tight rfl HO_13.out);rintro e w82 ⟨rfl,hy0,hb,hkp⟩;refine ⟨_,rfl,?_⟩;have n0_:=ζa (Kd.R_mono (ok':=fun k_=>some k_≠(.slice Ao81 t586.length co81:Value).ownBlock) (Kd.R_keptB (HO_10.out) hkp (fun k_ hk_ hs_=>(hk_) hs_)) (fun k_ hk_=>hk_.1));have n1_:=ζa (Kd.R_reok rfl hy0 (fun k_ e_=>HO_13.out.1 k_ e_));have n2_:=ζa (hb);clear HO_10;clear HO_13;clear HB;have HO_10:=n0_;have HO_13:=n1_;have HB:=n2_;clear n0_ n1_ n2_;(try clear hb);(try clear hkp);(try clear hy0))|((with_reducible refine δv (f:=20) rfl ?_);refine goesL_ (some 85) rfl rfl Tryz.func20 (by kernel_rfl) rfl #[.slice Ao81 t599.length co81,.int .i64 1] rfl (by (try simp only [δd,δe,δf]);first|done|(rw [show t599.length=t586.length from (ζg HO_13.out).1.symm] <;> rfl)|rfl|(simp only [δg,δh];rfl)) ?_;(with_reducible refine (laws_heldPairS.calls kj34 _ _ t599 1 t600 _ ?side1 ?side2 A51.out).mono ?_);(case side1=>repeat (first|exact (ζg HO_13.out).2.2|(with_reducible refine Kd.C_alloc ?_ _)|(with_reducible refine Kd.C_drewN ?_ _)|(with_reducible refine Kd.C_drew ?_)));(case side2=>rw [show t599.length=t586.length from (ζg HO_13.out).1.symm];exact (ζg HO_13.out).2.1);rintro e w83 ⟨rfl,hb⟩;refine ⟨_,rfl,?_⟩;have n0_:=ζa (ζh (by (with_reducible repeat (first|apply ζd|apply ζc|apply ζe));exact HO_10.out) hb);have n1_:=ζa (ζh (by (with_reducible repeat (first|apply ζd|apply ζc|apply ζe));exact HO_13.out) hb);have n2_:=ζa (δr (by repeat (first|(with_reducible first|exact HB.out|apply δk|apply δi|apply δj)|exact HB.out)) hb);clear HO_10;clear HO_13;clear HB;have HO_10:=n0_;have HO_13:=n1_;have HB:=n2_;clear n0_ n1_ n2_;(try clear hb);(try clear hb2);(try clear hk);(try clear hi)))
             go_ret
             exact ⟨by first|rfl|(simp [errW_none,errW_some] <;> rfl)|(simp [*,errW_none,errW_some] <;> rfl),by repeat (first|(with_reducible first|exact HB.out|apply δk|apply δi|apply δj)|exact HB.out)⟩
       ·
        replace c33:=Bool.eq_false_iff.mpr c33
        subst c33
        have H1:(some φ)=some r:=by rw [if_neg (show ¬ (φ=τ) by decide)] at H;exact H
        clear H
        have H:=H1
        clear H1
        obtain rfl:=Option.some.inj H
        go_wp2_with (first|((with_reducible refine δv (f:=16) rfl ?_);refine goesL_ (some 61) rfl rfl Tryz.func16 (by kernel_rfl) rfl #[.slice A1 l1.length c1] rfl (by (try simp only [δd,δe,δf]);first|done|rfl|(simp only [δg,δh];rfl)) ?_;(with_reducible refine (laws_toPairS.calls kj13 _ _ l1 t591 _ ?side1 ?side2 A31.out).mono ?_);(case side1=>repeat (first|exact (Kd.C_below HR1.out HB.out)|(with_reducible refine Kd.C_alloc ?_ _)|(with_reducible refine Kd.C_drewN ?_ _)|(with_reducible refine Kd.C_drew ?_)));(case side2=>exact HC1.out);rintro e w84 ⟨v592,rfl,ho0,hb⟩;refine ⟨_,rfl,?_⟩;have n0_:=ζa (Kd.R_elder' (by (with_reducible repeat (first|apply ζd|apply ζc|apply ζe));exact HO_10.out) (Kd.R_base ho0) hb);have n1_:=ζa (Kd.R_elder' (by (with_reducible repeat (first|apply ζd|apply ζc|apply ζe));exact HO_12.out) (Kd.R_base ho0) hb);have n2_:=ζa (Kd.R_elder' (by (with_reducible repeat (first|apply ζd|apply ζc|apply ζe));exact HO_13.out) (Kd.R_base ho0) hb);have n3_:=ζa (Kd.R_lower (Kd.R_new' (Kd.R_new' (Kd.R_new' ho0 (Kd.R_lt (by (with_reducible repeat (first|apply ζd|apply ζc|apply ζe));exact HO_10.out))) (Kd.R_lt (by (with_reducible repeat (first|apply ζd|apply ζc|apply ζe));exact HO_12.out))) (Kd.R_lt (by (with_reducible repeat (first|apply ζd|apply ζc|apply ζe));exact HO_13.out))) (δs (by repeat (first|(with_reducible first|exact HB.out|apply δk|apply δi|apply δj)|exact HB.out))));have n4_:=ζa (δr (by repeat (first|(with_reducible first|exact HB.out|apply δk|apply δi|apply δj)|exact HB.out)) hb);clear HO_10;clear HO_12;clear HO_13;clear HB;have HO_10:=n0_;have HO_12:=n1_;have HO_13:=n2_;have HO593:=n3_;have HB:=n4_;clear n0_ n1_ n2_ n3_ n4_;(try clear hb);(try clear hb2);(try clear hk);(try clear hi);(try clear ho0);obtain ⟨Ao85,co85,eo85⟩:=Kd.R_slice HO593.out;subst eo85)|((with_reducible refine δv (f:=18) rfl ?_);refine goesL_ (some 62) rfl rfl Tryz.func18 (by kernel_rfl) rfl #[.slice Ao20 t583.length co20,.slice Ao85 t591.length co85] rfl (by (try simp only [δd,δe,δf]);first|done|rfl|(simp only [δg,δh];rfl)) ?_;(with_reducible refine (laws_eqPairS.calls kj13 _ _ t583 _ _ t591 φ _ ?side1 ?side2 ?side3 ?side4 A32.out).mono ?_);(case side1=>repeat (first|exact (ζg HO_12.out).2.2|(with_reducible refine Kd.C_alloc ?_ _)|(with_reducible refine Kd.C_drewN ?_ _)|(with_reducible refine Kd.C_drew ?_)));(case side2=>exact (ζg HO_12.out).2.1);(case side3=>repeat (first|exact (ζg HO593.out).2.2|(with_reducible refine Kd.C_alloc ?_ _)|(with_reducible refine Kd.C_drewN ?_ _)|(with_reducible refine Kd.C_drew ?_)));(case side4=>exact (ζg HO593.out).2.1);rintro e w86 ⟨rfl,hb⟩;refine ⟨_,rfl,?_⟩;have n0_:=ζa (ζh (by (with_reducible repeat (first|apply ζd|apply ζc|apply ζe));exact HO_10.out) hb);have n1_:=ζa (ζh (by (with_reducible repeat (first|apply ζd|apply ζc|apply ζe));exact HO_12.out) hb);have n2_:=ζa (ζh (by (with_reducible repeat (first|apply ζd|apply ζc|apply ζe));exact HO_13.out) hb);have n3_:=ζa (ζh (by (with_reducible repeat (first|apply ζd|apply ζc|apply ζe));exact HO593.out) hb);have n4_:=ζa (δr (by repeat (first|(with_reducible first|exact HB.out|apply δk|apply δi|apply δj)|exact HB.out)) hb);clear HO_10;clear HO_12;clear HO_13;clear HO593;clear HB;have HO_10:=n0_;have HO_12:=n1_;have HO_13:=n2_;have HO593:=n3_;have HB:=n4_;clear n0_ n1_ n2_ n3_ n4_;(try clear hb);(try clear hb2);(try clear hk);(try clear hi)))
        go_ret
        exact ⟨by first|rfl|(simp [errW_none,errW_some] <;> rfl)|(simp [*,errW_none,errW_some] <;> rfl),by repeat (first|(with_reducible first|exact HB.out|apply δk|apply δi|apply δj)|exact HB.out)⟩

end Go.Proofs.YtabmfhnhmoiljaaGreatDoor.Q
