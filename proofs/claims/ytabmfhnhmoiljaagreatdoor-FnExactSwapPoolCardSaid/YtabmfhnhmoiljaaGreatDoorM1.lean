/- Parts of the proof: what single Go functions compute, each with its walk, and plain laws over these. -/
import Derived.Test.YtabmfhnhmoiljaaGreatDoorM0
namespace Go.Proofs.YtabmfhnhmoiljaaGreatDoor.Q
open Go.RowKit Go.Proofs.YtabmfhnhmoiljaaGreatDoorW.PrintWords Go.Proofs.YtabmfhnhmoiljaaGreatDoorW.PrintLast Go.Proofs.YtabmfhnhmoiljaaGreatDoorW.PrintMore
open Go.RowKit renaming wrap64 → ζm
open Go.Proofs.YtabmfhnhmoiljaaGreatDoorW.PrintWords.Aside0 renaming mk → ζa
open Go.Proofs.YtabmfhnhmoiljaaGreatDoorW.PrintWords renaming gate_dst → δx, below_size → δs, below_step → δr, pw_below_drewN → δi, gate_builtin → δy
open Go.Act renaming put → ζl
open List renaming setIfInBounds_toArray → δa, set_cons_zero → δb, set_cons_succ → δc
open Go.Proofs.YtabmfhnhmoiljaaGreatDoorW.PrintWords.Kd renaming R_drewN → ζc
open Bool renaming true → τ, false → φ
attribute [local go_sem] max2_int min2_int max_two min_two max_three min_three max_four min_four   -- for this text's walks alone
set_option linter.unusedVariables false
set_option linter.unusedSimpArgs false

/-! ### spec_l02Read: function 148 -/
mutual
def spec_l02Read.j0:Nat→ByteArray→List ByteArray→Bool→Option (List ByteArray × Bool)
 | 0,_,_,_=>none
 | k+1,x0,x4,x15=>if x15=τ then (some (x4,φ)) else (if 0<(x0.size:Int) then (spec_l02Read.l0 k x0 x4 1 (ζm (bt x0 0))) else (none))
def spec_l02Read.l0:Nat→ByteArray→List ByteArray→Int→Int→Option (List ByteArray × Bool)
 | 0,_,_,_,_=>none
 | k+1,x0,x4,x5,x6=>if x6 > 0 then (if (ζm (x5+2)) > (x0.size:Int) then (some ((([]:List ByteArray)),φ)) else (if 0≤x5 then (if x5<(x0.size:Int) then (if 0≤(ζm (x5+1)) then (if (ζm (x5+1))<(x0.size:Int) then (if (ζm ((ζm ((ζm (bt x0 x5)) * 256))+(ζm (bt x0 (ζm (x5+1)))))) > 1000 then (some ((([]:List ByteArray)),φ)) else (if (ζm ((ζm (x5+2))+(ζm ((ζm ((ζm (bt x0 x5)) * 256))+(ζm (bt x0 (ζm (x5+1)))))))) > (x0.size:Int) then (some ((([]:List ByteArray)),φ)) else (if 0≤(ζm (x5+2)) then (if (ζm (x5+2))≤(ζm ((ζm (x5+2))+(ζm ((ζm ((ζm (bt x0 x5)) * 256))+(ζm (bt x0 (ζm (x5+1)))))))) then (if (ζm ((ζm (x5+2))+(ζm ((ζm ((ζm (bt x0 x5)) * 256))+(ζm (bt x0 (ζm (x5+1))))))))≤(x0.size:Int) then (if x4.length<8796093022208 then (spec_l02Read.l0 k x0 (x4 ++ [x0.extract ((ζm (x5+2)):Int).toNat ((ζm ((ζm (x5+2))+(ζm ((ζm ((ζm (bt x0 x5)) * 256))+(ζm (bt x0 (ζm (x5+1)))))))):Int).toNat]) (ζm (x5+(ζm (2+(ζm ((ζm ((ζm (bt x0 x5)) * 256))+(ζm (bt x0 (ζm (x5+1)))))))))) (ζm (x6 - 1))) else (none)) else (none)) else (none)) else (none)))) else (none)) else (none)) else (none)) else (none))) else (if x5=(x0.size:Int) then (some (x4,τ)) else (some ((([]:List ByteArray)),φ)))
end
def spec_l02Read.f (k:Nat) (a0:ByteArray):Option (List ByteArray × Bool):=(some (([]:List ByteArray):List ByteArray)).bind fun y316=>(if a0.toList=([]:List UInt8) then (spec_l02Read.j0 k a0 y316 τ) else (if 0<(a0.size:Int) then (spec_l02Read.j0 k a0 y316 (decide ((bt a0 0) > 40))) else (none)))
set_option maxHeartbeats 8000000 in
set_option maxRecDepth 100000 in
theorem spec_l02Read.calls (k:Nat) (a0:ByteArray) (r1:List ByteArray) (r2:Bool) (w:World) (h:spec_l02Read.f k a0=some (r1,r2)) :
  Calls Tryz.prog 148 #[.string a0] w fun e w' => ∃ v0_:Value,e = .returned (.tuple #[v0_,.bool r2])∧Kd.R Kd.string 9 w' w.heap.size (fun _=>True) v0_ r1∧Below w.heap.size w w':=by
 have HB:=ζa (Below.refl w.heap.size w)
 have H:((some (([]:List ByteArray):List ByteArray)).bind fun y316=>(if a0.toList=([]:List UInt8) then (spec_l02Read.j0 k a0 y316 τ) else (if 0<(a0.size:Int) then (spec_l02Read.j0 k a0 y316 (decide ((bt a0 0) > 40))) else (none))))=some (r1,r2):=h
 clear h
 obtain ⟨y316,hy316⟩ : ∃ y_:List ByteArray,y_=(([]:List ByteArray)):=⟨_,rfl⟩
 replace H:(if a0.toList=([]:List UInt8) then (spec_l02Read.j0 k a0 y316 τ) else (if 0<(a0.size:Int) then (spec_l02Read.j0 k a0 y316 (decide ((bt a0 0) > 40))) else (none)))=some (r1,r2):=by (have H2_:=(Option.bind_some _ _).symm.trans H;rw [hy316];with_reducible exact H2_)
 have Ny316:=ζa hy316
 clear hy316
 have HC2:=ζa H
 clear H
 go_enter Tryz.func148,Tryz.ntmps148
 go_upto_region 2 with (((with_reducible refine δx (N:=8) rfl ?_);(try (refine gate_guard (by rfl) ?_;dsimp only));refine Kd.R_lit Kd.string _ 9 ?hg (N:=8) ?hd (xs:=([]:List ByteArray)) (inner:=[]) (ok:=fun _=>True) (okp:=fun _=>True) ?hr ?hp (fun _ hk=>hk) trivial (Below.refl _ _) (Nat.le_refl _) (by simp) ?_;(case hd=>rfl);(case hg=>rfl);(case hr=>(go_simp;done));(case hp=>exact (Reps.none _ _));intro v317 w3 ho4 hb hg_ hnew_;clear hg_ hnew_;(rw [← Ny316.out] at ho4);have HO318:=ζa (Kd.R_lower ho4 (δs (by exact HB.out)));replace HB:=ζa (δr (by exact HB.out) hb);clear hb ho4))
 repeat (go_quiet (fail);go_upto_region 2 with (fail))
 (try simp only [ζl,δa,δb,δc])
 go_cut [15] (fun v15 wc => ∃ (kq:Nat) (x15_1:Bool),v15 = .bool x15_1∧Aside0 (spec_l02Read.j0 kq a0 y316 x15_1=some (r1,r2))∧Aside0 (kq≤k)∧Aside0 (Kd.R Kd.string 9 wc w.heap.size (fun _=>True) v317 y316)∧Aside0 (Below w.heap.size w wc))
 case first =>
  have H:=HC2.out
  clear HC2
  by_cases c5:a0.toList=([]:List UInt8)
  ·
   rw [if_pos c5] at H
   have c5b0:(a0.toList == ([]:List UInt8))=τ:=beq_iff_eq.mpr c5
   have c5b1:(a0.toList != ([]:List UInt8))=φ:=bne_eq_false_iff_eq.mpr c5
   clear c5
   (skip)
   have H':=ζa H
   clear H
   go_wp2
   repeat (go_quiet (fail);try go_wp2)
   go_meet
   case rel=>exact ⟨_,(τ),(by rfl),H',⟨by omega⟩,⟨by exact HO318.out⟩,⟨by repeat ((with_reducible exact HB.out))⟩⟩
  ·
   rw [if_neg c5] at H
   have c5b0:(a0.toList == ([]:List UInt8))=φ:=beq_eq_false_iff_ne.mpr c5
   have c5b1:(a0.toList != ([]:List UInt8))=τ:=bne_iff_ne.mpr c5
   (skip)
   by_cases c6:0<(a0.size:Int)
   ·
    rw [if_pos c6] at H
    have c6b0:decide (0<(a0.size:Int))=τ:=decide_eq_true c6
    have c6b1:decide (0<a0.size)=τ:=decide_eq_true (by omega)
    clear c6
    have H':=ζa H
    clear H
    have p7:0≤(0:Int):=(by omega)
    have q7:0<a0.size:=(by have:(0:Int)<(a0.size:Int):=of_decide_eq_true (by (with_reducible assumption));omega)
    have hx7 : ∀ h:0<a0.size,((a0[0]'h).toNat:Int)=bt a0 0:=bt_at a0 0
    clear p7
    have qi7:(0<(a0.size:Int))=True:=eq_true (of_decide_eq_true (by (with_reducible assumption)))
    replace q7:=eq_true q7
    go_wp2
    repeat (go_quiet (fail);try go_wp2)
    go_meet
    case rel=>exact ⟨_,(decide ((bt a0 0) > 40)),(by rfl),H',⟨by omega⟩,⟨by exact HO318.out⟩,⟨by repeat ((with_reducible exact HB.out))⟩⟩
   ·
    rw [if_neg c6] at H
    exact absurd H (by simp)
 case rest =>
  clear HC2
  try clear c1
  try clear p2
  try clear c5
  try clear c5b0
  try clear c5b1
  try clear c6
  try clear c6b0
  try clear c6b1
  try clear p7
  try clear q7
  try clear hx7
  try clear qi7
  try clear p7
  try clear q7
  obtain ⟨kq,x15_1,rfl,HA,HJ1,HO_4,HB⟩:=hcut
  cases kq with
  | zero=>exact absurd HA.out (by simp [spec_l02Read.j0])
  | succ kj1 =>
   have H:=HA.out
   clear HA
   simp only [spec_l02Read.j0] at H
   by_cases c8:x15_1=τ
   ·
    subst c8
    have H1:(some (y316,φ))=some (r1,r2):=by rw [if_pos rfl] at H;exact H
    clear H
    have H:=H1
    clear H1
    simp only [Option.some.injEq,Prod.mk.injEq] at H
    obtain ⟨rfl,rfl⟩:=H
    go_wp2
    repeat (go_quiet (fail);try go_wp2)
    go_ret2
    exact ⟨_,by rfl,by exact HO_4.out,by repeat ((with_reducible exact HB.out))⟩
   ·
    replace c8:=Bool.eq_false_iff.mpr c8
    subst c8
    have H1:(if 0<(a0.size:Int) then (spec_l02Read.l0 kj1 a0 y316 1 (ζm (bt a0 0))) else (none))=some (r1,r2):=by rw [if_neg (show ¬ (φ=τ) by decide)] at H;exact H
    clear H
    have H:=H1
    clear H1
    by_cases c9:0<(a0.size:Int)
    ·
     rw [if_pos c9] at H
     have c9b0:decide (0<(a0.size:Int))=τ:=decide_eq_true c9
     have c9b1:decide (0<a0.size)=τ:=decide_eq_true (by omega)
     clear c9
     have H':=ζa H
     clear H
     have p10:0≤(0:Int):=(by omega)
     have q10:0<a0.size:=(by have:(0:Int)<(a0.size:Int):=of_decide_eq_true (by (with_reducible assumption));omega)
     have hx10 : ∀ h:0<a0.size,((a0[0]'h).toNat:Int)=bt a0 0:=bt_at a0 0
     clear p10
     have qi10:(0<(a0.size:Int))=True:=eq_true (of_decide_eq_true (by (with_reducible assumption)))
     replace q10:=eq_true q10
     go_wp2
     repeat (go_quiet (fail);try go_wp2)
     go_loopg [4,5,6] kj1 (fun kq v4 v5 v6 w' => ∃ (x4_2:List ByteArray) (x5_2:Int) (x6_2:Int),v5 = .int .i64 x5_2∧v6 = .int .i64 x6_2∧Aside0 (spec_l02Read.l0 kq a0 x4_2 x5_2 x6_2=some (r1,r2))∧Aside0 (kq≤kj1)∧Aside0 (Kd.R Kd.string 9 w' w.heap.size (fun _=>True) v4 x4_2)∧Aside0 (Below w.heap.size w w'))
     case atStart=>exact ⟨(y316),(1),(ζm (bt a0 0)),(by rfl),(by rfl),H',⟨Nat.le_refl _⟩,⟨by exact HO_4.out⟩,⟨by repeat ((with_reducible exact HB.out))⟩⟩
     case round =>
      clear H'
      try clear c1
      try clear p1
      try clear q1
      try clear hx1
      try clear qi1
      try clear p2
      try clear c5
      try clear c5b0
      try clear c5b1
      try clear c6
      try clear c6b0
      try clear c6b1
      try clear p6
      try clear p7
      try clear q7
      try clear hx7
      try clear qi7
      try clear c8
      try clear c9
      try clear c9b0
      try clear c9b1
      try clear p10
      try clear q10
      try clear hx10
      try clear qi10
      try clear p10
      try clear p2
      try clear p7
      try clear q10
      try clear q7
      obtain ⟨x4_2,x5_2,x6_2,rfl,rfl,HA,HK2,HO_4,HB⟩:=hrel
      cases gk with
      | zero=>exact absurd HA.out (by simp [spec_l02Read.l0])
      | succ k2 =>
       have H:=HA.out
       clear HA
       simp only [spec_l02Read.l0] at H
       by_cases c11:x6_2 > 0
       ·
        rw [if_pos c11] at H
        have c11b0:decide (0<x6_2)=τ:=decide_eq_true c11
        clear c11
        by_cases c12:(ζm (x5_2+2)) > (a0.size:Int)
        ·
         rw [if_pos c12] at H
         have c12b0:decide ((a0.size:Int)<(ζm (x5_2+2)))=τ:=decide_eq_true c12
         clear c12
         obtain ⟨y322,hy322⟩ : ∃ y_:List ByteArray,y_=(([]:List ByteArray)):=⟨_,rfl⟩
         replace H:(some (y322,φ))=some (r1,r2):=by (rw [hy322];with_reducible exact H)
         have Ny322:=ζa hy322
         clear hy322
         simp only [Option.some.injEq,Prod.mk.injEq] at H
         obtain ⟨rfl,rfl⟩:=H
         go_wp2_with (((with_reducible refine δx (N:=29) rfl ?_);(try (refine gate_guard (by rfl) ?_;dsimp only));refine Kd.R_lit Kd.string _ 9 ?hg (N:=29) ?hd (xs:=([]:List ByteArray)) (inner:=[]) (ok:=fun _=>True) (okp:=fun _=>True) ?hr ?hp (fun _ hk=>hk) trivial (Below.refl _ _) (Nat.le_refl _) (by simp) ?_;(case hd=>rfl);(case hg=>rfl);(case hr=>(go_simp;done));(case hp=>exact (Reps.none _ _));intro v323 w13 ho14 hb hg_ hnew_;clear hg_ hnew_;(rw [← Ny322.out] at ho14);have HO324:=ζa (Kd.R_lower (Kd.R_new' ho14 (Kd.R_lt (by exact HO_4.out))) (δs (by exact HB.out)));replace HO_4:=ζa (Kd.R_elder' (by exact HO_4.out) (Kd.R_base ho14) hb);replace HB:=ζa (δr (by exact HB.out) hb);clear hb ho14))
         repeat (go_quiet (fail);try go_wp2_with (fail))
         go_ret2
         exact ⟨_,by rfl,by exact Kd.R_mono HO324.out (fun _ hk=>trivial),by repeat ((with_reducible exact HB.out))⟩
        ·
         rw [if_neg c12] at H
         have c12b0:decide ((a0.size:Int)<(ζm (x5_2+2)))=φ:=decide_eq_false c12
         clear c12
         by_cases c15:0≤x5_2
         ·
          rw [if_pos c15] at H
          have c15b0:decide (0≤x5_2)=τ:=decide_eq_true c15
          clear c15
          by_cases c16:x5_2<(a0.size:Int)
          ·
           rw [if_pos c16] at H
           have c16b0:decide (x5_2<(a0.size:Int))=τ:=decide_eq_true c16
           clear c16
           obtain ⟨ji18,hji18⟩ : ∃ j_:Int,(ζm (x5_2+1))=j_:=⟨_,rfl⟩
           replace H:(if 0≤(ji18) then (if (ji18)<(a0.size:Int) then (if (ζm ((ζm ((ζm (bt a0 x5_2)) * 256))+(ζm (bt a0 (ji18))))) > 1000 then (some ((([]:List ByteArray)),φ)) else (if (ζm ((ζm (x5_2+2))+(ζm ((ζm ((ζm (bt a0 x5_2)) * 256))+(ζm (bt a0 (ji18))))))) > (a0.size:Int) then (some ((([]:List ByteArray)),φ)) else (if 0≤(ζm (x5_2+2)) then (if (ζm (x5_2+2))≤(ζm ((ζm (x5_2+2))+(ζm ((ζm ((ζm (bt a0 x5_2)) * 256))+(ζm (bt a0 (ji18))))))) then (if (ζm ((ζm (x5_2+2))+(ζm ((ζm ((ζm (bt a0 x5_2)) * 256))+(ζm (bt a0 (ji18)))))))≤(a0.size:Int) then (if x4_2.length<8796093022208 then (spec_l02Read.l0 k2 a0 (x4_2 ++ [a0.extract ((ζm (x5_2+2)):Int).toNat ((ζm ((ζm (x5_2+2))+(ζm ((ζm ((ζm (bt a0 x5_2)) * 256))+(ζm (bt a0 (ji18))))))):Int).toNat]) (ζm (x5_2+(ζm (2+(ζm ((ζm ((ζm (bt a0 x5_2)) * 256))+(ζm (bt a0 (ji18))))))))) (ζm (x6_2 - 1))) else (none)) else (none)) else (none)) else (none)))) else (none)) else (none))=some (r1,r2):=by (rw [hji18] at H;exact H)
           have hji18w:(IntKind.i64.wrap (x5_2+1))=ji18:=(i64_w _).trans hji18
           by_cases c19:0≤(ji18)
           ·
            rw [if_pos c19] at H
            have c19b0:decide (0≤(ji18))=τ:=decide_eq_true c19
            clear c19
            by_cases c20:(ji18)<(a0.size:Int)
            ·
             rw [if_pos c20] at H
             have c20b0:decide ((ji18)<(a0.size:Int))=τ:=decide_eq_true c20
             clear c20
             by_cases c22:(ζm ((ζm ((ζm (bt a0 x5_2)) * 256))+(ζm (bt a0 (ji18))))) > 1000
             ·
              rw [if_pos c22] at H
              have c22b0:decide (1000<(ζm ((ζm ((ζm (bt a0 x5_2)) * 256))+(ζm (bt a0 (ji18))))))=τ:=decide_eq_true c22
              clear c22
              obtain ⟨y325,hy325⟩ : ∃ y_:List ByteArray,y_=(([]:List ByteArray)):=⟨_,rfl⟩
              replace H:(some (y325,φ))=some (r1,r2):=by (rw [hy325];with_reducible exact H)
              have Ny325:=ζa hy325
              clear hy325
              simp only [Option.some.injEq,Prod.mk.injEq] at H
              obtain ⟨rfl,rfl⟩:=H
              have p17:0≤(x5_2:Int):=of_decide_eq_true (by (with_reducible assumption))
              have q17:x5_2<(a0.size:Int):=of_decide_eq_true (by (with_reducible assumption))
              have hx17:=bt_at a0 x5_2
              replace p17:=eq_true p17
              replace q17:=eq_true q17
              have p21:0≤((ji18):Int):=of_decide_eq_true (by (with_reducible assumption))
              have q21:(ji18)<(a0.size:Int):=of_decide_eq_true (by (with_reducible assumption))
              have hx21:=bt_at a0 (ji18)
              replace p21:=eq_true p21
              replace q21:=eq_true q21
              go_wp2_with (fail)
              repeat (go_quiet (fail);try go_wp2_with (((with_reducible refine δx (N:=52) rfl ?_);(try (refine gate_guard (by rfl) ?_;dsimp only));refine Kd.R_lit Kd.string _ 9 ?hg (N:=52) ?hd (xs:=([]:List ByteArray)) (inner:=[]) (ok:=fun _=>True) (okp:=fun _=>True) ?hr ?hp (fun _ hk=>hk) trivial (Below.refl _ _) (Nat.le_refl _) (by simp) ?_;(case hd=>rfl);(case hg=>rfl);(case hr=>(go_simp;done));(case hp=>exact (Reps.none _ _));intro v326 w23 ho24 hb hg_ hnew_;clear hg_ hnew_;(rw [← Ny325.out] at ho24);have HO327:=ζa (Kd.R_lower (Kd.R_new' ho24 (Kd.R_lt (by (with_reducible repeat (apply ζc));exact HO_4.out))) (δs (by repeat ((with_reducible first|exact HB.out|apply δi)))));replace HO_4:=ζa (Kd.R_elder' (by (with_reducible repeat (apply ζc));exact HO_4.out) (Kd.R_base ho24) hb);replace HB:=ζa (δr (by repeat ((with_reducible first|exact HB.out|apply δi))) hb);clear hb ho24)))
              go_ret2
              exact ⟨_,by rfl,by exact Kd.R_mono HO327.out (fun _ hk=>trivial),by repeat ((with_reducible exact HB.out))⟩
             ·
              rw [if_neg c22] at H
              have c22b0:decide (1000<(ζm ((ζm ((ζm (bt a0 x5_2)) * 256))+(ζm (bt a0 (ji18))))))=φ:=decide_eq_false c22
              clear c22
              by_cases c25:(ζm ((ζm (x5_2+2))+(ζm ((ζm ((ζm (bt a0 x5_2)) * 256))+(ζm (bt a0 (ji18))))))) > (a0.size:Int)
              ·
               rw [if_pos c25] at H
               have c25b0:decide ((a0.size:Int)<(ζm ((ζm (x5_2+2))+(ζm ((ζm ((ζm (bt a0 x5_2)) * 256))+(ζm (bt a0 (ji18))))))))=τ:=decide_eq_true c25
               clear c25
               obtain ⟨y328,hy328⟩ : ∃ y_:List ByteArray,y_=(([]:List ByteArray)):=⟨_,rfl⟩
               replace H:(some (y328,φ))=some (r1,r2):=by (rw [hy328];with_reducible exact H)
               have Ny328:=ζa hy328
               clear hy328
               simp only [Option.some.injEq,Prod.mk.injEq] at H
               obtain ⟨rfl,rfl⟩:=H
               have p17:0≤(x5_2:Int):=of_decide_eq_true (by (with_reducible assumption))
               have q17:x5_2<(a0.size:Int):=of_decide_eq_true (by (with_reducible assumption))
               have hx17:=bt_at a0 x5_2
               replace p17:=eq_true p17
               replace q17:=eq_true q17
               have p21:0≤((ji18):Int):=of_decide_eq_true (by (with_reducible assumption))
               have q21:(ji18)<(a0.size:Int):=of_decide_eq_true (by (with_reducible assumption))
               have hx21:=bt_at a0 (ji18)
               replace p21:=eq_true p21
               replace q21:=eq_true q21
               go_wp2_with (fail)
               repeat (go_quiet (fail);try go_wp2_with (((with_reducible refine δx (N:=52) rfl ?_);(try (refine gate_guard (by rfl) ?_;dsimp only));refine Kd.R_lit Kd.string _ 9 ?hg (N:=52) ?hd (xs:=([]:List ByteArray)) (inner:=[]) (ok:=fun _=>True) (okp:=fun _=>True) ?hr ?hp (fun _ hk=>hk) trivial (Below.refl _ _) (Nat.le_refl _) (by simp) ?_;(case hd=>rfl);(case hg=>rfl);(case hr=>(go_simp;done));(case hp=>exact (Reps.none _ _));intro v329 w26 ho27 hb hg_ hnew_;clear hg_ hnew_;(rw [← Ny328.out] at ho27);have HO330:=ζa (Kd.R_lower (Kd.R_new' ho27 (Kd.R_lt (by (with_reducible repeat (apply ζc));exact HO_4.out))) (δs (by repeat ((with_reducible first|exact HB.out|apply δi)))));replace HO_4:=ζa (Kd.R_elder' (by (with_reducible repeat (apply ζc));exact HO_4.out) (Kd.R_base ho27) hb);replace HB:=ζa (δr (by repeat ((with_reducible first|exact HB.out|apply δi))) hb);clear hb ho27)))
               go_ret2
               exact ⟨_,by rfl,by exact Kd.R_mono HO330.out (fun _ hk=>trivial),by repeat ((with_reducible exact HB.out))⟩
              ·
               rw [if_neg c25] at H
               have c25b0:decide ((a0.size:Int)<(ζm ((ζm (x5_2+2))+(ζm ((ζm ((ζm (bt a0 x5_2)) * 256))+(ζm (bt a0 (ji18))))))))=φ:=decide_eq_false c25
               clear c25
               obtain ⟨ji28,hji28⟩ : ∃ j_:Int,(ζm (x5_2+2))=j_:=⟨_,rfl⟩
               replace H:(if 0≤(ji28) then (if (ji28)≤(ζm ((ji28)+(ζm ((ζm ((ζm (bt a0 x5_2)) * 256))+(ζm (bt a0 (ji18))))))) then (if (ζm ((ji28)+(ζm ((ζm ((ζm (bt a0 x5_2)) * 256))+(ζm (bt a0 (ji18)))))))≤(a0.size:Int) then (if x4_2.length<8796093022208 then (spec_l02Read.l0 k2 a0 (x4_2 ++ [a0.extract ((ji28):Int).toNat ((ζm ((ji28)+(ζm ((ζm ((ζm (bt a0 x5_2)) * 256))+(ζm (bt a0 (ji18))))))):Int).toNat]) (ζm (x5_2+(ζm (2+(ζm ((ζm ((ζm (bt a0 x5_2)) * 256))+(ζm (bt a0 (ji18))))))))) (ζm (x6_2 - 1))) else (none)) else (none)) else (none)) else (none))=some (r1,r2):=by (rw [hji28] at H;exact H)
               (try rw [hji28] at c12b0)
               (try rw [hji28] at c25b0)
               have hji28w:(IntKind.i64.wrap (x5_2+2))=ji28:=(i64_w _).trans hji28
               by_cases c29:0≤(ji28)
               ·
                rw [if_pos c29] at H
                have c29b0:=eq_true c29
                have c29b1:decide (0≤(ji28))=τ:=decide_eq_true c29
                clear c29
                by_cases c30:(ji28)≤(ζm ((ji28)+(ζm ((ζm ((ζm (bt a0 x5_2)) * 256))+(ζm (bt a0 (ji18)))))))
                ·
                 rw [if_pos c30] at H
                 have c30b0:=eq_true c30
                 have c30b1:decide ((ji28)≤(ζm ((ji28)+(ζm ((ζm ((ζm (bt a0 x5_2)) * 256))+(ζm (bt a0 (ji18))))))))=τ:=decide_eq_true c30
                 by_cases c31:(ζm ((ji28)+(ζm ((ζm ((ζm (bt a0 x5_2)) * 256))+(ζm (bt a0 (ji18)))))))≤(a0.size:Int)
                 ·
                  rw [if_pos c31] at H
                  have c31b0:=eq_true c31
                  have c31b1:decide ((ζm ((ji28)+(ζm ((ζm ((ζm (bt a0 x5_2)) * 256))+(ζm (bt a0 (ji18)))))))≤(a0.size:Int))=τ:=decide_eq_true c31
                  by_cases c32:x4_2.length<8796093022208
                  ·
                   rw [if_pos c32] at H
                   have LMc32:=ζa c32
                   clear c32
                   obtain ⟨y331,hy331⟩ : ∃ y_:List ByteArray,y_=(x4_2 ++ [a0.extract ((ji28):Int).toNat ((ζm ((ji28)+(ζm ((ζm ((ζm (bt a0 x5_2)) * 256))+(ζm (bt a0 (ji18))))))):Int).toNat]):=⟨_,rfl⟩
                   replace H:(spec_l02Read.l0 k2 a0 y331 (ζm (x5_2+(ζm (2+(ζm ((ζm ((ζm (bt a0 x5_2)) * 256))+(ζm (bt a0 (ji18))))))))) (ζm (x6_2 - 1)))=some (r1,r2):=by (rw [hy331];with_reducible exact H)
                   have Ny331:=ζa hy331
                   clear hy331
                   have H':=ζa H
                   clear H
                   have p17:0≤(x5_2:Int):=of_decide_eq_true (by (with_reducible assumption))
                   have q17:x5_2<(a0.size:Int):=of_decide_eq_true (by (with_reducible assumption))
                   have hx17:=bt_at a0 x5_2
                   replace p17:=eq_true p17
                   replace q17:=eq_true q17
                   have p21:0≤((ji18):Int):=of_decide_eq_true (by (with_reducible assumption))
                   have q21:(ji18)<(a0.size:Int):=of_decide_eq_true (by (with_reducible assumption))
                   have hx21:=bt_at a0 (ji18)
                   replace p21:=eq_true p21
                   replace q21:=eq_true q21
                   go_wp2_with (fail)
                   repeat (go_quiet (fail);try go_wp2_with (((with_reducible refine δy (b:=.append) (xs:=#[.tmp 53,.tmp 62]) rfl ?_);(try (refine gate_guard (by rfl) ?_;dsimp only));at_builtin;refine Kd.R_append Kd.string (w0:=w) w.heap.size rfl (.tmp 53) (.tmp 62) 75 9 (.string ⟨#[]⟩) 16 rfl Tryz.underlying75 info9 rfl (by decide) (by omega) u4 x4_2 (a0.extract ((ji28):Int).toNat ((ζm ((ji28)+(ζm ((ζm ((ζm (bt a0 x5_2)) * 256))+(ζm (bt a0 (ji18))))))):Int).toNat) [.string (a0.extract ((ji28):Int).toNat ((ζm ((ji28)+(ζm ((ζm ((ζm (bt a0 x5_2)) * 256))+(ζm (bt a0 (ji18))))))):Int).toNat)] (fun _=>True) (fun _=>False) rfl rfl ?aP (fun _ hk=>hk.elim) ?aF ?aO ?aB ?aS ?aL ?_;(case aP=>exact rfl);(case aB=>exact (by repeat ((with_reducible first|exact HB.out|apply δi))));(case aF=>exact (fun _ _=>trivial));(case aO=>exact (by (with_reducible repeat (apply ζc));exact HO_4.out));(case aS=>exact (δs (by repeat ((with_reducible first|exact HB.out|apply δi)))));(case aL=>have:=LMc32.out;omega);intro v332 w33 ho hb hg hat;rw [← Ny331.out] at ho;have n0_:=ζa (hb);have n1_:=ζa (ho);clear HB;clear HO_4;have HB:=n0_;have HO333:=n1_;clear n0_ n1_;clear ho hb hg hat)))
                   go_roundg k2
                   case measure=>have:=HJ1.out;have:=HK2.out;omega
                   case rel=>exact ⟨(y331),(ζm (x5_2+(ζm (2+(ζm ((ζm ((ζm (bt a0 x5_2)) * 256))+(ζm (bt a0 (ji18))))))))),(ζm (x6_2 - 1)),(by rfl),(by rfl),H',⟨by have:=HJ1.out;have:=HK2.out;omega⟩,⟨by exact HO333.out⟩,⟨by repeat ((with_reducible exact HB.out))⟩⟩
                  ·
                   rw [if_neg c32] at H
                   exact absurd H (by simp)
                 ·
                  rw [if_neg c31] at H
                  exact absurd H (by simp)
                ·
                 rw [if_neg c30] at H
                 exact absurd H (by simp)
               ·
                rw [if_neg c29] at H
                exact absurd H (by simp)
            ·
             rw [if_neg c20] at H
             exact absurd H (by simp)
           ·
            rw [if_neg c19] at H
            exact absurd H (by simp)
          ·
           rw [if_neg c16] at H
           exact absurd H (by simp)
         ·
          rw [if_neg c15] at H
          exact absurd H (by simp)
       ·
        rw [if_neg c11] at H
        have c11b0:decide (0<x6_2)=φ:=decide_eq_false c11
        clear c11
        by_cases c34:x5_2=(a0.size:Int)
        ·
         rw [if_pos c34] at H
         have c34b0:(x5_2 == (a0.size:Int))=τ:=beq_iff_eq.mpr c34
         have c34b1:(x5_2 != (a0.size:Int))=φ:=bne_eq_false_iff_eq.mpr c34
         clear c34
         simp only [Option.some.injEq,Prod.mk.injEq] at H
         obtain ⟨rfl,rfl⟩:=H
         go_wp2
         repeat (go_quiet (fail);try go_wp2)
         go_ret2
         exact ⟨_,by rfl,by exact HO_4.out,by repeat ((with_reducible exact HB.out))⟩
        ·
         rw [if_neg c34] at H
         have c34b0:(x5_2 == (a0.size:Int))=φ:=beq_eq_false_iff_ne.mpr c34
         have c34b1:(x5_2 != (a0.size:Int))=τ:=bne_iff_ne.mpr c34
         obtain ⟨y319,hy319⟩ : ∃ y_:List ByteArray,y_=(([]:List ByteArray)):=⟨_,rfl⟩
         replace H:(some (y319,φ))=some (r1,r2):=by (rw [hy319];with_reducible exact H)
         have Ny319:=ζa hy319
         clear hy319
         simp only [Option.some.injEq,Prod.mk.injEq] at H
         obtain ⟨rfl,rfl⟩:=H
         go_wp2_with (((with_reducible refine δx (N:=72) rfl ?_);(try (refine gate_guard (by rfl) ?_;dsimp only));refine Kd.R_lit Kd.string _ 9 ?hg (N:=72) ?hd (xs:=([]:List ByteArray)) (inner:=[]) (ok:=fun _=>True) (okp:=fun _=>True) ?hr ?hp (fun _ hk=>hk) trivial (Below.refl _ _) (Nat.le_refl _) (by simp) ?_;(case hd=>rfl);(case hg=>rfl);(case hr=>(go_simp;done));(case hp=>exact (Reps.none _ _));intro v320 w35 ho36 hb hg_ hnew_;clear hg_ hnew_;(rw [← Ny319.out] at ho36);have HO321:=ζa (Kd.R_lower (Kd.R_new' ho36 (Kd.R_lt (by exact HO_4.out))) (δs (by exact HB.out)));replace HO_4:=ζa (Kd.R_elder' (by exact HO_4.out) (Kd.R_base ho36) hb);replace HB:=ζa (δr (by exact HB.out) hb);clear hb ho36))
         repeat (go_quiet (fail);try go_wp2_with (fail))
         go_ret2
         exact ⟨_,by rfl,by exact Kd.R_mono HO321.out (fun _ hk=>trivial),by repeat ((with_reducible exact HB.out))⟩
    ·
     rw [if_neg c9] at H
     exact absurd H (by simp)


open Go.Proofs.YtabmfhnhmoiljaaGreatDoorW.PrintWords renaming gate_dst → δx, box_event → δz, below_size → δs, below_step → δr, blk_cell → δl, blk_frozen → δm, gate_callee → δv, pw_below_drewN → δi
open List renaming setIfInBounds_toArray → δa, set_cons_zero → δb, set_cons_succ → δc, map_toArray → δd, map_cons → δe, map_nil → δf

/-! ### spec_PoolOK: function 173 -/
def spec_PoolOK.j0:Nat→Bool→Int→Int→Int→Option (Bool)
 | 0,_,_,_,_=>none
 | k+1,x15,x872000,x872001,x872002=>if x15=τ then (some τ) else ((spec_l01In.f x872000 1 1000000000000000000).bind fun t872=>(if t872=τ then ((spec_l01In.f x872001 1 1000000000000000000).bind fun t873=>(if t873=τ then ((spec_l01In.f x872002 1 1000000000000000000).bind fun t874=>(some t874)) else (some φ))) else (some φ)))
def spec_PoolOK.f (k:Nat) (a0_0:Int) (a0_1:Int) (a0_2:Int):Option (Bool):=if a0_0=0 then (if a0_1=0 then (spec_PoolOK.j0 k (a0_2 == 0) a0_0 a0_1 a0_2) else (spec_PoolOK.j0 k φ a0_0 a0_1 a0_2)) else (spec_PoolOK.j0 k φ a0_0 a0_1 a0_2)
set_option maxHeartbeats 8000000 in
set_option maxRecDepth 100000 in
theorem spec_PoolOK.calls (k:Nat) (a0_0:Int) (a0_1:Int) (a0_2:Int) (r:Bool) (w:World) (h:spec_PoolOK.f k a0_0 a0_1 a0_2=some r) :
  Calls Tryz.prog 173 #[.agg #[.int .i64 a0_0,.int .i64 a0_1,.int .i64 a0_2]] w fun e w'=>e = .returned (.bool r)∧Below w.heap.size w w':=by
 have hu109:=Tryz.underlying109
 have HB:=ζa (Below.refl w.heap.size w)
 have H:(if a0_0=0 then (if a0_1=0 then (spec_PoolOK.j0 k (a0_2 == 0) a0_0 a0_1 a0_2) else (spec_PoolOK.j0 k φ a0_0 a0_1 a0_2)) else (spec_PoolOK.j0 k φ a0_0 a0_1 a0_2))=some r:=h
 clear h
 have HC2:=ζa H
 clear H
 go_enter Tryz.func173,Tryz.ntmps173
 go_upto_region 1 with (((with_reducible refine δx (N:=1) rfl ?_);refine δz ?hg (N:=1) ?hd (cs:=#[.int .i64 a0_0,.int .i64 a0_1,.int .i64 a0_2]) (t:=109) ?hr ?_;(case hd=>rfl);(case hg=>rfl);(case hr=>(go_simp;done));intro gb871 hg w3 hbox hb;have BK871:=ζa (hbox);have GW871:=ζa ((by rw [hg];exact (δs (by exact HB.out)):w.heap.size≤gb871));have GE871:=ζa ((by rw [hg];exact (δs (by exact HB.out)):w.heap.size≤gb871));replace HB:=ζa (δr (by exact HB.out) hb);clear hb hbox hg))
 (try simp only [ζl,δa,δb,δc])
 go_cut [15] (fun v15 wc => ∃ (kq:Nat) (x15_1:Bool),v15 = .bool x15_1∧Aside0 (spec_PoolOK.j0 kq x15_1 a0_0 a0_1 a0_2=some r)∧Aside0 (kq≤k)∧Aside0 (wc.heap[gb871]? = some (.cells #[.int .i64 a0_0,.int .i64 a0_1,.int .i64 a0_2] 109 (0,0)))∧Aside0 (Below w.heap.size w wc))
 case first =>
  have H:=HC2.out
  clear HC2
  by_cases c4:a0_0=0
  ·
   rw [if_pos c4] at H
   have c4b0:(a0_0 == 0)=τ:=beq_iff_eq.mpr c4
   have c4b1:(a0_0 != 0)=φ:=bne_eq_false_iff_eq.mpr c4
   clear c4
   (skip)
   by_cases c5:a0_1=0
   ·
    rw [if_pos c5] at H
    have c5b0:(a0_1 == 0)=τ:=beq_iff_eq.mpr c5
    have c5b1:(a0_1 != 0)=φ:=bne_eq_false_iff_eq.mpr c5
    clear c5
    have H':=ζa H
    clear H
    have hcz6_0:w3.cell? ⟨gb871,0,none⟩=some (.int .i64 a0_0):=(δl BK871.out 0).trans rfl
    have hcz6_1:w3.cell? ⟨gb871,1,none⟩=some (.int .i64 a0_1):=(δl BK871.out 1).trans rfl
    have hcz6_2:w3.cell? ⟨gb871,2,none⟩=some (.int .i64 a0_2):=(δl BK871.out 2).trans rfl
    have hfz6_0:=δm BK871.out 0
    have hfz6_1:=δm BK871.out 1
    have hfz6_2:=δm BK871.out 2
    go_wp2
    go_meet
    case rel=>exact ⟨_,((a0_2 == 0)),(by rfl),H',⟨by omega⟩,⟨by exact BK871.out⟩,⟨by repeat ((with_reducible exact HB.out))⟩⟩
   ·
    rw [if_neg c5] at H
    have c5b0:(a0_1 == 0)=φ:=beq_eq_false_iff_ne.mpr c5
    have c5b1:(a0_1 != 0)=τ:=bne_iff_ne.mpr c5
    have H':=ζa H
    clear H
    have hcz7_0:w3.cell? ⟨gb871,0,none⟩=some (.int .i64 a0_0):=(δl BK871.out 0).trans rfl
    have hcz7_1:w3.cell? ⟨gb871,1,none⟩=some (.int .i64 a0_1):=(δl BK871.out 1).trans rfl
    have hcz7_2:w3.cell? ⟨gb871,2,none⟩=some (.int .i64 a0_2):=(δl BK871.out 2).trans rfl
    have hfz7_0:=δm BK871.out 0
    have hfz7_1:=δm BK871.out 1
    have hfz7_2:=δm BK871.out 2
    go_wp2
    go_meet
    case rel=>exact ⟨_,(φ),(by rfl),H',⟨by omega⟩,⟨by exact BK871.out⟩,⟨by repeat ((with_reducible exact HB.out))⟩⟩
  ·
   rw [if_neg c4] at H
   have c4b0:(a0_0 == 0)=φ:=beq_eq_false_iff_ne.mpr c4
   have c4b1:(a0_0 != 0)=τ:=bne_iff_ne.mpr c4
   (skip)
   have H':=ζa H
   clear H
   have hcz8_0:w3.cell? ⟨gb871,0,none⟩=some (.int .i64 a0_0):=(δl BK871.out 0).trans rfl
   have hcz8_1:w3.cell? ⟨gb871,1,none⟩=some (.int .i64 a0_1):=(δl BK871.out 1).trans rfl
   have hcz8_2:w3.cell? ⟨gb871,2,none⟩=some (.int .i64 a0_2):=(δl BK871.out 2).trans rfl
   have hfz8_0:=δm BK871.out 0
   have hfz8_1:=δm BK871.out 1
   have hfz8_2:=δm BK871.out 2
   go_wp2
   go_meet
   case rel=>exact ⟨_,(φ),(by rfl),H',⟨by omega⟩,⟨by exact BK871.out⟩,⟨by repeat ((with_reducible exact HB.out))⟩⟩
 case rest =>
  clear HC2
  try clear c1
  try clear p2
  try clear c4
  try clear c4b0
  try clear c4b1
  try clear c5
  try clear c5b0
  try clear c5b1
  try clear hcz6_0
  try clear hcz6_1
  try clear hcz6_2
  try clear hcz7_0
  try clear hcz7_1
  try clear hcz7_2
  try clear hcz8_0
  try clear hcz8_1
  try clear hcz8_2
  try clear hfz6_0
  try clear hfz6_1
  try clear hfz6_2
  try clear hfz7_0
  try clear hfz7_1
  try clear hfz7_2
  try clear hfz8_0
  try clear hfz8_1
  try clear hfz8_2
  obtain ⟨kq,x15_1,rfl,HA,HJ1,BK871,HB⟩:=hcut
  cases kq with
  | zero=>exact absurd HA.out (by simp [spec_PoolOK.j0])
  | succ kj1 =>
   have H:=HA.out
   clear HA
   simp only [spec_PoolOK.j0] at H
   by_cases c9:x15_1=τ
   ·
    subst c9
    have H1:(some τ)=some r:=by rw [if_pos rfl] at H;exact H
    clear H
    have H:=H1
    clear H1
    obtain rfl:=Option.some.inj H
    go_wp2
    go_ret
    exact ⟨by rfl,by repeat ((with_reducible exact HB.out))⟩
   ·
    replace c9:=Bool.eq_false_iff.mpr c9
    subst c9
    have H1:((spec_l01In.f a0_0 1 1000000000000000000).bind fun t872=>(if t872=τ then ((spec_l01In.f a0_1 1 1000000000000000000).bind fun t873=>(if t873=τ then ((spec_l01In.f a0_2 1 1000000000000000000).bind fun t874=>(some t874)) else (some φ))) else (some φ)))=some r:=by rw [if_neg (show ¬ (φ=τ) by decide)] at H;exact H
    clear H
    have H:=H1
    clear H1
    replace H:=Option.bind_eq_some_iff.mp H
    obtain ⟨t872,A100,H⟩:=H
    replace H:(if t872=τ then ((spec_l01In.f a0_1 1 1000000000000000000).bind fun t873=>(if t873=τ then ((spec_l01In.f a0_2 1 1000000000000000000).bind fun t874=>(some t874)) else (some φ))) else (some φ))=some r:=H
    have A10:=ζa A100
    clear A100
    by_cases c11:t872=τ
    ·
     subst c11
     have H1:((spec_l01In.f a0_1 1 1000000000000000000).bind fun t873=>(if t873=τ then ((spec_l01In.f a0_2 1 1000000000000000000).bind fun t874=>(some t874)) else (some φ)))=some r:=by rw [if_pos rfl] at H;exact H
     clear H
     have H:=H1
     clear H1
     replace H:=Option.bind_eq_some_iff.mp H
     obtain ⟨t873,A120,H⟩:=H
     replace H:(if t873=τ then ((spec_l01In.f a0_2 1 1000000000000000000).bind fun t874=>(some t874)) else (some φ))=some r:=H
     have A12:=ζa A120
     clear A120
     by_cases c13:t873=τ
     ·
      subst c13
      have H1:((spec_l01In.f a0_2 1 1000000000000000000).bind fun t874=>(some t874))=some r:=by rw [if_pos rfl] at H;exact H
      clear H
      have H:=H1
      clear H1
      replace H:=Option.bind_eq_some_iff.mp H
      obtain ⟨t874,A140,H⟩:=H
      replace H:(some t874)=some r:=H
      have A14:=ζa A140
      clear A140
      obtain rfl:=Option.some.inj H
      have hcz15_0:wc.cell? ⟨gb871,0,none⟩=some (.int .i64 a0_0):=(δl BK871.out 0).trans rfl
      have hcz15_1:wc.cell? ⟨gb871,1,none⟩=some (.int .i64 a0_1):=(δl BK871.out 1).trans rfl
      have hcz15_2:wc.cell? ⟨gb871,2,none⟩=some (.int .i64 a0_2):=(δl BK871.out 2).trans rfl
      have hfz15_0:=δm BK871.out 0
      have hfz15_1:=δm BK871.out 1
      have hfz15_2:=δm BK871.out 2
      go_wp2_with (first|((with_reducible refine δv (f:=77) rfl ?_);refine goesL_ (some 18) rfl rfl Tryz.func77 (by kernel_rfl) rfl #[.int .i64 a0_0,.int .i64 1,.int .i64 1000000000000000000] rfl (by (try simp only [δd,δe,δf]);rfl) ?_;(with_reducible refine (spec_l01In.calls a0_0 1 1000000000000000000 τ _ A10.out).mono ?_);rintro e w' ⟨rfl,⟨nd,rfl⟩⟩;refine ⟨_,rfl,?_⟩)|(go_at_call 77;(with_reducible refine (spec_l01In.calls a0_1 1 1000000000000000000 τ _ A12.out).mono ?_);rintro e w' ⟨rfl,⟨nd,rfl⟩⟩)|(go_at_call 77;(with_reducible refine (spec_l01In.calls a0_2 1 1000000000000000000 t874 _ A14.out).mono ?_);rintro e w' ⟨rfl,⟨nd,rfl⟩⟩))
      go_ret
      exact ⟨by rfl,by repeat ((with_reducible first|exact HB.out|apply δi))⟩
     ·
      replace c13:=Bool.eq_false_iff.mpr c13
      subst c13
      have H1:(some φ)=some r:=by rw [if_neg (show ¬ (φ=τ) by decide)] at H;exact H
      clear H
      have H:=H1
      clear H1
      obtain rfl:=Option.some.inj H
      have hcz16_0:wc.cell? ⟨gb871,0,none⟩=some (.int .i64 a0_0):=(δl BK871.out 0).trans rfl
      have hcz16_1:wc.cell? ⟨gb871,1,none⟩=some (.int .i64 a0_1):=(δl BK871.out 1).trans rfl
      have hcz16_2:wc.cell? ⟨gb871,2,none⟩=some (.int .i64 a0_2):=(δl BK871.out 2).trans rfl
      have hfz16_0:=δm BK871.out 0
      have hfz16_1:=δm BK871.out 1
      have hfz16_2:=δm BK871.out 2
      go_wp2_with (first|((with_reducible refine δv (f:=77) rfl ?_);refine goesL_ (some 18) rfl rfl Tryz.func77 (by kernel_rfl) rfl #[.int .i64 a0_0,.int .i64 1,.int .i64 1000000000000000000] rfl (by (try simp only [δd,δe,δf]);rfl) ?_;(with_reducible refine (spec_l01In.calls a0_0 1 1000000000000000000 τ _ A10.out).mono ?_);rintro e w' ⟨rfl,⟨nd,rfl⟩⟩;refine ⟨_,rfl,?_⟩)|(go_at_call 77;(with_reducible refine (spec_l01In.calls a0_1 1 1000000000000000000 φ _ A12.out).mono ?_);rintro e w' ⟨rfl,⟨nd,rfl⟩⟩))
      go_ret
      exact ⟨by rfl,by repeat ((with_reducible first|exact HB.out|apply δi))⟩
    ·
     replace c11:=Bool.eq_false_iff.mpr c11
     subst c11
     have H1:(some φ)=some r:=by rw [if_neg (show ¬ (φ=τ) by decide)] at H;exact H
     clear H
     have H:=H1
     clear H1
     obtain rfl:=Option.some.inj H
     have hcz17_0:wc.cell? ⟨gb871,0,none⟩=some (.int .i64 a0_0):=(δl BK871.out 0).trans rfl
     have hcz17_1:wc.cell? ⟨gb871,1,none⟩=some (.int .i64 a0_1):=(δl BK871.out 1).trans rfl
     have hcz17_2:wc.cell? ⟨gb871,2,none⟩=some (.int .i64 a0_2):=(δl BK871.out 2).trans rfl
     have hfz17_0:=δm BK871.out 0
     have hfz17_1:=δm BK871.out 1
     have hfz17_2:=δm BK871.out 2
     go_wp2_with (((with_reducible refine δv (f:=77) rfl ?_);refine goesL_ (some 18) rfl rfl Tryz.func77 (by kernel_rfl) rfl #[.int .i64 a0_0,.int .i64 1,.int .i64 1000000000000000000] rfl (by (try simp only [δd,δe,δf]);rfl) ?_;(with_reducible refine (spec_l01In.calls a0_0 1 1000000000000000000 φ _ A10.out).mono ?_);rintro e w' ⟨rfl,⟨nd,rfl⟩⟩;refine ⟨_,rfl,?_⟩))
     go_ret
     exact ⟨by rfl,by repeat ((with_reducible first|exact HB.out|apply δi))⟩


open Go.Proofs.YtabmfhnhmoiljaaGreatDoorW.PrintWords renaming gate_dst → δx, box_event → δz, below_size → δs, below_step → δr, gate_callee → δv, pw_below_drewN → δi, blk_drewN → δn, blk_cell → δl, blk_frozen → δm, blk_put → δw, below_set → δq, blk_drew → δp, below_drew1 → δj, cell_far → δt
open List renaming map_toArray → δd, map_cons → δe, map_nil → δf, setIfInBounds_toArray → δa, set_cons_zero → δb, set_cons_succ → δc
open Go.Proofs.YtabmfhnhmoiljaaGreatDoorW.PrintWords.Kd renaming R_drew → ζe, R_reads' → ζg, R_below → ζh, R_drewN → ζc, own_blk → ζb, R_ne → ζf, R_far → ζi
open Go.Proofs.YtabmfhnhmoiljaaGreatDoorW.PrintLast renaming pure_ → ζk, any_of → ζj

/-! ### spec_l10Find: function 118 -/
def spec_l10Find.j0:Nat→List ByteArray→Bool→Option (Int × Int × Int)
 | 0,_,_=>none
 | k+1,x5,x28=>if x28=τ then (some (0,0,0)) else (if 0<(x5.length:Int) then ((spec_l02Of.f k (rdOf ByteArray.empty x5 0)).bind fun t883=>(if 1<(x5.length:Int) then ((spec_l02Of.f k (rdOf ByteArray.empty x5 1)).bind fun t885=>(if 2<(x5.length:Int) then ((spec_l02Of.f k (rdOf ByteArray.empty x5 2)).bind fun t887=>((spec_PoolOK.f k t883 t885 t887).bind fun t889=>(if t889=τ then (some (t883,t885,t887)) else (some (0,0,0))))) else (none))) else (none))) else (none))
def spec_l10Find.f (k:Nat) (l0:List (S51)):Option (Int × Int × Int):=(spec_l03Get.f k l0 (⟨#[112]⟩:ByteArray)).bind fun bt876=>((spec_l02Read.f k bt876.1).bind fun bt878=>(if bt876.2=τ then (if bt878.2=τ then (spec_l10Find.j0 k bt878.1 ((bt878.1.length:Int) != 3)) else (spec_l10Find.j0 k bt878.1 τ)) else (spec_l10Find.j0 k bt878.1 τ)))
def spec_l10Find.T5:Bool × List (List Nat × List Nat):=(τ,[([],[]),([0],[0]),([1],[1]),([2],[2]),([],[]),([4],[4]),([5],[5]),([6,3],[6]),([],[]),([8],[8]),([9],[9]),([10,7],[10]),([3,7,11],[3,7,11]),([],[]),([13,12,11,0,1,2,3,4,5,6,7,8,9,10,11,12,13],[12,13])])
def spec_l10Find.B5:List Nat:=[0,1,3,7,0,16,48,127,0,256,768,2047,4095,0,16383]
theorem spec_l10Find.tab5:rtab .any (opsOf Tryz.f118 5)=spec_l10Find.T5:=by kernel_rfl
theorem spec_l10Find.bits5:waitsOk spec_l10Find.T5.2 spec_l10Find.B5=τ:=by kernel_rfl
set_option maxHeartbeats 8000000 in
set_option maxRecDepth 100000 in
theorem spec_l10Find.calls (k:Nat) (A0:Option Addr) (c0:Nat) (l0:List (S51)) (r1:Int) (r2:Int) (r3:Int) (w:World) (hr0:Kd.C k51 w A0 l0.length l0) (hc0:l0.length≤c0) (h:spec_l10Find.f k l0=some (r1,r2,r3)) :
  Calls Tryz.prog 118 #[.slice A0 l0.length c0] w fun e w'=>e = .returned (.agg #[.int .i64 r1,.int .i64 r2,.int .i64 r3])∧Below w.heap.size w w':=by
 have hu109:=Tryz.underlying109
 have HR0:=ζa hr0
 have HC0:=ζa hc0
 clear hr0 hc0
 have HB:=ζa (Below.refl w.heap.size w)
 have H:((spec_l03Get.f k l0 (⟨#[112]⟩:ByteArray)).bind fun bt876=>((spec_l02Read.f k bt876.1).bind fun bt878=>(if bt876.2=τ then (if bt878.2=τ then (spec_l10Find.j0 k bt878.1 ((bt878.1.length:Int) != 3)) else (spec_l10Find.j0 k bt878.1 τ)) else (spec_l10Find.j0 k bt878.1 τ))))=some (r1,r2,r3):=h
 clear h
 replace H:=Option.bind_eq_some_iff.mp H
 obtain ⟨⟨t876,t877⟩,A20,H⟩:=H
 replace H:((spec_l02Read.f k t876).bind fun bt878=>(if t877=τ then (if bt878.2=τ then (spec_l10Find.j0 k bt878.1 ((bt878.1.length:Int) != 3)) else (spec_l10Find.j0 k bt878.1 τ)) else (spec_l10Find.j0 k bt878.1 τ)))=some (r1,r2,r3):=H
 have A2:=ζa A20
 clear A20
 replace H:=Option.bind_eq_some_iff.mp H
 obtain ⟨⟨t878,t879⟩,A30,H⟩:=H
 replace H:(if t877=τ then (if t879=τ then (spec_l10Find.j0 k t878 ((t878.length:Int) != 3)) else (spec_l10Find.j0 k t878 τ)) else (spec_l10Find.j0 k t878 τ))=some (r1,r2,r3):=H
 have A3:=ζa A30
 clear A30
 have HC4:=ζa H
 clear H
 go_enter Tryz.func118,Tryz.ntmps118
 go_upto_region 3 with (first|((with_reducible refine δx (N:=2) rfl ?_);(try (refine gate_guard (by rfl) ?_;dsimp only));refine δz ?hg (N:=2) ?hd (cs:=#[.int .i64 0,.int .i64 0,.int .i64 0]) (t:=109) ?hr ?_;(case hd=>rfl);(case hg=>rfl);(case hr=>(go_simp;done));intro gb875 hg w5 hbox hb;have BK875:=ζa (hbox);have GW875:=ζa ((by rw [hg];exact (δs (by exact HB.out)):w.heap.size≤gb875));have GE875:=ζa ((by rw [hg];exact (δs (by exact HB.out)):w.heap.size≤gb875));replace HB:=ζa (δr (by exact HB.out) hb);clear hb hbox hg)|((with_reducible refine δv (f:=102) rfl ?_);refine goesL_ (some 10) rfl rfl Tryz.func102 (by kernel_rfl) rfl #[.slice A0 l0.length c0,.string (⟨#[112]⟩:ByteArray)] rfl (by (try simp only [δd,δe,δf]);rfl) ?_;(with_reducible refine (spec_l03Get.calls k _ _ l0 (⟨#[112]⟩:ByteArray) t876 t877 _ ?side1 ?side2 A2.out).mono ?_);(case side1=>repeat (exact (Kd.C_below HR0.out HB.out)));(case side2=>exact HC0.out);rintro e w' ⟨rfl,⟨nd,rfl⟩⟩;refine ⟨_,rfl,?_⟩)|((with_reducible refine δv (f:=148) rfl ?_);refine goesL_ (some 15) rfl rfl Tryz.func148 (by kernel_rfl) rfl #[.string t876] rfl (by (try simp only [δd,δe,δf]);rfl) ?_;(with_reducible refine (spec_l02Read.calls k t876 t878 t879 _ A3.out).mono ?_);rintro e w6 ⟨v880,rfl,ho0,hb⟩;refine ⟨_,rfl,?_⟩;have HO881:=ζa (Kd.R_lower ho0 (δs (by repeat ((with_reducible first|exact HB.out|apply δi)))));replace BK875:=ζa (blk_below (g:=gb875) (o:=.cells #[.int .i64 0,.int .i64 0,.int .i64 0] 109 (0,0)) (by (with_reducible repeat (refine δn ?_ _));exact BK875.out) hb);replace HB:=ζa (δr (by repeat ((with_reducible first|exact HB.out|apply δi))) hb);(try clear hb);(try clear hb2);(try clear hk);(try clear hi);(try clear ho0)))
 (try simp only [ζl,δa,δb,δc])
 go_cut [28] (fun v28 wc => ∃ (kq:Nat) (x28_3:Bool),v28 = .bool x28_3∧Aside0 (spec_l10Find.j0 kq t878 x28_3=some (r1,r2,r3))∧Aside0 (kq≤k)∧Aside0 (Kd.R Kd.string 9 wc w.heap.size (fun _=>True) v880 t878)∧Aside0 (wc.heap[gb875]? = some (.cells #[.int .i64 0,.int .i64 0,.int .i64 0] 109 (0,0)))∧Aside0 (Below w.heap.size w wc))
 case first =>
  have H:=HC4.out
  clear HC4
  by_cases c7:t877=τ
  ·
   subst c7
   have H1:(if t879=τ then (spec_l10Find.j0 k t878 ((t878.length:Int) != 3)) else (spec_l10Find.j0 k t878 τ))=some (r1,r2,r3):=by rw [if_pos rfl] at H;exact H
   clear H
   have H:=H1
   clear H1
   by_cases c8:t879=τ
   ·
    subst c8
    have H1:(spec_l10Find.j0 k t878 ((t878.length:Int) != 3))=some (r1,r2,r3):=by rw [if_pos rfl] at H;exact H
    clear H
    have H:=H1
    clear H1
    have H':=ζa H
    clear H
    obtain ⟨Ao9,co9,eo9⟩:=Kd.R_slice HO881.out
    subst eo9
    go_wp2
    go_meet
    case rel=>exact ⟨_,(((t878.length:Int) != 3)),(by rfl),H',⟨by omega⟩,⟨by exact HO881.out⟩,⟨by exact BK875.out⟩,⟨by repeat ((with_reducible exact HB.out))⟩⟩
   ·
    replace c8:=Bool.eq_false_iff.mpr c8
    subst c8
    have H1:(spec_l10Find.j0 k t878 τ)=some (r1,r2,r3):=by rw [if_neg (show ¬ (φ=τ) by decide)] at H;exact H
    clear H
    have H:=H1
    clear H1
    have H':=ζa H
    clear H
    go_wp2
    go_meet
    case rel=>exact ⟨_,(τ),(by rfl),H',⟨by omega⟩,⟨by exact HO881.out⟩,⟨by exact BK875.out⟩,⟨by repeat ((with_reducible exact HB.out))⟩⟩
  ·
   replace c7:=Bool.eq_false_iff.mpr c7
   subst c7
   have H1:(spec_l10Find.j0 k t878 τ)=some (r1,r2,r3):=by rw [if_neg (show ¬ (φ=τ) by decide)] at H;exact H
   clear H
   have H:=H1
   clear H1
   have H':=ζa H
   clear H
   go_wp2
   go_meet
   case rel=>exact ⟨_,(τ),(by rfl),H',⟨by omega⟩,⟨by exact HO881.out⟩,⟨by exact BK875.out⟩,⟨by repeat ((with_reducible exact HB.out))⟩⟩
 case rest =>
  clear HC4
  try clear c1
  try clear p2
  try clear c7
  try clear c8
  obtain ⟨kq,x28_3,rfl,HA,HJ3,HO_5,BK875,HB⟩:=hcut
  cases kq with
  | zero=>exact absurd HA.out (by simp [spec_l10Find.j0])
  | succ kj3 =>
   have H:=HA.out
   clear HA
   simp only [spec_l10Find.j0] at H
   by_cases c10:x28_3=τ
   ·
    subst c10
    have H1:(some (0,0,0))=some (r1,r2,r3):=by rw [if_pos rfl] at H;exact H
    clear H
    have H:=H1
    clear H1
    simp only [Option.some.injEq,Prod.mk.injEq] at H
    obtain ⟨rfl,rfl,rfl⟩:=H
    have hcz11_0:wc.cell? ⟨gb875,0,none⟩=some (.int .i64 0):=(δl BK875.out 0).trans rfl
    have hcz11_1:wc.cell? ⟨gb875,1,none⟩=some (.int .i64 0):=(δl BK875.out 1).trans rfl
    have hcz11_2:wc.cell? ⟨gb875,2,none⟩=some (.int .i64 0):=(δl BK875.out 2).trans rfl
    have hfz11_0:=δm BK875.out 0
    have hfz11_1:=δm BK875.out 1
    have hfz11_2:=δm BK875.out 2
    go_wp2
    refine bodyPost_ret (results_cell_row rfl _ _ gb875 109 #[.int .i64 0,.int .i64 0,.int .i64 0] (0,0) _ rfl (by refine δw (cs:=#[.int .i64 0,.int .i64 0,.int .i64 0]) ?_ 2 _ rfl;refine δw (cs:=#[.int .i64 0,.int .i64 0,.int .i64 0]) ?_ 1 _ rfl;refine δw (cs:=#[.int .i64 0,.int .i64 0,.int .i64 0]) ?_ 0 _ rfl;exact BK875.out) Tryz.underlying109 rfl (by kernel_rfl)) rfl ?_
    exact ⟨by rfl,by repeat ((with_reducible first|exact HB.out|refine δq ?_ GE875.out))⟩
   ·
    replace c10:=Bool.eq_false_iff.mpr c10
    subst c10
    have H1:(if 0<(t878.length:Int) then ((spec_l02Of.f kj3 (rdOf ByteArray.empty t878 0)).bind fun t883=>(if 1<(t878.length:Int) then ((spec_l02Of.f kj3 (rdOf ByteArray.empty t878 1)).bind fun t885=>(if 2<(t878.length:Int) then ((spec_l02Of.f kj3 (rdOf ByteArray.empty t878 2)).bind fun t887=>((spec_PoolOK.f kj3 t883 t885 t887).bind fun t889=>(if t889=τ then (some (t883,t885,t887)) else (some (0,0,0))))) else (none))) else (none))) else (none))=some (r1,r2,r3):=by rw [if_neg (show ¬ (φ=τ) by decide)] at H;exact H
    clear H
    have H:=H1
    clear H1
    by_cases c12:0<(t878.length:Int)
    ·
     rw [if_pos c12] at H
     have c12b0:decide (0<(t878.length:Int))=τ:=decide_eq_true c12
     have c12b1:decide (0<t878.length)=τ:=decide_eq_true (by omega)
     clear c12
     replace H:=Option.bind_eq_some_iff.mp H
     obtain ⟨t883,A130,H⟩:=H
     replace H:(if 1<(t878.length:Int) then ((spec_l02Of.f kj3 (rdOf ByteArray.empty t878 1)).bind fun t885=>(if 2<(t878.length:Int) then ((spec_l02Of.f kj3 (rdOf ByteArray.empty t878 2)).bind fun t887=>((spec_PoolOK.f kj3 t883 t885 t887).bind fun t889=>(if t889=τ then (some (t883,t885,t887)) else (some (0,0,0))))) else (none))) else (none))=some (r1,r2,r3):=H
     have A13:=ζa A130
     clear A130
     by_cases c14:1<(t878.length:Int)
     ·
      rw [if_pos c14] at H
      have c14b0:decide (1<(t878.length:Int))=τ:=decide_eq_true c14
      have c14b1:decide (1<t878.length)=τ:=decide_eq_true (by omega)
      clear c14
      replace H:=Option.bind_eq_some_iff.mp H
      obtain ⟨t885,A150,H⟩:=H
      replace H:(if 2<(t878.length:Int) then ((spec_l02Of.f kj3 (rdOf ByteArray.empty t878 2)).bind fun t887=>((spec_PoolOK.f kj3 t883 t885 t887).bind fun t889=>(if t889=τ then (some (t883,t885,t887)) else (some (0,0,0))))) else (none))=some (r1,r2,r3):=H
      have A15:=ζa A150
      clear A150
      by_cases c16:2<(t878.length:Int)
      ·
       rw [if_pos c16] at H
       have c16b0:decide (2<(t878.length:Int))=τ:=decide_eq_true c16
       have c16b1:decide (2<t878.length)=τ:=decide_eq_true (by omega)
       clear c16
       replace H:=Option.bind_eq_some_iff.mp H
       obtain ⟨t887,A170,H⟩:=H
       replace H:((spec_PoolOK.f kj3 t883 t885 t887).bind fun t889=>(if t889=τ then (some (t883,t885,t887)) else (some (0,0,0))))=some (r1,r2,r3):=H
       have A17:=ζa A170
       clear A170
       replace H:=Option.bind_eq_some_iff.mp H
       obtain ⟨t889,A180,H⟩:=H
       replace H:(if t889=τ then (some (t883,t885,t887)) else (some (0,0,0)))=some (r1,r2,r3):=H
       have A18:=ζa A180
       clear A180
       try go_wp2
       replace HO_5:=ζa (ζe HO_5.out)
       replace BK875:=ζa (δp BK875.out)
       replace HB:=ζa (δj HB.out)
       obtain ⟨Ao21,co21,eo21⟩:=Kd.R_slice HO_5.out
       (subst eo21)
       have p882:0≤(0:Int):=(by omega)
       have q882:0<(t878.length:Int):=of_decide_eq_true (by (with_reducible assumption))
       obtain ⟨ad882,e882,hx882_0⟩:=Kd.at_string (ζg HO_5.out).2.2 0 p882 q882
       cases e882
       have qi882:(0<t878.length)=True:=eq_true (by omega)
       (try rw [show ((0:Int)).toNat=0 from rfl] at hx882_0)
       (try rw [Addr.add_zero'] at hx882_0)
       replace p882:=eq_true p882
       replace q882:=eq_true q882
       have p884:0≤(1:Int):=(by omega)
       have q884:1<(t878.length:Int):=of_decide_eq_true (by (with_reducible assumption))
       obtain ⟨ad884,e884,hx884_0⟩:=Kd.at_string (ζg HO_5.out).2.2 1 p884 q884
       obtain rfl:ad882=ad884:=(by injection e884)
       (try simp only [show (1:Int).toNat=1 from rfl,Nat.reduceMul,Nat.reduceEqDiff,Go.Addr.add,↓reduceIte] at hx884_0)
       have qi884:(1<t878.length)=True:=eq_true (by omega)
       (try rw [show ((1:Int)).toNat=1 from rfl] at hx884_0)
       replace p884:=eq_true p884
       replace q884:=eq_true q884
       have p886:0≤(2:Int):=(by omega)
       have q886:2<(t878.length:Int):=of_decide_eq_true (by (with_reducible assumption))
       obtain ⟨ad886,e886,hx886_0⟩:=Kd.at_string (ζg HO_5.out).2.2 2 p886 q886
       obtain rfl:ad882=ad886:=(by injection e886)
       (try simp only [show (2:Int).toNat=2 from rfl,Nat.reduceMul,Nat.reduceEqDiff,Go.Addr.add,↓reduceIte] at hx886_0)
       have qi886:(2<t878.length)=True:=eq_true (by omega)
       (try rw [show ((2:Int)).toNat=2 from rfl] at hx886_0)
       replace p886:=eq_true p886
       replace q886:=eq_true q886
       refine start_ (n:=15) (S:=fun w'=>w'.cell? ad882=some (.string (rdOf ByteArray.empty t878 0))∧w'.cell? ⟨ad882.block,ad882.off+1,none⟩=some (.string (rdOf ByteArray.empty t878 1))∧w'.cell? ⟨ad882.block,ad882.off+2,none⟩=some (.string (rdOf ByteArray.empty t878 2))) (ds:=[]) #[φ,φ,φ,φ,φ,φ,φ,φ,φ,φ,φ,φ,φ,φ,φ] (by kernel_rfl) rfl rfl ⟨hx882_0,hx884_0,hx886_0⟩ (fun hHeld => ?_);refine with_tabW spec_l10Find.tab5 spec_l10Find.bits5 (fun HT_ HW_ => ?_)
       generalize wc.drew=w20 at HO_5 BK875 HB hx882_0 hx884_0 hx886_0 hHeld ⊢
       refine ζk (i:=0) (N:=some 30) (v:=?_) (a':=?_) #[τ,φ,φ,φ,φ,φ,φ,φ,φ,φ,φ,φ,φ,φ,φ] rfl rfl (ζj HT_.out (by kernel_rfl)) (fun _ _ _ h=>h) (Or.inl ⟨by rfl,?_⟩) ?_ ?_
       rotate_left
       · intro w';go_simp;with_reducible rfl
       rotate_left
       · simp only [ζl,δa,δb,δc,i64_w,i32_w];rfl
       refine ζk (i:=1) (N:=some 31) (v:=?_) (a':=?_) #[τ,τ,φ,φ,φ,φ,φ,φ,φ,φ,φ,φ,φ,φ,φ] rfl rfl (ζj HT_.out (by kernel_rfl)) (fun _ _ _ h=>h) (Or.inl ⟨by rfl,?_⟩) ?_ ?_
       rotate_left
       · intro w';go_simp;with_reducible rfl
       rotate_left
       · simp only [ζl,δa,δb,δc,i64_w,i32_w];rfl
       refine ζk (i:=4) (N:=some 34) (v:=?_) (a':=?_) #[τ,τ,φ,φ,τ,φ,φ,φ,φ,φ,φ,φ,φ,φ,φ] rfl rfl (ζj HT_.out (by kernel_rfl)) (fun _ _ _ h=>h) (Or.inl ⟨by rfl,?_⟩) ?_ ?_
       rotate_left
       · intro w';go_simp;with_reducible rfl
       rotate_left
       · simp only [ζl,δa,δb,δc,i64_w,i32_w];rfl
       refine ζk (i:=5) (N:=some 35) (v:=?_) (a':=?_) #[τ,τ,φ,φ,τ,τ,φ,φ,φ,φ,φ,φ,φ,φ,φ] rfl rfl (ζj HT_.out (by kernel_rfl)) (fun _ _ _ h=>h) (Or.inl ⟨by rfl,?_⟩) ?_ ?_
       rotate_left
       · intro w';go_simp;with_reducible rfl
       rotate_left
       · simp only [ζl,δa,δb,δc,i64_w,i32_w];rfl
       refine ζk (i:=8) (N:=some 38) (v:=?_) (a':=?_) #[τ,τ,φ,φ,τ,τ,φ,φ,τ,φ,φ,φ,φ,φ,φ] rfl rfl (ζj HT_.out (by kernel_rfl)) (fun _ _ _ h=>h) (Or.inl ⟨by rfl,?_⟩) ?_ ?_
       rotate_left
       · intro w';go_simp;with_reducible rfl
       rotate_left
       · simp only [ζl,δa,δb,δc,i64_w,i32_w];rfl
       refine ζk (i:=9) (N:=some 39) (v:=?_) (a':=?_) #[τ,τ,φ,φ,τ,τ,φ,φ,τ,τ,φ,φ,φ,φ,φ] rfl rfl (ζj HT_.out (by kernel_rfl)) (fun _ _ _ h=>h) (Or.inl ⟨by rfl,?_⟩) ?_ ?_
       rotate_left
       · intro w';go_simp;with_reducible rfl
       rotate_left
       · simp only [ζl,δa,δb,δc,i64_w,i32_w];rfl
       refine take_ (i:=2) (N:=some 32) (v:=?_) (a':=?_) #[τ,τ,τ,φ,τ,τ,φ,φ,τ,τ,φ,φ,φ,φ,φ] rfl rfl (take_ofW HT_.out HW_.out (by kernel_rfl)) (fun _ _ _ h=>h) (Or.inl ⟨by rfl,?_⟩) hHeld ?_ ?_
       rotate_left
       · rintro w' ⟨s0,s1,s2⟩;go_simp;with_reducible rfl
       rotate_left
       · simp only [ζl,δa,δb,δc,i64_w,i32_w];rfl
       refine take_ (i:=6) (N:=some 36) (v:=?_) (a':=?_) #[τ,τ,τ,φ,τ,τ,τ,φ,τ,τ,φ,φ,φ,φ,φ] rfl rfl (take_ofW HT_.out HW_.out (by kernel_rfl)) (fun _ _ _ h=>h) (Or.inl ⟨by rfl,?_⟩) hHeld ?_ ?_
       rotate_left
       · rintro w' ⟨s0,s1,s2⟩;go_simp;with_reducible rfl
       rotate_left
       · simp only [ζl,δa,δb,δc,i64_w,i32_w];rfl
       refine take_ (i:=10) (N:=some 40) (v:=?_) (a':=?_) #[τ,τ,τ,φ,τ,τ,τ,φ,τ,τ,τ,φ,φ,φ,φ] rfl rfl (take_ofW HT_.out HW_.out (by kernel_rfl)) (fun _ _ _ h=>h) (Or.inl ⟨by rfl,?_⟩) hHeld ?_ ?_
       rotate_left
       · rintro w' ⟨s0,s1,s2⟩;go_simp;with_reducible rfl
       rotate_left
       · simp only [ζl,δa,δb,δc,i64_w,i32_w];rfl
       refine join_ (σ:=Nat) 1 #[τ,τ,τ,τ,τ,τ,τ,τ,τ,τ,τ,τ,τ,τ,φ] (fun s_ => [(33,.int .i64 t883),(37,.int .i64 t885),(41,.int .i64 t887),(7,.pointer (some ⟨s_,0,none⟩)),(42,.agg #[.int .i64 t883,.int .i64 t885,.int .i64 t887])]) (fun s_ w'=>(w'.cell? ad882=some (.string (rdOf ByteArray.empty t878 0))∧w'.cell? ⟨ad882.block,ad882.off+1,none⟩=some (.string (rdOf ByteArray.empty t878 1))∧w'.cell? ⟨ad882.block,ad882.off+2,none⟩=some (.string (rdOf ByteArray.empty t878 2)))∧(Kd.R Kd.string 9 w' w.heap.size (fun _=>True) (.slice (some ad882) t878.length co21) t878)∧(w'.heap[gb875]? = some (.cells #[.int .i64 0,.int .i64 0,.int .i64 0] 109 (0,0)))∧(w'.heap[s_]? = some (.cells #[.int .i64 0,.int .i64 0,.int .i64 0] 109 (0,0)))∧(w.heap.size≤s_)∧(w.heap.size≤s_)∧(gb875≠s_)∧(s_≠gb875)∧(Below w.heap.size w w')) ?_ ?_
       rotate_left
       ·
        intro hCont
        refine two_ (i:=3) (j:=13) (Ni:=some 33) (Nj:=some 7) #[τ,τ,τ,τ,τ,τ,τ,φ,τ,τ,τ,φ,φ,φ,φ] #[τ,τ,τ,φ,τ,τ,τ,φ,τ,τ,τ,φ,φ,τ,φ] rfl rfl rfl rfl (two_of HT_.out (by kernel_rfl)) (by decide) (by decide) (fun K hK => ?_) (fun K hK => ?_)
        ·
         skip
         refine goes_ Tryz.func149 (by kernel_rfl) rfl #[.string (rdOf ByteArray.empty t878 0)] (by rfl) rfl rfl (by (try simp only [δd,δe,δf]);rfl) ?_
         with_reducible refine (spec_l02Of.calls kj3 (rdOf ByteArray.empty t878 0) t883 _ A13.out).mono ?_
         rintro e w' ⟨rfl,⟨nd,rfl⟩⟩
         refine ⟨_,rfl,?_⟩
         refine hK.out _ _ ⟨hHeld.1,hHeld.2.1,hHeld.2.2⟩ (fun hHeld => ?_)
         clear hK K
         refine norm_ (a':=?_) ?_ ?_
         rotate_left
         ·
          show ζl _ (some 33) _=_
          simp only [ζl,δa,δb,δc,i64_w,i32_w];rfl
         refine two_ (i:=7) (j:=13) (Ni:=some 37) (Nj:=some 7) #[τ,τ,τ,τ,τ,τ,τ,τ,τ,τ,τ,φ,φ,φ,φ] #[τ,τ,τ,τ,τ,τ,τ,φ,τ,τ,τ,φ,φ,τ,φ] rfl rfl rfl rfl (two_of HT_.out (by kernel_rfl)) (by decide) (by decide) (fun K hK => ?_) (fun K hK => ?_)
         ·
          skip
          refine goes_ Tryz.func149 (by kernel_rfl) rfl #[.string (rdOf ByteArray.empty t878 1)] (by rfl) rfl rfl (by (try simp only [δd,δe,δf]);rfl) ?_
          with_reducible refine (spec_l02Of.calls kj3 (rdOf ByteArray.empty t878 1) t885 _ A15.out).mono ?_
          rintro e w' ⟨rfl,⟨nd,rfl⟩⟩
          refine ⟨_,rfl,?_⟩
          refine hK.out _ _ ⟨hHeld.1,hHeld.2.1,hHeld.2.2⟩ (fun hHeld => ?_)
          clear hK K
          refine norm_ (a':=?_) ?_ ?_
          rotate_left
          ·
           show ζl _ (some 37) _=_
           simp only [ζl,δa,δb,δc,i64_w,i32_w];rfl
          refine two_ (i:=11) (j:=13) (Ni:=some 41) (Nj:=some 7) #[τ,τ,τ,τ,τ,τ,τ,τ,τ,τ,τ,τ,φ,φ,φ] #[τ,τ,τ,τ,τ,τ,τ,τ,τ,τ,τ,φ,φ,τ,φ] rfl rfl rfl rfl (two_of HT_.out (by kernel_rfl)) (by decide) (by decide) (fun K hK => ?_) (fun K hK => ?_)
          ·
           skip
           refine goes_ Tryz.func149 (by kernel_rfl) rfl #[.string (rdOf ByteArray.empty t878 2)] (by rfl) rfl rfl (by (try simp only [δd,δe,δf]);rfl) ?_
           with_reducible refine (spec_l02Of.calls kj3 (rdOf ByteArray.empty t878 2) t887 _ A17.out).mono ?_
           rintro e w' ⟨rfl,⟨nd,rfl⟩⟩
           refine ⟨_,rfl,?_⟩
           refine hK.out _ _ ⟨hHeld.1,hHeld.2.1,hHeld.2.2⟩ (fun hHeld => ?_)
           clear hK K
           refine norm_ (a':=?_) ?_ ?_
           rotate_left
           ·
            show ζl _ (some 41) _=_
            simp only [ζl,δa,δb,δc,i64_w,i32_w];rfl
           refine ζk (i:=12) (N:=some 42) (v:=?_) (a':=?_) #[τ,τ,τ,τ,τ,τ,τ,τ,τ,τ,τ,τ,τ,φ,φ] rfl rfl (ζj HT_.out (by kernel_rfl)) (fun _ _ _ h=>h) (Or.inl ⟨by rfl,?_⟩) ?_ ?_
           rotate_left
           · intro w';go_simp;with_reducible rfl
           rotate_left
           · simp only [ζl,δa,δb,δc,i64_w,i32_w];rfl
           refine one_ (i:=13) (N:=some 7) #[τ,τ,τ,τ,τ,τ,τ,τ,τ,τ,τ,τ,τ,τ,φ] rfl rfl (one_of HT_.out (by kernel_rfl)) (by decide) (fun K hK => ?_)
           refine box_step ?hg (N:=7) ?hd (cs:=#[.int .i64 0,.int .i64 0,.int .i64 0]) (t:=109) ?hr ?_;(case hd=>rfl);(case hg=>rfl);(case hr=>(go_simp;done))
           intro gb888 hg w22 hbox hb
           have HS0_:=(hb.cell (World.block_lt_of_cell? _ _ (hHeld.1))).trans (hHeld.1)
           have HS1_:=(hb.cell (World.block_lt_of_cell? _ _ (hHeld.2.1))).trans (hHeld.2.1)
           have HS2_:=(hb.cell (World.block_lt_of_cell? _ _ (hHeld.2.2))).trans (hHeld.2.2)
           replace HO_5:=ζa (ζh (by (with_reducible repeat (apply ζc));exact HO_5.out) hb)
           have BK888:=ζa (hbox)
           have GW888:=ζa ((by rw [hg];exact (δs (by repeat ((with_reducible first|exact HB.out|apply δi)))):w.heap.size≤gb888))
           have GE888:=ζa ((by rw [hg];exact (δs (by repeat ((with_reducible first|exact HB.out|apply δi)))):w.heap.size≤gb888))
           replace HB:=ζa (δr (by repeat ((with_reducible first|exact HB.out|apply δi))) hb)
           have NB875_888:=ζa ((by rw [hg];exact Nat.ne_of_lt (blk_lt (g:=gb875) (o:=.cells #[.int .i64 0,.int .i64 0,.int .i64 0] 109 (0,0)) (by (with_reducible repeat (refine δn ?_ _));exact BK875.out)):gb875≠gb888))
           have NB888_875:=ζa ((by rw [hg];exact Nat.ne_of_gt (blk_lt (g:=gb875) (o:=.cells #[.int .i64 0,.int .i64 0,.int .i64 0] 109 (0,0)) (by (with_reducible repeat (refine δn ?_ _));exact BK875.out)):gb888≠gb875))
           replace BK875:=ζa (blk_below (g:=gb875) (o:=.cells #[.int .i64 0,.int .i64 0,.int .i64 0] 109 (0,0)) (by (with_reducible repeat (refine δn ?_ _));exact BK875.out) hb)
           clear hb hbox hg
           refine hK.out _ _ ⟨HS0_,HS1_,HS2_⟩ (fun hHeld => ?_)
           clear hK K
           refine norm_ (a':=?_) ?_ ?_
           rotate_left
           ·
            show ζl _ (some 7) _=_
            simp only [ζl,δa,δb,δc,i64_w,i32_w];rfl
           exact norm_ (by simp only [putAll,ζl,δa,δb,δc]) (hCont (gb888) _ ⟨hHeld,(by exact HO_5.out),(by exact BK875.out),(by exact BK888.out),GW888.out,GE888.out,NB875_888.out,NB888_875.out,(by exact HB.out)⟩)
          ·
           skip
           refine box_step ?hg (N:=7) ?hd (cs:=#[.int .i64 0,.int .i64 0,.int .i64 0]) (t:=109) ?hr ?_;(case hd=>rfl);(case hg=>rfl);(case hr=>(go_simp;done))
           intro gb888 hg w22 hbox hb
           have HS0_:=(hb.cell (World.block_lt_of_cell? _ _ (hHeld.1))).trans (hHeld.1)
           have HS1_:=(hb.cell (World.block_lt_of_cell? _ _ (hHeld.2.1))).trans (hHeld.2.1)
           have HS2_:=(hb.cell (World.block_lt_of_cell? _ _ (hHeld.2.2))).trans (hHeld.2.2)
           replace HO_5:=ζa (ζh (by (with_reducible repeat (apply ζc));exact HO_5.out) hb)
           have BK888:=ζa (hbox)
           have GW888:=ζa ((by rw [hg];exact (δs (by repeat ((with_reducible first|exact HB.out|apply δi)))):w.heap.size≤gb888))
           have GE888:=ζa ((by rw [hg];exact (δs (by repeat ((with_reducible first|exact HB.out|apply δi)))):w.heap.size≤gb888))
           replace HB:=ζa (δr (by repeat ((with_reducible first|exact HB.out|apply δi))) hb)
           have NB875_888:=ζa ((by rw [hg];exact Nat.ne_of_lt (blk_lt (g:=gb875) (o:=.cells #[.int .i64 0,.int .i64 0,.int .i64 0] 109 (0,0)) (by (with_reducible repeat (refine δn ?_ _));exact BK875.out)):gb875≠gb888))
           have NB888_875:=ζa ((by rw [hg];exact Nat.ne_of_gt (blk_lt (g:=gb875) (o:=.cells #[.int .i64 0,.int .i64 0,.int .i64 0] 109 (0,0)) (by (with_reducible repeat (refine δn ?_ _));exact BK875.out)):gb888≠gb875))
           replace BK875:=ζa (blk_below (g:=gb875) (o:=.cells #[.int .i64 0,.int .i64 0,.int .i64 0] 109 (0,0)) (by (with_reducible repeat (refine δn ?_ _));exact BK875.out) hb)
           clear hb hbox hg
           refine hK.out _ _ ⟨HS0_,HS1_,HS2_⟩ (fun hHeld => ?_)
           clear hK K
           refine norm_ (a':=?_) ?_ ?_
           rotate_left
           ·
            show ζl _ (some 7) _=_
            simp only [ζl,δa,δb,δc,i64_w,i32_w];rfl
           refine one_ (i:=11) (N:=some 41) #[τ,τ,τ,τ,τ,τ,τ,τ,τ,τ,τ,τ,φ,τ,φ] rfl rfl (one_of HT_.out (by kernel_rfl)) (by decide) (fun K hK => ?_)
           refine goes_ Tryz.func149 (by kernel_rfl) rfl #[.string (rdOf ByteArray.empty t878 2)] (by rfl) rfl rfl (by (try simp only [δd,δe,δf]);rfl) ?_
           with_reducible refine (spec_l02Of.calls kj3 (rdOf ByteArray.empty t878 2) t887 _ A17.out).mono ?_
           rintro e w' ⟨rfl,⟨nd,rfl⟩⟩
           refine ⟨_,rfl,?_⟩
           refine hK.out _ _ ⟨hHeld.1,hHeld.2.1,hHeld.2.2⟩ (fun hHeld => ?_)
           clear hK K
           refine norm_ (a':=?_) ?_ ?_
           rotate_left
           ·
            show ζl _ (some 41) _=_
            simp only [ζl,δa,δb,δc,i64_w,i32_w];rfl
           refine ζk (i:=12) (N:=some 42) (v:=?_) (a':=?_) #[τ,τ,τ,τ,τ,τ,τ,τ,τ,τ,τ,τ,τ,τ,φ] rfl rfl (ζj HT_.out (by kernel_rfl)) (fun _ _ _ h=>h) (Or.inl ⟨by rfl,?_⟩) ?_ ?_
           rotate_left
           · intro w';go_simp;with_reducible rfl
           rotate_left
           · simp only [ζl,δa,δb,δc,i64_w,i32_w];rfl
           exact norm_ (by simp only [putAll,ζl,δa,δb,δc]) (hCont (gb888) _ ⟨hHeld,(by (with_reducible repeat (apply ζc));exact HO_5.out),(by (with_reducible repeat (refine δn ?_ _));exact BK875.out),(by (with_reducible repeat (refine δn ?_ _));exact BK888.out),GW888.out,GE888.out,NB875_888.out,NB888_875.out,(by repeat ((with_reducible first|exact HB.out|apply δi)))⟩)
         ·
          skip
          refine box_step ?hg (N:=7) ?hd (cs:=#[.int .i64 0,.int .i64 0,.int .i64 0]) (t:=109) ?hr ?_;(case hd=>rfl);(case hg=>rfl);(case hr=>(go_simp;done))
          intro gb888 hg w22 hbox hb
          have HS0_:=(hb.cell (World.block_lt_of_cell? _ _ (hHeld.1))).trans (hHeld.1)
          have HS1_:=(hb.cell (World.block_lt_of_cell? _ _ (hHeld.2.1))).trans (hHeld.2.1)
          have HS2_:=(hb.cell (World.block_lt_of_cell? _ _ (hHeld.2.2))).trans (hHeld.2.2)
          replace HO_5:=ζa (ζh (by (with_reducible repeat (apply ζc));exact HO_5.out) hb)
          have BK888:=ζa (hbox)
          have GW888:=ζa ((by rw [hg];exact (δs (by repeat ((with_reducible first|exact HB.out|apply δi)))):w.heap.size≤gb888))
          have GE888:=ζa ((by rw [hg];exact (δs (by repeat ((with_reducible first|exact HB.out|apply δi)))):w.heap.size≤gb888))
          replace HB:=ζa (δr (by repeat ((with_reducible first|exact HB.out|apply δi))) hb)
          have NB875_888:=ζa ((by rw [hg];exact Nat.ne_of_lt (blk_lt (g:=gb875) (o:=.cells #[.int .i64 0,.int .i64 0,.int .i64 0] 109 (0,0)) (by (with_reducible repeat (refine δn ?_ _));exact BK875.out)):gb875≠gb888))
          have NB888_875:=ζa ((by rw [hg];exact Nat.ne_of_gt (blk_lt (g:=gb875) (o:=.cells #[.int .i64 0,.int .i64 0,.int .i64 0] 109 (0,0)) (by (with_reducible repeat (refine δn ?_ _));exact BK875.out)):gb888≠gb875))
          replace BK875:=ζa (blk_below (g:=gb875) (o:=.cells #[.int .i64 0,.int .i64 0,.int .i64 0] 109 (0,0)) (by (with_reducible repeat (refine δn ?_ _));exact BK875.out) hb)
          clear hb hbox hg
          refine hK.out _ _ ⟨HS0_,HS1_,HS2_⟩ (fun hHeld => ?_)
          clear hK K
          refine norm_ (a':=?_) ?_ ?_
          rotate_left
          ·
           show ζl _ (some 7) _=_
           simp only [ζl,δa,δb,δc,i64_w,i32_w];rfl
          refine one_ (i:=7) (N:=some 37) #[τ,τ,τ,τ,τ,τ,τ,τ,τ,τ,τ,φ,φ,τ,φ] rfl rfl (one_of HT_.out (by kernel_rfl)) (by decide) (fun K hK => ?_)
          refine goes_ Tryz.func149 (by kernel_rfl) rfl #[.string (rdOf ByteArray.empty t878 1)] (by rfl) rfl rfl (by (try simp only [δd,δe,δf]);rfl) ?_
          with_reducible refine (spec_l02Of.calls kj3 (rdOf ByteArray.empty t878 1) t885 _ A15.out).mono ?_
          rintro e w' ⟨rfl,⟨nd,rfl⟩⟩
          refine ⟨_,rfl,?_⟩
          refine hK.out _ _ ⟨hHeld.1,hHeld.2.1,hHeld.2.2⟩ (fun hHeld => ?_)
          clear hK K
          refine norm_ (a':=?_) ?_ ?_
          rotate_left
          ·
           show ζl _ (some 37) _=_
           simp only [ζl,δa,δb,δc,i64_w,i32_w];rfl
          refine one_ (i:=11) (N:=some 41) #[τ,τ,τ,τ,τ,τ,τ,τ,τ,τ,τ,τ,φ,τ,φ] rfl rfl (one_of HT_.out (by kernel_rfl)) (by decide) (fun K hK => ?_)
          refine goes_ Tryz.func149 (by kernel_rfl) rfl #[.string (rdOf ByteArray.empty t878 2)] (by rfl) rfl rfl (by (try simp only [δd,δe,δf]);rfl) ?_
          with_reducible refine (spec_l02Of.calls kj3 (rdOf ByteArray.empty t878 2) t887 _ A17.out).mono ?_
          rintro e w' ⟨rfl,⟨nd,rfl⟩⟩
          refine ⟨_,rfl,?_⟩
          refine hK.out _ _ ⟨hHeld.1,hHeld.2.1,hHeld.2.2⟩ (fun hHeld => ?_)
          clear hK K
          refine norm_ (a':=?_) ?_ ?_
          rotate_left
          ·
           show ζl _ (some 41) _=_
           simp only [ζl,δa,δb,δc,i64_w,i32_w];rfl
          refine ζk (i:=12) (N:=some 42) (v:=?_) (a':=?_) #[τ,τ,τ,τ,τ,τ,τ,τ,τ,τ,τ,τ,τ,τ,φ] rfl rfl (ζj HT_.out (by kernel_rfl)) (fun _ _ _ h=>h) (Or.inl ⟨by rfl,?_⟩) ?_ ?_
          rotate_left
          · intro w';go_simp;with_reducible rfl
          rotate_left
          · simp only [ζl,δa,δb,δc,i64_w,i32_w];rfl
          exact norm_ (by simp only [putAll,ζl,δa,δb,δc]) (hCont (gb888) _ ⟨hHeld,(by (with_reducible repeat (apply ζc));exact HO_5.out),(by (with_reducible repeat (refine δn ?_ _));exact BK875.out),(by (with_reducible repeat (refine δn ?_ _));exact BK888.out),GW888.out,GE888.out,NB875_888.out,NB888_875.out,(by repeat ((with_reducible first|exact HB.out|apply δi)))⟩)
        ·
         skip
         refine box_step ?hg (N:=7) ?hd (cs:=#[.int .i64 0,.int .i64 0,.int .i64 0]) (t:=109) ?hr ?_;(case hd=>rfl);(case hg=>rfl);(case hr=>(go_simp;done))
         intro gb888 hg w22 hbox hb
         have HS0_:=(hb.cell (World.block_lt_of_cell? _ _ (hHeld.1))).trans (hHeld.1)
         have HS1_:=(hb.cell (World.block_lt_of_cell? _ _ (hHeld.2.1))).trans (hHeld.2.1)
         have HS2_:=(hb.cell (World.block_lt_of_cell? _ _ (hHeld.2.2))).trans (hHeld.2.2)
         replace HO_5:=ζa (ζh (by exact HO_5.out) hb)
         have BK888:=ζa (hbox)
         have GW888:=ζa ((by rw [hg];exact (δs (by exact HB.out)):w.heap.size≤gb888))
         have GE888:=ζa ((by rw [hg];exact (δs (by exact HB.out)):w.heap.size≤gb888))
         replace HB:=ζa (δr (by exact HB.out) hb)
         have NB875_888:=ζa ((by rw [hg];exact Nat.ne_of_lt (blk_lt (g:=gb875) (o:=.cells #[.int .i64 0,.int .i64 0,.int .i64 0] 109 (0,0)) (by exact BK875.out)):gb875≠gb888))
         have NB888_875:=ζa ((by rw [hg];exact Nat.ne_of_gt (blk_lt (g:=gb875) (o:=.cells #[.int .i64 0,.int .i64 0,.int .i64 0] 109 (0,0)) (by exact BK875.out)):gb888≠gb875))
         replace BK875:=ζa (blk_below (g:=gb875) (o:=.cells #[.int .i64 0,.int .i64 0,.int .i64 0] 109 (0,0)) (by exact BK875.out) hb)
         clear hb hbox hg
         refine hK.out _ _ ⟨HS0_,HS1_,HS2_⟩ (fun hHeld => ?_)
         clear hK K
         refine norm_ (a':=?_) ?_ ?_
         rotate_left
         ·
          show ζl _ (some 7) _=_
          simp only [ζl,δa,δb,δc,i64_w,i32_w];rfl
         refine one_ (i:=3) (N:=some 33) #[τ,τ,τ,τ,τ,τ,τ,φ,τ,τ,τ,φ,φ,τ,φ] rfl rfl (one_of HT_.out (by kernel_rfl)) (by decide) (fun K hK => ?_)
         refine goes_ Tryz.func149 (by kernel_rfl) rfl #[.string (rdOf ByteArray.empty t878 0)] (by rfl) rfl rfl (by (try simp only [δd,δe,δf]);rfl) ?_
         with_reducible refine (spec_l02Of.calls kj3 (rdOf ByteArray.empty t878 0) t883 _ A13.out).mono ?_
         rintro e w' ⟨rfl,⟨nd,rfl⟩⟩
         refine ⟨_,rfl,?_⟩
         refine hK.out _ _ ⟨hHeld.1,hHeld.2.1,hHeld.2.2⟩ (fun hHeld => ?_)
         clear hK K
         refine norm_ (a':=?_) ?_ ?_
         rotate_left
         ·
          show ζl _ (some 33) _=_
          simp only [ζl,δa,δb,δc,i64_w,i32_w];rfl
         refine one_ (i:=7) (N:=some 37) #[τ,τ,τ,τ,τ,τ,τ,τ,τ,τ,τ,φ,φ,τ,φ] rfl rfl (one_of HT_.out (by kernel_rfl)) (by decide) (fun K hK => ?_)
         refine goes_ Tryz.func149 (by kernel_rfl) rfl #[.string (rdOf ByteArray.empty t878 1)] (by rfl) rfl rfl (by (try simp only [δd,δe,δf]);rfl) ?_
         with_reducible refine (spec_l02Of.calls kj3 (rdOf ByteArray.empty t878 1) t885 _ A15.out).mono ?_
         rintro e w' ⟨rfl,⟨nd,rfl⟩⟩
         refine ⟨_,rfl,?_⟩
         refine hK.out _ _ ⟨hHeld.1,hHeld.2.1,hHeld.2.2⟩ (fun hHeld => ?_)
         clear hK K
         refine norm_ (a':=?_) ?_ ?_
         rotate_left
         ·
          show ζl _ (some 37) _=_
          simp only [ζl,δa,δb,δc,i64_w,i32_w];rfl
         refine one_ (i:=11) (N:=some 41) #[τ,τ,τ,τ,τ,τ,τ,τ,τ,τ,τ,τ,φ,τ,φ] rfl rfl (one_of HT_.out (by kernel_rfl)) (by decide) (fun K hK => ?_)
         refine goes_ Tryz.func149 (by kernel_rfl) rfl #[.string (rdOf ByteArray.empty t878 2)] (by rfl) rfl rfl (by (try simp only [δd,δe,δf]);rfl) ?_
         with_reducible refine (spec_l02Of.calls kj3 (rdOf ByteArray.empty t878 2) t887 _ A17.out).mono ?_
         rintro e w' ⟨rfl,⟨nd,rfl⟩⟩
         refine ⟨_,rfl,?_⟩
         refine hK.out _ _ ⟨hHeld.1,hHeld.2.1,hHeld.2.2⟩ (fun hHeld => ?_)
         clear hK K
         refine norm_ (a':=?_) ?_ ?_
         rotate_left
         ·
          show ζl _ (some 41) _=_
          simp only [ζl,δa,δb,δc,i64_w,i32_w];rfl
         refine ζk (i:=12) (N:=some 42) (v:=?_) (a':=?_) #[τ,τ,τ,τ,τ,τ,τ,τ,τ,τ,τ,τ,τ,τ,φ] rfl rfl (ζj HT_.out (by kernel_rfl)) (fun _ _ _ h=>h) (Or.inl ⟨by rfl,?_⟩) ?_ ?_
         rotate_left
         · intro w';go_simp;with_reducible rfl
         rotate_left
         · simp only [ζl,δa,δb,δc,i64_w,i32_w];rfl
         exact norm_ (by simp only [putAll,ζl,δa,δb,δc]) (hCont (gb888) _ ⟨hHeld,(by (with_reducible repeat (apply ζc));exact HO_5.out),(by (with_reducible repeat (refine δn ?_ _));exact BK875.out),(by (with_reducible repeat (refine δn ?_ _));exact BK888.out),GW888.out,GE888.out,NB875_888.out,NB888_875.out,(by repeat ((with_reducible first|exact HB.out|apply δi)))⟩)
       rintro gb888 w23 ⟨hS_,h0_,h1_,h2_,h3_,h4_,h5_,h6_,h7_⟩
       have n0_:Aside0 (Kd.R Kd.string 9 w23 w.heap.size (fun _=>True) (.slice (some ad882) t878.length co21) t878):=⟨h0_⟩
       have n1_:Aside0 (w23.heap[gb875]? = some (.cells #[.int .i64 0,.int .i64 0,.int .i64 0] 109 (0,0))):=⟨h1_⟩
       have n2_:Aside0 (w23.heap[gb888]? = some (.cells #[.int .i64 0,.int .i64 0,.int .i64 0] 109 (0,0))):=⟨h2_⟩
       have n3_:Aside0 (w.heap.size≤gb888):=⟨h3_⟩
       have n4_:Aside0 (w.heap.size≤gb888):=⟨h4_⟩
       have n5_:Aside0 (gb875≠gb888):=⟨h5_⟩
       have n6_:Aside0 (gb888≠gb875):=⟨h6_⟩
       have n7_:Aside0 (Below w.heap.size w w23):=⟨h7_⟩
       clear HO_5
       clear BK875
       clear HB
       clear h0_ h1_ h2_ h3_ h4_ h5_ h6_ h7_
       have HO_5:=n0_
       have BK875:=n1_
       have BK888:=n2_
       have GW888:=n3_
       have GE888:=n4_
       have NB875_888:=n5_
       have NB888_875:=n6_
       have HB:=n7_
       clear n0_ n1_ n2_ n3_ n4_ n5_ n6_ n7_
       have hHeld:w23.cell? ad882=some (.string (rdOf ByteArray.empty t878 0))∧w23.cell? ⟨ad882.block,ad882.off+1,none⟩=some (.string (rdOf ByteArray.empty t878 1))∧w23.cell? ⟨ad882.block,ad882.off+2,none⟩=some (.string (rdOf ByteArray.empty t878 2)):=hS_
       refine norm_ (a':=?_) ?_ ?_
       rotate_left
       · simp only [putAll,ζl,δa,δb,δc];rfl
       refine one_ (i:=14) (N:=none) #[τ,τ,τ,τ,τ,τ,τ,τ,τ,τ,τ,τ,τ,τ,τ] rfl rfl (one_of HT_.out (by kernel_rfl)) (by decide) (fun K hK => ?_)
       have hs24:w23.cell? ⟨gb888,0,none⟩=some (.int .i64 0):=(δl BK888.out 0).trans rfl
       have hfs24:=δm BK888.out 0
       have hns24_0:=NB875_888.out
       have hms24_0:=NB888_875.out
       have hs25:w23.cell? ⟨gb888,1,none⟩=some (.int .i64 0):=(δl BK888.out 1).trans rfl
       have hfs25:=δm BK888.out 1
       have hns25_0:=NB875_888.out
       have hms25_0:=NB888_875.out
       have hs26:w23.cell? ⟨gb888,2,none⟩=some (.int .i64 0):=(δl BK888.out 2).trans rfl
       have hfs26:=δm BK888.out 2
       have hns26_0:=NB875_888.out
       have hms26_0:=NB888_875.out
       refine skip_ (w1:=?_) (by rfl) rfl ?_ ?_
       rotate_left
       ·
        go_simp
        rfl
       refine hK.out _ _ ⟨((δt (p:=⟨gb888,_,none⟩) (by exact ζb (ζf HO_5.out BK888.out (by decide))) _).trans (((δt (p:=⟨gb888,_,none⟩) (by exact ζb (ζf HO_5.out BK888.out (by decide))) _).trans (((δt (p:=⟨gb888,_,none⟩) (by exact ζb (ζf HO_5.out BK888.out (by decide))) _).trans (hHeld.1)))))),((δt (p:=⟨gb888,_,none⟩) (by (dsimp only;exact ζb (ζf HO_5.out BK888.out (by decide)))) _).trans (((δt (p:=⟨gb888,_,none⟩) (by (dsimp only;exact ζb (ζf HO_5.out BK888.out (by decide)))) _).trans (((δt (p:=⟨gb888,_,none⟩) (by (dsimp only;exact ζb (ζf HO_5.out BK888.out (by decide)))) _).trans (hHeld.2.1)))))),((δt (p:=⟨gb888,_,none⟩) (by (dsimp only;exact ζb (ζf HO_5.out BK888.out (by decide)))) _).trans (((δt (p:=⟨gb888,_,none⟩) (by (dsimp only;exact ζb (ζf HO_5.out BK888.out (by decide)))) _).trans (((δt (p:=⟨gb888,_,none⟩) (by (dsimp only;exact ζb (ζf HO_5.out BK888.out (by decide)))) _).trans (hHeld.2.2))))))⟩ (fun hHeld => ?_)
       clear hK K
       refine done_ (done_of HT_.out (by kernel_rfl)) ?_
       have hnb27:=NB888_875.out
       have hnc27:=NB875_888.out
       have hcz28_0:w23.cell? ⟨gb888,0,none⟩=some (.int .i64 0):=(δl BK888.out 0).trans rfl
       have hcz28_1:w23.cell? ⟨gb888,1,none⟩=some (.int .i64 0):=(δl BK888.out 1).trans rfl
       have hcz28_2:w23.cell? ⟨gb888,2,none⟩=some (.int .i64 0):=(δl BK888.out 2).trans rfl
       have hfz28_0:=δm BK888.out 0
       have hfz28_1:=δm BK888.out 1
       have hfz28_2:=δm BK888.out 2
       by_cases c19:t889=τ
       ·
        subst c19
        have H1:(some (t883,t885,t887))=some (r1,r2,r3):=by rw [if_pos rfl] at H;exact H
        clear H
        have H:=H1
        clear H1
        simp only [Option.some.injEq,Prod.mk.injEq] at H
        obtain ⟨rfl,rfl,rfl⟩:=H
        try go_wp2_with (((with_reducible refine δv (f:=173) rfl ?_);refine goesL_ (some 44) rfl rfl Tryz.func173 (by kernel_rfl) rfl #[.agg #[.int .i64 t883,.int .i64 t885,.int .i64 t887]] rfl (by (try simp only [δd,δe,δf]);rfl) ?_;(with_reducible refine (spec_PoolOK.calls kj3 t883 t885 t887 τ _ A18.out).mono ?_);rintro e w29 ⟨rfl,hb⟩;refine ⟨_,rfl,?_⟩;replace HO_5:=ζa (ζh (by exact (Kd.R_mono (ζi (p:=⟨gb888,2,none⟩) (ζi (p:=⟨gb888,1,none⟩) (ζi (p:=⟨gb888,0,none⟩) (Kd.R_types HO_5.out BK888.out (by decide)) (fun _ hk=>hk.2) (.int .i64 t883)) (fun _ hk=>hk.2) (.int .i64 t885)) (fun _ hk=>hk.2) (.int .i64 t887)) (fun _ h_=>h_.1))) hb);replace BK875:=ζa (blk_below (g:=gb875) (o:=.cells #[.int .i64 0,.int .i64 0,.int .i64 0] 109 (0,0)) (by refine blk_far ?_ NB875_888.out _;refine blk_far ?_ NB875_888.out _;refine blk_far ?_ NB875_888.out _;exact BK875.out) hb);replace BK888:=ζa (blk_below (g:=gb888) (o:=.cells #[.int .i64 t883,.int .i64 t885,.int .i64 t887] 109 (0,0)) (by refine δw (cs:=#[.int .i64 t883,.int .i64 t885,.int .i64 0]) ?_ 2 _ rfl;refine δw (cs:=#[.int .i64 t883,.int .i64 0,.int .i64 0]) ?_ 1 _ rfl;refine δw (cs:=#[.int .i64 0,.int .i64 0,.int .i64 0]) ?_ 0 _ rfl;exact BK888.out) hb);replace HB:=ζa (δr (by repeat ((with_reducible first|exact HB.out|refine δq ?_ GE888.out))) hb);(try clear hb);(try clear hb2);(try clear hk);(try clear hi);have hcz30_0:w29.cell? ⟨gb888,0,none⟩=some (.int .i64 t883):=(δl BK888.out 0).trans rfl;have hcz30_1:w29.cell? ⟨gb888,1,none⟩=some (.int .i64 t885):=(δl BK888.out 1).trans rfl;have hcz30_2:w29.cell? ⟨gb888,2,none⟩=some (.int .i64 t887):=(δl BK888.out 2).trans rfl;have hfz30_0:=δm BK888.out 0;have hfz30_1:=δm BK888.out 1;have hfz30_2:=δm BK888.out 2;have hcz31_0:w29.cell? ⟨gb875,0,none⟩=some (.int .i64 0):=(δl BK875.out 0).trans rfl;have hcz31_1:w29.cell? ⟨gb875,1,none⟩=some (.int .i64 0):=(δl BK875.out 1).trans rfl;have hcz31_2:w29.cell? ⟨gb875,2,none⟩=some (.int .i64 0):=(δl BK875.out 2).trans rfl;have hfz31_0:=δm BK875.out 0;have hfz31_1:=δm BK875.out 1;have hfz31_2:=δm BK875.out 2))
        refine bodyPost_ret (results_cell_row rfl _ _ gb875 109 #[.int .i64 t883,.int .i64 t885,.int .i64 t887] (0,0) _ rfl (by refine δw (cs:=#[.int .i64 t883,.int .i64 t885,.int .i64 0]) ?_ 2 _ rfl;refine δw (cs:=#[.int .i64 t883,.int .i64 0,.int .i64 0]) ?_ 1 _ rfl;refine δw (cs:=#[.int .i64 0,.int .i64 0,.int .i64 0]) ?_ 0 _ rfl;exact BK875.out) Tryz.underlying109 rfl (by kernel_rfl)) rfl ?_
        exact ⟨by rfl,by repeat ((with_reducible first|exact HB.out|refine δq ?_ GE875.out))⟩
       ·
        replace c19:=Bool.eq_false_iff.mpr c19
        subst c19
        have H1:(some (0,0,0))=some (r1,r2,r3):=by rw [if_neg (show ¬ (φ=τ) by decide)] at H;exact H
        clear H
        have H:=H1
        clear H1
        simp only [Option.some.injEq,Prod.mk.injEq] at H
        obtain ⟨rfl,rfl,rfl⟩:=H
        try go_wp2_with (((with_reducible refine δv (f:=173) rfl ?_);refine goesL_ (some 44) rfl rfl Tryz.func173 (by kernel_rfl) rfl #[.agg #[.int .i64 t883,.int .i64 t885,.int .i64 t887]] rfl (by (try simp only [δd,δe,δf]);rfl) ?_;(with_reducible refine (spec_PoolOK.calls kj3 t883 t885 t887 φ _ A18.out).mono ?_);rintro e w41 ⟨rfl,hb⟩;refine ⟨_,rfl,?_⟩;replace HO_5:=ζa (ζh (by exact (Kd.R_mono (ζi (p:=⟨gb888,2,none⟩) (ζi (p:=⟨gb888,1,none⟩) (ζi (p:=⟨gb888,0,none⟩) (Kd.R_types HO_5.out BK888.out (by decide)) (fun _ hk=>hk.2) (.int .i64 t883)) (fun _ hk=>hk.2) (.int .i64 t885)) (fun _ hk=>hk.2) (.int .i64 t887)) (fun _ h_=>h_.1))) hb);replace BK875:=ζa (blk_below (g:=gb875) (o:=.cells #[.int .i64 0,.int .i64 0,.int .i64 0] 109 (0,0)) (by refine blk_far ?_ NB875_888.out _;refine blk_far ?_ NB875_888.out _;refine blk_far ?_ NB875_888.out _;exact BK875.out) hb);replace BK888:=ζa (blk_below (g:=gb888) (o:=.cells #[.int .i64 t883,.int .i64 t885,.int .i64 t887] 109 (0,0)) (by refine δw (cs:=#[.int .i64 t883,.int .i64 t885,.int .i64 0]) ?_ 2 _ rfl;refine δw (cs:=#[.int .i64 t883,.int .i64 0,.int .i64 0]) ?_ 1 _ rfl;refine δw (cs:=#[.int .i64 0,.int .i64 0,.int .i64 0]) ?_ 0 _ rfl;exact BK888.out) hb);replace HB:=ζa (δr (by repeat ((with_reducible first|exact HB.out|refine δq ?_ GE888.out))) hb);(try clear hb);(try clear hb2);(try clear hk);(try clear hi);have hcz42_0:w41.cell? ⟨gb875,0,none⟩=some (.int .i64 0):=(δl BK875.out 0).trans rfl;have hcz42_1:w41.cell? ⟨gb875,1,none⟩=some (.int .i64 0):=(δl BK875.out 1).trans rfl;have hcz42_2:w41.cell? ⟨gb875,2,none⟩=some (.int .i64 0):=(δl BK875.out 2).trans rfl;have hfz42_0:=δm BK875.out 0;have hfz42_1:=δm BK875.out 1;have hfz42_2:=δm BK875.out 2))
        refine bodyPost_ret (results_cell_row rfl _ _ gb875 109 #[.int .i64 0,.int .i64 0,.int .i64 0] (0,0) _ rfl (by refine δw (cs:=#[.int .i64 0,.int .i64 0,.int .i64 0]) ?_ 2 _ rfl;refine δw (cs:=#[.int .i64 0,.int .i64 0,.int .i64 0]) ?_ 1 _ rfl;refine δw (cs:=#[.int .i64 0,.int .i64 0,.int .i64 0]) ?_ 0 _ rfl;exact BK875.out) Tryz.underlying109 rfl (by kernel_rfl)) rfl ?_
        exact ⟨by rfl,by repeat ((with_reducible first|exact HB.out|refine δq ?_ GE875.out))⟩
      ·
       rw [if_neg c16] at H
       exact absurd H (by simp)
     ·
      rw [if_neg c14] at H
      exact absurd H (by simp)
    ·
     rw [if_neg c12] at H
     exact absurd H (by simp)


open Go.Proofs.YtabmfhnhmoiljaaGreatDoorW.PrintWords renaming gate_callee → δv, pw_below_drewN → δi
open List renaming map_toArray → δd, map_cons → δe, map_nil → δf

/-! ### spec_l05Read: function 183 -/
def spec_l05Read.f (k:Nat) (l0:List (S51)) (a1:ByteArray):Option (Int):=(spec_l03Get.f k l0 a1).bind fun bt124=>(if bt124.2=τ then ((spec_l02Of.f k bt124.1).bind fun t126=>(some (mx 0 t126))) else (some 0))
set_option maxHeartbeats 8000000 in
set_option maxRecDepth 100000 in
theorem spec_l05Read.calls (k:Nat) (A0:Option Addr) (c0:Nat) (l0:List (S51)) (a1:ByteArray) (r:Int) (w:World) (hr0:Kd.C k51 w A0 l0.length l0) (hc0:l0.length≤c0) (h:spec_l05Read.f k l0 a1=some r) :
  Calls Tryz.prog 183 #[.slice A0 l0.length c0,.string a1] w fun e w'=>e = .returned (.int .i64 r)∧Below w.heap.size w w':=by
 have HR0:=ζa hr0
 have HC0:=ζa hc0
 clear hr0 hc0
 have HB:=ζa (Below.refl w.heap.size w)
 have H:((spec_l03Get.f k l0 a1).bind fun bt124=>(if bt124.2=τ then ((spec_l02Of.f k bt124.1).bind fun t126=>(some (mx 0 t126))) else (some 0)))=some r:=h
 clear h
 replace H:=Option.bind_eq_some_iff.mp H
 obtain ⟨⟨t124,t125⟩,A30,H⟩:=H
 replace H:(if t125=τ then ((spec_l02Of.f k t124).bind fun t126=>(some (mx 0 t126))) else (some 0))=some r:=H
 have A3:=ζa A30
 clear A30
 by_cases c4:t125=τ
 ·
  subst c4
  have H1:((spec_l02Of.f k t124).bind fun t126=>(some (mx 0 t126)))=some r:=by rw [if_pos rfl] at H;exact H
  clear H
  have H:=H1
  clear H1
  replace H:=Option.bind_eq_some_iff.mp H
  obtain ⟨t126,A50,H⟩:=H
  replace H:(some (mx 0 t126))=some r:=H
  have A5:=ζa A50
  clear A50
  obtain ⟨ji6,hji6⟩ : ∃ j_:Int,(mx 0 t126)=j_:=⟨_,rfl⟩
  replace H:(some ji6)=some r:=by (rw [hji6] at H;exact H)
  (try rw [hji6] at A3)
  (try rw [hji6] at A5)
  (try (have hji6l:0≤ji6:=by (rw [← hji6];unfold mx;(repeat' split) <;> omega)))
  (try (have hji6m:0≤ji6:=by omega))
  have hji6_:(if 0<t126 then t126 else 0)=ji6:=hji6
  obtain rfl:=Option.some.inj H
  go_enter Tryz.func183,Tryz.ntmps183
  go_wp2_with (first|((with_reducible refine δv (f:=102) rfl ?_);refine goesL_ (some 10) rfl rfl Tryz.func102 (by kernel_rfl) rfl #[.slice A0 l0.length c0,.string a1] rfl (by (try simp only [δd,δe,δf]);rfl) ?_;(with_reducible refine (spec_l03Get.calls k _ _ l0 a1 t124 τ _ ?side1 ?side2 A3.out).mono ?_);(case side1=>repeat (exact HR0.out));(case side2=>exact HC0.out);rintro e w' ⟨rfl,⟨nd,rfl⟩⟩;refine ⟨_,rfl,?_⟩)|((with_reducible refine δv (f:=149) rfl ?_);refine goesL_ (some 16) rfl rfl Tryz.func149 (by kernel_rfl) rfl #[.string t124] rfl (by (try simp only [δd,δe,δf]);rfl) ?_;(with_reducible refine (spec_l02Of.calls k t124 t126 _ A5.out).mono ?_);rintro e w' ⟨rfl,⟨nd,rfl⟩⟩;refine ⟨_,rfl,?_⟩))
  go_ret
  exact ⟨by rfl,by repeat ((with_reducible first|exact HB.out|apply δi))⟩
 ·
  replace c4:=Bool.eq_false_iff.mpr c4
  subst c4
  have H1:(some 0)=some r:=by rw [if_neg (show ¬ (φ=τ) by decide)] at H;exact H
  clear H
  have H:=H1
  clear H1
  obtain rfl:=Option.some.inj H
  go_enter Tryz.func183,Tryz.ntmps183
  go_wp2_with (((with_reducible refine δv (f:=102) rfl ?_);refine goesL_ (some 10) rfl rfl Tryz.func102 (by kernel_rfl) rfl #[.slice A0 l0.length c0,.string a1] rfl (by (try simp only [δd,δe,δf]);rfl) ?_;(with_reducible refine (spec_l03Get.calls k _ _ l0 a1 t124 φ _ ?side1 ?side2 A3.out).mono ?_);(case side1=>repeat (exact HR0.out));(case side2=>exact HC0.out);rintro e w' ⟨rfl,⟨nd,rfl⟩⟩;refine ⟨_,rfl,?_⟩))
  go_ret
  exact ⟨by rfl,by repeat ((with_reducible first|exact HB.out|apply δi))⟩


open Go.Proofs.YtabmfhnhmoiljaaGreatDoorW.PrintWords renaming below_alloc → δk, pw_below_drewN → δi, blk_alloc → δo, gate_dst → δx, below_drew1 → δj, below_set → δq
open Go.Proofs.YtabmfhnhmoiljaaGreatDoorW.PrintWords.Kd renaming R_alloc → ζd
open List renaming length_take → δh

/-! ### spec_l03Put: function 104 -/
theorem C_one {w:World} {g:Nat} {a b:ByteArray} (h:w.heap[g]? = some (.cells #[.string a,.string b] 51 (0,0))):Kd.C k51 w (some ⟨g,0,none⟩) 1 [⟨a,b⟩]:=⟨rfl,by decide,fun _=>⟨_,rfl,fun j q hj=>by
  have hj0:j=0:=by
   rcases j with _|j
   · rfl
   ·
    simp at hj
  subst hj0
  have hq:(⟨a,b⟩:S51)=q:=by simpa using hj
  subst hq
  refine ⟨[.string a,.string b],rfl,k51.K_of_M (k51_mkM w 0 (fun _=>True) ⟨a,b⟩),fun t u hu => ?_⟩
  rw [Addr.add_lit,cell_of_row w g _ _ _ (0,0) h]
  rcases t with _|_|t
  · simpa using hu
  ·
   simpa using hu
  · simp at hu⟩⟩
theorem C_nilN {w:World} {A:Option Addr} {m:Nat} (h:m=0):Kd.C k51 w A m ([]:List S51):=⟨by rw [h];rfl,by rw [h];decide,fun hp=>absurd hp (by omega)⟩
def spec_l03Put.f (k:Nat) (l0:List S51) (a1 a2:ByteArray):Option (List S51 × Int) :=
 (spec_l03At.f k l0 a1).bind fun t=>if l0.length≤1000000 then (if 0≤t then (if t≤(l0.length:Int) then (if t<(l0.length:Int)∧((rd_T51 l0 t).f0).toList=a1.toList then some (l0.set t.toNat ⟨(rd_T51 l0 t).f0,a2⟩,0) else (if (l0.length:Int)=400 then some (l0,7) else some (l0.insertIdx t.toNat ⟨a1,a2⟩,0))) else none) else none) else none
theorem spec_l03Put.ins (l:List S51) (i:Nat) (p:S51) (h:i≤l.length):l.insertIdx i p = [] ++ l.take i ++ [p] ++ l.drop i:=by
 induction l generalizing i with
 | nil=>cases i with
  | zero=>rfl
  | succ i=>simp at h
 | cons x l ih=>cases i with
  | zero=>simp
  | succ i=>rw [List.insertIdx_succ_cons,ih i (by simpa using h)];simp
set_option maxHeartbeats 4000000 in
set_option maxRecDepth 100000 in
theorem spec_l03Put.miss (k:Nat) (A0:Option Addr) (c0:Nat) (l0:List S51) (a1 a2:ByteArray) (i:Nat) (w:World) (hr0:Kd.C k51 w A0 l0.length l0) (hc0:l0.length≤c0) (h1:spec_l03At.f k l0 a1=some (i:Int)) (hl:l0.length≤1000000) (hi:i≤l0.length) (hn:(i:Int)<(l0.length:Int) → ¬ ((rd_T51 l0 (i:Int)).f0).toList=a1.toList) (h4 : ¬ (l0.length:Int)=400) :
  Calls Tryz.prog 104 #[.slice A0 l0.length c0,.string a1,.string a2] w fun e w' => ∃ v0_:Value,e = .returned (.tuple #[v0_,.int .i64 0])∧Sf w w' (.slice A0 l0.length c0) l0 v0_ (l0.insertIdx i ⟨a1,a2⟩)∧Below w.heap.size w w':=by
 have H1:=ζa h1
 have HR0:=ζa hr0
 have HC0:=ζa hc0
 have HN:=ζa hn
 have c4:((l0.length:Int) == 400)=φ:=beq_eq_false_iff_ne.mpr h4
 have HTK:=ζa (C_takeN HR0.out (i:=i) (by omega))
 clear h1 hr0 hc0 hn h4
 go_enter Tryz.func104,Tryz.ntmps104
 go_wp2_with fail
 refine (spec_l03At.calls k A0 c0 l0 a1 (i:Int) _ HR0.out HC0.out H1.out).mono ?_
 rintro e w1 ⟨rfl,⟨q',rfl⟩⟩
 have p2:(i:Int)≤(c0:Int):=by have:=HC0.out;omega
 have p3:(i:Int)≤(l0.length:Int):=by omega
 have p4:(0:Int)≤(i:Int):=by omega
 by_cases g2:(i:Int)<(l0.length:Int)
 ·
  obtain ⟨ad,e1,hx0,hx1⟩:=at_T51 HR0.out (i:Int) p4 g2
  simp only [Int.toNat_natCast] at hx0 hx1
  cases e1
  have g6:(((rd_T51 l0 (i:Int)).f0).toList == a1.toList)=φ:=beq_eq_false_iff_ne.mpr (HN.out g2)
  have HDR:=ζa (C_dropN HR0.out HC0.out (i:=i) (by omega))
  go_wp2_with fail
  go_region_held3 (fun _=>True) (trivial) (first|((refine Kd.R_append_rows_step k51 (w0:=w) (Rr:=k51.K _) w.heap.size (by rfl) (.tmp 39) (.tmp 42) 24 51 (.agg #[(.string ⟨#[]⟩),(.string ⟨#[]⟩)]) 32 (by rfl) Tryz.underlying24 info51 rfl (by decide) (by decide) _ [] (l0.take i) _ _ _ (fun _=>True) (fun _=>False) (by rfl) (by rfl) (R_empty (Nat.le_refl _) (heap_alloc_new _ _)) (Kd.C_alloc (Kd.C_drewN HTK.out _) _) (fun x cs h=>by rw [k51_open h];exact k51_mkM _ _ _ x) (fun _ h=>h.elim) (fun _ _=>trivial) (δk (δi (Below.refl _ _) _) _) ((δk (δi (Below.refl _ _) _) _)).size (by simp only [List.length_nil];omega) ?_;intro v43 w43 ho43 hb43 hg hn;clear hg hn))|((refine Kd.R_append_rows_step k51 (w0:=w) (Rr:=k51.K _) w.heap.size (by rfl) (.tmp 39) (.tmp 42) 24 51 (.agg #[(.string ⟨#[]⟩),(.string ⟨#[]⟩)]) 32 (by rfl) Tryz.underlying24 info51 rfl (by decide) (by decide) _ [] (l0.take i) _ _ _ (fun _=>True) (fun _=>False) (by rfl) (by rfl) (R_empty (Nat.le_refl _) (δo (heap_alloc_new _ _) _)) (Kd.C_alloc (Kd.C_alloc (Kd.C_drewN HTK.out _) _) _) (fun x cs h=>by rw [k51_open h];exact k51_mkM _ _ _ x) (fun _ h=>h.elim) (fun _ _=>trivial) (δk (δk (δi (Below.refl _ _) _) _) _) ((δk (δk (δi (Below.refl _ _) _) _) _)).size (by simp only [List.length_nil];omega) ?_;intro v43 w43 ho43 hb43 hg hn;have hq:=heap_alloc_new ((w.drewN (q'+1)).alloc (.cells #[] 51)) (.cells #[.string a1,.string a2] 51);rw [show ((w.drewN (q'+1)).alloc (.cells #[] 51)).heap.size=w.heap.size+1 by simp] at hq;have hp43:=(hg.block _ (blk_lt hq) (show some (w.heap.size+1)≠some w.heap.size by simp)).trans hq;clear hg hn hq))|((refine Kd.R_append_rows_step k51 (w0:=w) (Rr:=k51.K _) w.heap.size (by rfl) (.tmp 39) (.tmp 42) 24 51 (.agg #[(.string ⟨#[]⟩),(.string ⟨#[]⟩)]) 32 (by rfl) Tryz.underlying24 info51 rfl (by decide) (by decide) _ [] (l0.take i) _ _ _ (fun _=>True) (fun _=>False) (by rfl) (by rfl) (R_empty (Nat.le_succ _) (by have hq:=heap_alloc_new ((w.drewN (q'+1)).alloc (.cells #[.string a1,.string a2] 51)) (.cells #[] 51);rw [show ((w.drewN (q'+1)).alloc (.cells #[.string a1,.string a2] 51)).heap.size=w.heap.size+1 by simp] at hq;exact hq)) (Kd.C_alloc (Kd.C_alloc (Kd.C_drewN HTK.out _) _) _) (fun x cs h=>by rw [k51_open h];exact k51_mkM _ _ _ x) (fun _ h=>h.elim) (fun _ _=>trivial) (δk (δk (δi (Below.refl _ _) _) _) _) ((δk (δk (δi (Below.refl _ _) _) _) _)).size (by simp only [List.length_nil];omega) ?_;intro v43 w43 ho43 hb43 hg hn;have hq:=δo (heap_alloc_new (w.drewN (q'+1)) (.cells #[.string a1,.string a2] 51)) (.cells #[] 51);have hp43:=(hg.block _ (blk_lt hq) (show some w.heap.size≠some (w.heap.size+1) by simp)).trans hq;clear hg hn hq))|((refine Kd.R_append_rows_step k51 (w0:=w) (Rr:=k51.K _) w.heap.size (by rfl) (.tmp 43) (.tmp 47) 24 51 (.agg #[(.string ⟨#[]⟩),(.string ⟨#[]⟩)]) 32 (by rfl) Tryz.underlying24 info51 rfl (by decide) (by decide) _ _ [⟨a1,a2⟩] _ _ _ (fun _=>True) (fun _=>False) (by rfl) (by rfl) (ζd ho43 _) (C_one (heap_alloc_new _ _)) (fun x cs h=>by rw [k51_open h];exact k51_mkM _ _ _ x) (fun _ h=>h.elim) (fun _ _=>trivial) (δk hb43 _) ((δk hb43 _)).size (by simp only [List.nil_append,δh];omega) ?_;intro v48 w48 ho48 hb48 hg hn;clear hg hn))|((refine Kd.R_append_rows_step k51 (w0:=w) (Rr:=k51.K _) w.heap.size (by rfl) (.tmp 43) (.tmp 47) 24 51 (.agg #[(.string ⟨#[]⟩),(.string ⟨#[]⟩)]) 32 (by rfl) Tryz.underlying24 info51 rfl (by decide) (by decide) _ _ [⟨a1,a2⟩] _ _ _ (fun _=>True) (fun _=>False) (by rfl) (by rfl) ho43 (C_one hp43) (fun x cs h=>by rw [k51_open h];exact k51_mkM _ _ _ x) (fun _ h=>h.elim) (fun _ _=>trivial) hb43 (hb43).size (by simp only [List.nil_append,δh];omega) ?_;intro v48 w48 ho48 hb48 hg hn;clear hg hn))|((refine Kd.R_append_rows_step k51 (w0:=w) (Rr:=k51.K _) w.heap.size (by rfl) (.tmp 48) (.tmp 51) 24 51 (.agg #[(.string ⟨#[]⟩),(.string ⟨#[]⟩)]) 32 (by rfl) Tryz.underlying24 info51 rfl (by decide) (by decide) _ _ (l0.drop i) _ _ _ (fun _=>True) (fun _=>False) (by rfl) (by rfl) ho48 (Kd.C_below HDR.out hb48) (fun x cs h=>by rw [k51_open h];exact k51_mkM _ _ _ x) (fun _ h=>h.elim) (fun _ _=>trivial) hb48 (hb48).size (by simp only [List.nil_append,List.length_append,δh,List.length_singleton];omega) ?_;intro v52 w52 ho52 hb52 hg hn;clear hg hn)))
  all_goals (rw [← spec_l03Put.ins l0 i ⟨a1,a2⟩ hi] at ho52;have HO52:=ζa ho52;have HB52:=ζa hb52;clear ho52 hb52 ho48 hb48 ho43 hb43)
  all_goals go_wp2
  all_goals (go_ret2;exact ⟨_,rfl,⟨Or.inr HO52.out⟩,HB52.out⟩)
 ·
  obtain rfl:i=l0.length:=by omega
  clear g2
  go_wp2_with fail
  go_region_held3 (fun _=>True) (trivial) (first|((refine Kd.R_append_rows_step k51 (w0:=w) (Rr:=k51.K _) w.heap.size (by rfl) (.tmp 39) (.tmp 42) 24 51 (.agg #[(.string ⟨#[]⟩),(.string ⟨#[]⟩)]) 32 (by rfl) Tryz.underlying24 info51 rfl (by decide) (by decide) _ [] (l0.take l0.length) _ _ _ (fun _=>True) (fun _=>False) (by rfl) (by rfl) (R_empty (Nat.le_refl _) (heap_alloc_new _ _)) (Kd.C_alloc (Kd.C_drewN HTK.out _) _) (fun x cs h=>by rw [k51_open h];exact k51_mkM _ _ _ x) (fun _ h=>h.elim) (fun _ _=>trivial) (δk (δi (Below.refl _ _) _) _) ((δk (δi (Below.refl _ _) _) _)).size (by simp only [List.length_nil];omega) ?_;intro v43 w43 ho43 hb43 hg hn;clear hg hn))|((refine Kd.R_append_rows_step k51 (w0:=w) (Rr:=k51.K _) w.heap.size (by rfl) (.tmp 39) (.tmp 42) 24 51 (.agg #[(.string ⟨#[]⟩),(.string ⟨#[]⟩)]) 32 (by rfl) Tryz.underlying24 info51 rfl (by decide) (by decide) _ [] (l0.take l0.length) _ _ _ (fun _=>True) (fun _=>False) (by rfl) (by rfl) (R_empty (Nat.le_refl _) (δo (heap_alloc_new _ _) _)) (Kd.C_alloc (Kd.C_alloc (Kd.C_drewN HTK.out _) _) _) (fun x cs h=>by rw [k51_open h];exact k51_mkM _ _ _ x) (fun _ h=>h.elim) (fun _ _=>trivial) (δk (δk (δi (Below.refl _ _) _) _) _) ((δk (δk (δi (Below.refl _ _) _) _) _)).size (by simp only [List.length_nil];omega) ?_;intro v43 w43 ho43 hb43 hg hn;have hq:=heap_alloc_new ((w.drewN (q'+1)).alloc (.cells #[] 51)) (.cells #[.string a1,.string a2] 51);rw [show ((w.drewN (q'+1)).alloc (.cells #[] 51)).heap.size=w.heap.size+1 by simp] at hq;have hp43:=(hg.block _ (blk_lt hq) (show some (w.heap.size+1)≠some w.heap.size by simp)).trans hq;clear hg hn hq))|((refine Kd.R_append_rows_step k51 (w0:=w) (Rr:=k51.K _) w.heap.size (by rfl) (.tmp 39) (.tmp 42) 24 51 (.agg #[(.string ⟨#[]⟩),(.string ⟨#[]⟩)]) 32 (by rfl) Tryz.underlying24 info51 rfl (by decide) (by decide) _ [] (l0.take l0.length) _ _ _ (fun _=>True) (fun _=>False) (by rfl) (by rfl) (R_empty (Nat.le_succ _) (by have hq:=heap_alloc_new ((w.drewN (q'+1)).alloc (.cells #[.string a1,.string a2] 51)) (.cells #[] 51);rw [show ((w.drewN (q'+1)).alloc (.cells #[.string a1,.string a2] 51)).heap.size=w.heap.size+1 by simp] at hq;exact hq)) (Kd.C_alloc (Kd.C_alloc (Kd.C_drewN HTK.out _) _) _) (fun x cs h=>by rw [k51_open h];exact k51_mkM _ _ _ x) (fun _ h=>h.elim) (fun _ _=>trivial) (δk (δk (δi (Below.refl _ _) _) _) _) ((δk (δk (δi (Below.refl _ _) _) _) _)).size (by simp only [List.length_nil];omega) ?_;intro v43 w43 ho43 hb43 hg hn;have hq:=δo (heap_alloc_new (w.drewN (q'+1)) (.cells #[.string a1,.string a2] 51)) (.cells #[] 51);have hp43:=(hg.block _ (blk_lt hq) (show some w.heap.size≠some (w.heap.size+1) by simp)).trans hq;clear hg hn hq))|((refine Kd.R_append_rows_step k51 (w0:=w) (Rr:=k51.K _) w.heap.size (by rfl) (.tmp 43) (.tmp 47) 24 51 (.agg #[(.string ⟨#[]⟩),(.string ⟨#[]⟩)]) 32 (by rfl) Tryz.underlying24 info51 rfl (by decide) (by decide) _ _ [⟨a1,a2⟩] _ _ _ (fun _=>True) (fun _=>False) (by rfl) (by rfl) (ζd ho43 _) (C_one (heap_alloc_new _ _)) (fun x cs h=>by rw [k51_open h];exact k51_mkM _ _ _ x) (fun _ h=>h.elim) (fun _ _=>trivial) (δk hb43 _) ((δk hb43 _)).size (by simp only [List.nil_append,δh];omega) ?_;intro v48 w48 ho48 hb48 hg hn;clear hg hn))|((refine Kd.R_append_rows_step k51 (w0:=w) (Rr:=k51.K _) w.heap.size (by rfl) (.tmp 43) (.tmp 47) 24 51 (.agg #[(.string ⟨#[]⟩),(.string ⟨#[]⟩)]) 32 (by rfl) Tryz.underlying24 info51 rfl (by decide) (by decide) _ _ [⟨a1,a2⟩] _ _ _ (fun _=>True) (fun _=>False) (by rfl) (by rfl) ho43 (C_one hp43) (fun x cs h=>by rw [k51_open h];exact k51_mkM _ _ _ x) (fun _ h=>h.elim) (fun _ _=>trivial) hb43 (hb43).size (by simp only [List.nil_append,δh];omega) ?_;intro v48 w48 ho48 hb48 hg hn;clear hg hn))|((refine Kd.R_append_rows_step k51 (w0:=w) (Rr:=k51.K _) w.heap.size (by rfl) (.tmp 48) (.tmp 51) 24 51 (.agg #[(.string ⟨#[]⟩),(.string ⟨#[]⟩)]) 32 (by rfl) Tryz.underlying24 info51 rfl (by decide) (by decide) _ _ [] _ _ _ (fun _=>True) (fun _=>False) (by rfl) (by rfl) ho48 (C_nilN (by rfl)) (fun x cs h=>by rw [k51_open h];exact k51_mkM _ _ _ x) (fun _ h=>h.elim) (fun _ _=>trivial) hb48 (hb48).size (by simp only [List.nil_append,List.length_append,δh,List.length_singleton];omega) ?_;intro v52 w52 ho52 hb52 hg hn;clear hg hn)))
  all_goals (rw [show [] ++ l0.take l0.length ++ [⟨a1,a2⟩] ++ []=l0 ++ [⟨a1,a2⟩] by simp] at ho52;have HO52:=ζa ho52;have HB52:=ζa hb52;clear ho52 hb52 ho48 hb48 ho43 hb43)
  all_goals go_wp2
  all_goals (go_ret2;exact ⟨_,rfl,⟨Or.inr HO52.out⟩,HB52.out⟩)
set_option maxHeartbeats 4000000 in
set_option maxRecDepth 100000 in
theorem spec_l03Put.calls (k:Nat) (A0:Option Addr) (c0:Nat) (l0:List S51) (a1 a2:ByteArray) (r1:List S51) (r2:Int) (w:World) (hr0:Kd.C k51 w A0 l0.length l0) (hc0:l0.length≤c0) (h:spec_l03Put.f k l0 a1 a2=some (r1,r2)) :
  Calls Tryz.prog 104 #[.slice A0 l0.length c0,.string a1,.string a2] w fun e w' => ∃ v0_:Value,e = .returned (.tuple #[v0_,.int .i64 r2])∧Sf w w' (.slice A0 l0.length c0) l0 v0_ r1∧Below w.heap.size w w':=by
 obtain ⟨t,h1,h⟩:=Option.bind_eq_some_iff.mp h
 by_cases hl:l0.length≤1000000
 ·
  rw [if_pos hl] at h
  by_cases g1:0≤t
  ·
   rw [if_pos g1] at h
   by_cases g0:t≤(l0.length:Int)
   ·
    rw [if_pos g0] at h
    obtain ⟨i,rfl⟩ : ∃ i:Nat,t=(i:Int):=⟨t.toNat,by omega⟩
    by_cases g2:(i:Int)<(l0.length:Int)∧((rd_T51 l0 (i:Int)).f0).toList=a1.toList
    ·
     rw [if_pos g2] at h
     simp only [Option.some.injEq,Prod.mk.injEq] at h
     obtain ⟨rfl,rfl⟩:=h
     obtain ⟨g2,g4⟩:=g2
     have H1:=ζa h1
     have HR0:=ζa hr0
     have HC0:=ζa hc0
     clear h1 hr0 hc0
     go_enter Tryz.func104,Tryz.ntmps104
     go_wp2_with fail
     refine (spec_l03At.calls k A0 c0 l0 a1 (i:Int) _ HR0.out HC0.out H1.out).mono ?_
     rintro e w1 ⟨rfl,⟨q',rfl⟩⟩
     obtain ⟨ad,e1,hx0,hx1⟩:=at_T51 HR0.out (i:Int) g1 g2
     simp only [Int.toNat_natCast] at hx0 hx1
     cases e1
     have g6:(((rd_T51 l0 (i:Int)).f0).toList == a1.toList)=τ:=beq_iff_eq.mpr g4
     have HX0:=ζa hx0
     clear g4
     go_wp2_with (first
      | ((with_reducible refine δx (N:=26) rfl ?_);refine Kd.R_lit k51 w.heap.size 51 ?hg (N:=26) ?hd (w0:=w) (xs:=([]:List S51)) (inner:=[]) (ok:=fun _=>True) (okp:=fun _=>True) ?hr ?hp (fun _ hk=>hk) trivial (by repeat (first|exact Below.refl _ _|apply δj|apply δi)) (by exact Nat.le_refl _) (by simp) ?_;(case hd=>rfl);(case hg=>rfl);(case hr=>first|(go_simp;done)|(go_simp;rfl));(case hp=>exact (Reps.none _ _));intro v26 w26 ho26 hb26 hg_ hnew_;clear hg_ hnew_;have HO:=ζa ho26;have HB:=ζa hb26;clear ho26 hb26)
      | ((with_reducible refine δx (N:=28) rfl ?_);refine Kd.R_append_rows (w0:=w) (Rr:=k51.K w26) k51 w.heap.size ?hg (.tmp 26) (.tmp 27) 24 51 (.agg #[(.string ⟨#[]⟩),(.string ⟨#[]⟩)]) 32 rfl Tryz.underlying24 info51 rfl (by decide) (by decide) v26 [] l0 (some ad) l0.length c0 (fun _=>True) (fun _=>False) rfl rfl HO.out (Kd.C_below HR0.out HB.out) (fun x cs h=>by rw [k51_open h];exact k51_mkM _ _ _ x) (fun _ h=>h.elim) (fun _ _=>trivial) HB.out HB.out.size (by simp only [List.length_nil];omega) ?_;(case hg=>rfl);intro v28 w28 ho28 hb28 hg_ hnew_;clear hg_ hnew_;obtain ⟨g,c,rfl,hwg⟩ : ∃ g c,v28 = .slice (some ⟨g,0,none⟩) l0.length c∧w.heap.size≤g:=(by obtain ⟨g,c,hv,hb,_⟩:=Kd.R_form ho28 (by simp only [List.nil_append];omega);exact ⟨g,c,hv,hb⟩);have HO28:Aside0 (Kd.R k51 51 w28 w.heap.size (fun _=>True) (.slice (some ⟨g,0,none⟩) l0.length c) l0):=⟨ho28⟩;have HB28:=ζa hb28;have HG:=ζa hwg;clear ho28 hb28 hwg;obtain ⟨ce,hcl,hM,hcc,hfr⟩:=Kd.R_elem HO28.out z51 (i:Int) g1 g2;obtain rfl:=k51_openM hM;have HP:=ζa (Kd.R_seg HO28.out (i:Int) g1 g2 (seg:=[.string a2]) (j:=1) hcl hcc (show 2≤2 from by decide) (x':=(⟨(rd_T51 l0 (i:Int)).f0,a2⟩:S51)) (k51_mkM _ _ _ (⟨(rd_T51 l0 (i:Int)).f0,a2⟩:S51)) (fun _ hk=>hk));have hy1:w28.cell? ⟨g,i * 2+1,none⟩=some (.string ((rd_T51 l0 (i:Int)).f1)):=hcc 1 _ rfl;have hf1:w28.frozen? ⟨g,i * 2+1,none⟩=φ:=hfr 1;clear hcl hcc hfr hM)
      | ((with_reducible refine gate_store (t:=9) (p:=33) rfl ?_);refine store_event (t:=9) (p:=33) (v:=?vo) (w1:=(w28.setCell ⟨g,i * 2+1,none⟩ (.string a2))) ?hg ?ho ?hn ?hr ?_;(case ho=>rfl);(case hg=>rfl);(case hn=>rfl);(case hr=>(go_simp;done));intro w3 hw;have HO3:Aside0 (Kd.R k51 51 w3 w.heap.size (fun _=>True) (.slice (some ⟨g,0,none⟩) l0.length c) (l0.set (i:Int).toNat ⟨(rd_T51 l0 (i:Int)).f0,a2⟩)):=⟨by rw [hw];exact HP.out.1⟩;have HB3:Aside0 (Below w.heap.size w w3):=⟨by rw [hw];exact δq HB28.out HG.out⟩;clear hw))
     go_wp2
     go_ret2
     exact ⟨_,rfl,⟨Or.inr HO3.out⟩,HB3.out⟩
    ·
     rw [if_neg g2] at h
     by_cases g3:(l0.length:Int)=400
     ·
      rw [if_pos g3] at h
      simp only [Option.some.injEq,Prod.mk.injEq] at h
      obtain ⟨rfl,rfl⟩:=h
      have H1:=ζa h1
      have HR0:=ζa hr0
      have HC0:=ζa hc0
      have HN:=ζa g2
      have c4:((l0.length:Int) == 400)=τ:=beq_iff_eq.mpr g3
      have c5:(l0.length == 400)=τ:=beq_iff_eq.mpr (by omega)
      have HB1:Aside0 (Below w.heap.size w w):=⟨Below.refl _ _⟩
      clear h1 hr0 hc0 g2 g3
      go_enter Tryz.func104,Tryz.ntmps104
      go_wp2_with fail
      refine (spec_l03At.calls k A0 c0 l0 a1 (i:Int) _ HR0.out HC0.out H1.out).mono ?_
      rintro e w1 ⟨rfl,⟨q',rfl⟩⟩
      by_cases g2:(i:Int)<(l0.length:Int)
      ·
       obtain ⟨ad,e1,hx0,hx1⟩:=at_T51 HR0.out (i:Int) g1 g2
       simp only [Int.toNat_natCast] at hx0 hx1
       cases e1
       have g6:(((rd_T51 l0 (i:Int)).f0).toList == a1.toList)=φ:=beq_eq_false_iff_ne.mpr (fun e=>HN.out ⟨g2,e⟩)
       go_wp2
       go_ret2
       exact ⟨_,rfl,⟨Or.inl ⟨rfl,rfl⟩⟩,by repeat (first|exact HB1.out|apply δi)⟩
      ·
       have g2b:decide ((i:Int)<(l0.length:Int))=φ:=decide_eq_false g2
       go_wp2
       go_ret2
       exact ⟨_,rfl,⟨Or.inl ⟨rfl,rfl⟩⟩,by repeat (first|exact HB1.out|apply δi)⟩
     ·
      rw [if_neg g3] at h
      simp only [Option.some.injEq,Prod.mk.injEq] at h
      obtain ⟨rfl,rfl⟩:=h
      exact spec_l03Put.miss k A0 c0 l0 a1 a2 i w hr0 hc0 h1 hl (by omega) (fun h5 e=>g2 ⟨h5,e⟩) g3
   · rw [if_neg g0] at h;cases h
  ·
   rw [if_neg g1] at h;cases h
 · rw [if_neg hl] at h;cases h


open Go.Proofs.YtabmfhnhmoiljaaGreatDoorW.PrintWords renaming gate_callee → δv, below_step → δr, gate_dst → δx, below_size → δs, below_drew1 → δj
open Go.Proofs.YtabmfhnhmoiljaaGreatDoorW.PrintWords.Kd renaming R_below → ζh

/-! ### spec_l00Digits: function 137 -/
def spec_l00Digits.f:Nat→Int→Option (ByteArray)
 | 0,_=>none
 | k+1,a0=>if a0=(-9223372036854775808) then (some (⟨#[45,57,50,50,51,51,55,50,48,51,54,56,53,52,55,55,53,56,48,56]⟩:ByteArray)) else (if a0<0 then ((spec_l00Digits.f k (ζm (-a0))).bind fun t127=>(if 1+t127.size≤9223372036854775807 then (some ((⟨#[45]⟩:ByteArray) ++ t127)) else (none))) else (if a0<10 then (some (strOfNums (([(ζm (48+a0)) % 256]:List Int)))) else ((spec_l00Digits.f k (ζm (Int.tdiv a0 10))).bind fun t131=>((some (([(ζm (48+(Int.tmod a0 10))) % 256]:List Int):List Int)).bind fun y132=>(if t131.size+(strOfNums y132).size≤9223372036854775807 then (some (t131 ++ (strOfNums y132))) else (none))))))
def spec_l00Digits.T7:Bool × List (List Nat × List Nat):=(τ,[([],[]),([0],[0]),([1],[1]),([],[]),([3],[3]),([4],[4]),([5],[5]),([6],[6]),([7],[7]),([2,8],[2,8]),([9,2,0,1,2,3,4,5,6,7,8,9],[9])])
def spec_l00Digits.B7:List Nat:=[0,1,3,0,8,24,56,120,248,511,1023]
theorem spec_l00Digits.tab7:rtab .any (opsOf Tryz.f137 7)=spec_l00Digits.T7:=by kernel_rfl
theorem spec_l00Digits.bits7:waitsOk spec_l00Digits.T7.2 spec_l00Digits.B7=τ:=by kernel_rfl
set_option maxHeartbeats 8000000 in
set_option maxRecDepth 100000 in
theorem spec_l00Digits.calls (k:Nat) : ∀ (a0:Int) (r:ByteArray) (w:World) (h:spec_l00Digits.f k a0=some r),
  Calls Tryz.prog 137 #[.int .i64 a0] w fun e w'=>e = .returned (.string r)∧Below w.heap.size w w':=by
 induction k using Nat.strongRecOn with
 | _ k ih =>
 intro a0 r w h
 cases k with
 | zero=>exact absurd h (by simp [spec_l00Digits.f])
 | succ k =>
 simp only [spec_l00Digits.f] at h
 have HB:=ζa (Below.refl w.heap.size w)
 have H:(if a0=(-9223372036854775808) then (some (⟨#[45,57,50,50,51,51,55,50,48,51,54,56,53,52,55,55,53,56,48,56]⟩:ByteArray)) else (if a0<0 then ((spec_l00Digits.f k (ζm (-a0))).bind fun t127=>(if 1+t127.size≤9223372036854775807 then (some ((⟨#[45]⟩:ByteArray) ++ t127)) else (none))) else (if a0<10 then (some (strOfNums (([(ζm (48+a0)) % 256]:List Int)))) else ((spec_l00Digits.f k (ζm (Int.tdiv a0 10))).bind fun t131=>((some (([(ζm (48+(Int.tmod a0 10))) % 256]:List Int):List Int)).bind fun y132=>(if t131.size+(strOfNums y132).size≤9223372036854775807 then (some (t131 ++ (strOfNums y132))) else (none)))))))=some r:=h
 clear h
 by_cases c2:a0=(-9223372036854775808)
 ·
  rw [if_pos c2] at H
  have c2b0:(a0 == (-9223372036854775808))=τ:=beq_iff_eq.mpr c2
  have c2b1:(a0 != (-9223372036854775808))=φ:=bne_eq_false_iff_eq.mpr c2
  clear c2
  obtain rfl:=Option.some.inj H
  go_enter Tryz.func137,Tryz.ntmps137
  go_wp2
  go_ret
  exact ⟨by rfl,by repeat ((with_reducible exact HB.out))⟩
 ·
  rw [if_neg c2] at H
  have c2b0:(a0 == (-9223372036854775808))=φ:=beq_eq_false_iff_ne.mpr c2
  have c2b1:(a0 != (-9223372036854775808))=τ:=bne_iff_ne.mpr c2
  by_cases c3:a0<0
  ·
   rw [if_pos c3] at H
   have c3b0:decide (a0<0)=τ:=decide_eq_true c3
   clear c3
   replace H:=Option.bind_eq_some_iff.mp H
   obtain ⟨t127,A40,H⟩:=H
   replace H:(if 1+t127.size≤9223372036854775807 then (some ((⟨#[45]⟩:ByteArray) ++ t127)) else (none))=some r:=H
   have A4:=ζa A40
   clear A40
   by_cases c5:1+t127.size≤9223372036854775807
   ·
    rw [if_pos c5] at H
    have c5b0:=eq_true c5
    have c5b1:decide (1+t127.size≤9223372036854775807)=τ:=decide_eq_true c5
    try have c5b2:(9223372036854775807<1+t127.size)=False:=eq_false (Nat.not_lt.2 c5)
    obtain rfl:=Option.some.inj H
    go_enter Tryz.func137,Tryz.ntmps137
    go_wp2_with (((with_reducible refine δv (f:=137) rfl ?_);refine goesL_ (some 9) rfl rfl Tryz.func137 (by kernel_rfl) rfl #[.int .i64 (ζm (-a0))] rfl (by (try simp only [δd,δe,δf]);rfl) ?_;(with_reducible refine (ih k (by omega) (ζm (-a0)) t127 _ A4.out).mono ?_);rintro e w6 ⟨rfl,hb⟩;refine ⟨_,rfl,?_⟩;replace HB:=ζa (δr (by exact HB.out) hb);(try clear hb);(try clear hb2);(try clear hk);(try clear hi)))
    go_ret
    exact ⟨by rfl,by repeat ((with_reducible exact HB.out))⟩
   ·
    rw [if_neg c5] at H
    exact absurd H (by simp)
  ·
   rw [if_neg c3] at H
   have c3b0:decide (a0<0)=φ:=decide_eq_false c3
   clear c3
   by_cases c7:a0<10
   ·
    rw [if_pos c7] at H
    have c7b0:decide (a0<10)=τ:=decide_eq_true c7
    clear c7
    obtain ⟨y128,hy128⟩ : ∃ y_:List Int,y_=(([(ζm (48+a0)) % 256]:List Int)):=⟨_,rfl⟩
    replace H:(some (strOfNums y128))=some r:=by (rw [hy128];with_reducible exact H)
    have Ny128:=ζa hy128
    clear hy128
    obtain rfl:=Option.some.inj H
    go_enter Tryz.func137,Tryz.ntmps137
    go_wp2_with (((with_reducible refine δx (N:=16) rfl ?_);refine Kd.R_lit (Kd.int .u8) _ 5 ?hg (N:=16) ?hd (xs:=([(ζm (48+a0)) % 256]:List Int)) (inner:=[.int .u8 ((ζm (48+a0)) % 256)]) (ok:=fun _=>True) (okp:=fun _=>True) ?hr ?hp (fun _ hk=>hk) trivial (Below.refl _ _) (Nat.le_refl _) (by simp) ?_;(case hd=>rfl);(case hg=>rfl);(case hr=>(go_simp;done));(case hp=>exact (Reps.one (show Kd.M (Kd.int .u8) _ _ _ ((ζm (48+a0)) % 256) [.int .u8 ((ζm (48+a0)) % 256)] from rfl) (Reps.none _ _)));intro v129 w8 ho9 hb hg_ hnew_;clear hg_ hnew_;(rw [← Ny128.out] at ho9);have HO130:=ζa (Kd.R_lower ho9 (δs (by exact HB.out)));replace HB:=ζa (δr (by exact HB.out) hb);clear hb ho9;have hcv10:=own_string (P:=Tryz.prog) Tryz.underlying82 Tryz.underlying5 Tryz.underlying9 (Kd.own_of_R HO130.out)))
    go_ret
    exact ⟨by rfl,by repeat ((with_reducible exact HB.out))⟩
   ·
    rw [if_neg c7] at H
    have c7b0:decide (a0<10)=φ:=decide_eq_false c7
    clear c7
    replace H:=Option.bind_eq_some_iff.mp H
    obtain ⟨t131,A110,H⟩:=H
    replace H:((some (([(ζm (48+(Int.tmod a0 10))) % 256]:List Int):List Int)).bind fun y132=>(if t131.size+(strOfNums y132).size≤9223372036854775807 then (some (t131 ++ (strOfNums y132))) else (none)))=some r:=H
    have A11:=ζa A110
    clear A110
    obtain ⟨y132,hy132⟩ : ∃ y_:List Int,y_=(([(ζm (48+(Int.tmod a0 10))) % 256]:List Int)):=⟨_,rfl⟩
    replace H:(if t131.size+(strOfNums y132).size≤9223372036854775807 then (some (t131 ++ (strOfNums y132))) else (none))=some r:=by (have H2_:=(Option.bind_some _ _).symm.trans H;rw [hy132];with_reducible exact H2_)
    have Ny132:=ζa hy132
    clear hy132
    by_cases c12:t131.size+(strOfNums y132).size≤9223372036854775807
    ·
     rw [if_pos c12] at H
     have c12b0:=eq_true c12
     have c12b1:decide (t131.size+(strOfNums y132).size≤9223372036854775807)=τ:=decide_eq_true c12
     try have c12b2:(9223372036854775807<t131.size+(strOfNums y132).size)=False:=eq_false (Nat.not_lt.2 c12)
     obtain rfl:=Option.some.inj H
     go_enter Tryz.func137,Tryz.ntmps137
     try go_wp2
     replace HB:=ζa (δj HB.out)
     refine start_ (n:=11) (S:=fun w'=>True) (ds:=[]) #[φ,φ,φ,φ,φ,φ,φ,φ,φ,φ,φ] (by kernel_rfl) rfl rfl trivial (fun hHeld => ?_);refine with_tabW spec_l00Digits.tab7 spec_l00Digits.bits7 (fun HT_ HW_ => ?_)
     generalize w.drew=w13 at HB hHeld ⊢
     refine ζk (i:=0) (N:=some 18) (v:=?_) (a':=?_) #[τ,φ,φ,φ,φ,φ,φ,φ,φ,φ,φ] rfl rfl (ζj HT_.out (by kernel_rfl)) (fun _ _ _ h=>h) (Or.inl ⟨by rfl,?_⟩) ?_ ?_
     rotate_left
     · intro w';go_simp;with_reducible rfl
     rotate_left
     · simp only [ζl,δa,δb,δc,i64_w,i32_w];rfl
     refine ζk (i:=1) (N:=some 19) (v:=?_) (a':=?_) #[τ,τ,φ,φ,φ,φ,φ,φ,φ,φ,φ] rfl rfl (ζj HT_.out (by kernel_rfl)) (fun _ _ _ h=>h) (Or.inl ⟨by rfl,?_⟩) ?_ ?_
     rotate_left
     · intro w';go_simp;with_reducible rfl
     rotate_left
     · simp only [ζl,δa,δb,δc,i64_w,i32_w];rfl
     refine ζk (i:=3) (N:=some 21) (v:=?_) (a':=?_) #[τ,τ,φ,τ,φ,φ,φ,φ,φ,φ,φ] rfl rfl (ζj HT_.out (by kernel_rfl)) (fun _ _ _ h=>h) (Or.inl ⟨by rfl,?_⟩) ?_ ?_
     rotate_left
     · intro w';go_simp;with_reducible rfl
     rotate_left
     · simp only [ζl,δa,δb,δc,i64_w,i32_w];rfl
     refine ζk (i:=4) (N:=some 22) (v:=?_) (a':=?_) #[τ,τ,φ,τ,τ,φ,φ,φ,φ,φ,φ] rfl rfl (ζj HT_.out (by kernel_rfl)) (fun _ _ _ h=>h) (Or.inl ⟨by rfl,?_⟩) ?_ ?_
     rotate_left
     · intro w';go_simp;with_reducible rfl
     rotate_left
     · simp only [ζl,δa,δb,δc,i64_w,i32_w];rfl
     refine ζk (i:=5) (N:=some 23) (v:=?_) (a':=?_) #[τ,τ,φ,τ,τ,τ,φ,φ,φ,φ,φ] rfl rfl (ζj HT_.out (by kernel_rfl)) (fun _ _ _ h=>h) (Or.inl ⟨by rfl,?_⟩) ?_ ?_
     rotate_left
     · intro w';go_simp;with_reducible rfl
     rotate_left
     · simp only [ζl,δa,δb,δc,i64_w,i32_w];rfl
     refine ζk (i:=6) (N:=some 24) (v:=?_) (a':=?_) #[τ,τ,φ,τ,τ,τ,τ,φ,φ,φ,φ] rfl rfl (ζj HT_.out (by kernel_rfl)) (fun _ _ _ h=>h) (Or.inl ⟨by rfl,?_⟩) ?_ ?_
     rotate_left
     · intro w';go_simp;with_reducible rfl
     rotate_left
     · simp only [ζl,δa,δb,δc,i64_w,i32_w];rfl
     refine join_ (σ:=Value) 2 #[τ,τ,τ,τ,τ,τ,τ,τ,τ,φ,φ] (fun s_ => [(20,.string t131),(25,s_),(26,.string (strOfNums y132))]) (fun s_ w'=>(Kd.R (Kd.int .u8) 5 w' w.heap.size (fun _=>True) s_ y132)∧(Below w.heap.size w w')) ?_ ?_
     rotate_left
     ·
      intro hCont
      refine two_ (i:=2) (j:=7) (Ni:=some 20) (Nj:=some 25) #[τ,τ,τ,τ,τ,τ,τ,φ,φ,φ,φ] #[τ,τ,φ,τ,τ,τ,τ,τ,φ,φ,φ] rfl rfl rfl rfl (two_of HT_.out (by kernel_rfl)) (by decide) (by decide) (fun K hK => ?_) (fun K hK => ?_)
      ·
       skip
       refine goes_ Tryz.func137 (by kernel_rfl) rfl #[.int .i64 (ζm (Int.tdiv a0 10))] (by rfl) rfl rfl (by (try simp only [δd,δe,δf]);rfl) ?_
       with_reducible refine (ih k (by omega) (ζm (Int.tdiv a0 10)) t131 _ A11.out).mono ?_
       rintro e w14 ⟨rfl,hb⟩
       refine ⟨_,rfl,?_⟩
       replace HB:=ζa (δr (by exact HB.out) hb)
       (try clear hb)
       (try clear hb2)
       (try clear hk)
       (try clear hi)
       refine hK.out _ _ trivial (fun hHeld => ?_)
       clear hK K
       refine norm_ (a':=?_) ?_ ?_
       rotate_left
       ·
        show ζl _ (some 20) _=_
        simp only [ζl,δa,δb,δc,i64_w,i32_w];rfl
       refine one_ (i:=7) (N:=some 25) #[τ,τ,τ,τ,τ,τ,τ,τ,φ,φ,φ] rfl rfl (one_of HT_.out (by kernel_rfl)) (by decide) (fun K hK => ?_)
       refine Kd.R_lit_step (Kd.int .u8) _ 5 ?hg (N:=25) ?hd (xs:=([(ζm (48+(Int.tmod a0 10))) % 256]:List Int)) (inner:=[.int .u8 ((ζm (48+(Int.tmod a0 10))) % 256)]) (ok:=fun _=>True) (okp:=fun _=>True) ?hr ?hp (fun _ hk=>hk) trivial (Below.refl _ _) (Nat.le_refl _) (by simp) ?_;(case hd=>rfl);(case hg=>rfl);(case hr=>(go_simp;rfl));(case hp=>exact (Reps.one (show Kd.M (Kd.int .u8) _ _ _ ((ζm (48+(Int.tmod a0 10))) % 256) [.int .u8 ((ζm (48+(Int.tmod a0 10))) % 256)] from rfl) (Reps.none _ _)))
       intro v133 w15 ho16 hb hg_ hnew_
       clear hg_ hnew_
       (rw [← Ny132.out] at ho16)
       have HO134:=ζa (Kd.R_lower ho16 (δs (by exact HB.out)))
       replace HB:=ζa (δr (by exact HB.out) hb)
       clear hb ho16
       refine hK.out _ _ trivial (fun hHeld => ?_)
       clear hK K
       refine norm_ (a':=?_) ?_ ?_
       rotate_left
       ·
        show ζl _ (some 25) _=_
        simp only [ζl,δa,δb,δc,i64_w,i32_w];rfl
       refine one_ (i:=8) (N:=some 26) #[τ,τ,τ,τ,τ,τ,τ,τ,τ,φ,φ] rfl rfl (one_of HT_.out (by kernel_rfl)) (by decide) (fun K hK => ?_)
       have hcv17:=own_string (P:=Tryz.prog) Tryz.underlying82 Tryz.underlying5 Tryz.underlying9 (Kd.own_of_R HO134.out)
       refine value_ (w1:=?_) (v:=?_) (by rfl) rfl ?_ ?_
       rotate_left 2
       ·
        go_simp
        constructor
        · rfl
        ·
         rfl
       clear hcv17
       refine hK.out _ _ trivial (fun hHeld => ?_)
       clear hK K
       refine norm_ (a':=?_) ?_ ?_
       rotate_left
       ·
        show ζl _ (some 26) _=_
        simp only [ζl,δa,δb,δc,i64_w,i32_w];rfl
       exact norm_ (by simp only [putAll,ζl,δa,δb,δc]) (hCont (v133) _ ⟨(by exact HO134.out),(by exact HB.out)⟩)
      ·
       skip
       refine Kd.R_lit_step (Kd.int .u8) _ 5 ?hg (N:=25) ?hd (xs:=([(ζm (48+(Int.tmod a0 10))) % 256]:List Int)) (inner:=[.int .u8 ((ζm (48+(Int.tmod a0 10))) % 256)]) (ok:=fun _=>True) (okp:=fun _=>True) ?hr ?hp (fun _ hk=>hk) trivial (Below.refl _ _) (Nat.le_refl _) (by simp) ?_;(case hd=>rfl);(case hg=>rfl);(case hr=>(go_simp;rfl));(case hp=>exact (Reps.one (show Kd.M (Kd.int .u8) _ _ _ ((ζm (48+(Int.tmod a0 10))) % 256) [.int .u8 ((ζm (48+(Int.tmod a0 10))) % 256)] from rfl) (Reps.none _ _)))
       intro v133 w14 ho15 hb hg_ hnew_
       clear hg_ hnew_
       (rw [← Ny132.out] at ho15)
       have HO134:=ζa (Kd.R_lower ho15 (δs (by exact HB.out)))
       replace HB:=ζa (δr (by exact HB.out) hb)
       clear hb ho15
       refine hK.out _ _ trivial (fun hHeld => ?_)
       clear hK K
       refine norm_ (a':=?_) ?_ ?_
       rotate_left
       ·
        show ζl _ (some 25) _=_
        simp only [ζl,δa,δb,δc,i64_w,i32_w];rfl
       refine two_ (i:=2) (j:=8) (Ni:=some 20) (Nj:=some 26) #[τ,τ,τ,τ,τ,τ,τ,τ,φ,φ,φ] #[τ,τ,φ,τ,τ,τ,τ,τ,τ,φ,φ] rfl rfl rfl rfl (two_of HT_.out (by kernel_rfl)) (by decide) (by decide) (fun K hK => ?_) (fun K hK => ?_)
       ·
        skip
        refine goes_ Tryz.func137 (by kernel_rfl) rfl #[.int .i64 (ζm (Int.tdiv a0 10))] (by rfl) rfl rfl (by (try simp only [δd,δe,δf]);rfl) ?_
        with_reducible refine (ih k (by omega) (ζm (Int.tdiv a0 10)) t131 _ A11.out).mono ?_
        rintro e w16 ⟨rfl,hb⟩
        refine ⟨_,rfl,?_⟩
        replace HO134:=ζa (ζh (by exact HO134.out) hb)
        replace HB:=ζa (δr (by exact HB.out) hb)
        (try clear hb)
        (try clear hb2)
        (try clear hk)
        (try clear hi)
        refine hK.out _ _ trivial (fun hHeld => ?_)
        clear hK K
        refine norm_ (a':=?_) ?_ ?_
        rotate_left
        ·
         show ζl _ (some 20) _=_
         simp only [ζl,δa,δb,δc,i64_w,i32_w];rfl
        refine one_ (i:=8) (N:=some 26) #[τ,τ,τ,τ,τ,τ,τ,τ,τ,φ,φ] rfl rfl (one_of HT_.out (by kernel_rfl)) (by decide) (fun K hK => ?_)
        have hcv17:=own_string (P:=Tryz.prog) Tryz.underlying82 Tryz.underlying5 Tryz.underlying9 (Kd.own_of_R HO134.out)
        refine value_ (w1:=?_) (v:=?_) (by rfl) rfl ?_ ?_
        rotate_left 2
        ·
         go_simp
         constructor
         · rfl
         ·
          rfl
        clear hcv17
        refine hK.out _ _ trivial (fun hHeld => ?_)
        clear hK K
        refine norm_ (a':=?_) ?_ ?_
        rotate_left
        ·
         show ζl _ (some 26) _=_
         simp only [ζl,δa,δb,δc,i64_w,i32_w];rfl
        exact norm_ (by simp only [putAll,ζl,δa,δb,δc]) (hCont (v133) _ ⟨(by exact HO134.out),(by exact HB.out)⟩)
       ·
        skip
        have hcv16:=own_string (P:=Tryz.prog) Tryz.underlying82 Tryz.underlying5 Tryz.underlying9 (Kd.own_of_R HO134.out)
        refine value_ (w1:=?_) (v:=?_) (by rfl) rfl ?_ ?_
        rotate_left 2
        ·
         go_simp
         constructor
         · rfl
         ·
          rfl
        clear hcv16
        refine hK.out _ _ trivial (fun hHeld => ?_)
        clear hK K
        refine norm_ (a':=?_) ?_ ?_
        rotate_left
        ·
         show ζl _ (some 26) _=_
         simp only [ζl,δa,δb,δc,i64_w,i32_w];rfl
        refine one_ (i:=2) (N:=some 20) #[τ,τ,τ,τ,τ,τ,τ,τ,τ,φ,φ] rfl rfl (one_of HT_.out (by kernel_rfl)) (by decide) (fun K hK => ?_)
        refine goes_ Tryz.func137 (by kernel_rfl) rfl #[.int .i64 (ζm (Int.tdiv a0 10))] (by rfl) rfl rfl (by (try simp only [δd,δe,δf]);rfl) ?_
        with_reducible refine (ih k (by omega) (ζm (Int.tdiv a0 10)) t131 _ A11.out).mono ?_
        rintro e w17 ⟨rfl,hb⟩
        refine ⟨_,rfl,?_⟩
        replace HO134:=ζa (ζh (by exact HO134.out) hb)
        replace HB:=ζa (δr (by exact HB.out) hb)
        (try clear hb)
        (try clear hb2)
        (try clear hk)
        (try clear hi)
        refine hK.out _ _ trivial (fun hHeld => ?_)
        clear hK K
        refine norm_ (a':=?_) ?_ ?_
        rotate_left
        ·
         show ζl _ (some 20) _=_
         simp only [ζl,δa,δb,δc,i64_w,i32_w];rfl
        exact norm_ (by simp only [putAll,ζl,δa,δb,δc]) (hCont (v133) _ ⟨(by exact HO134.out),(by exact HB.out)⟩)
     rintro v133 w18 ⟨h0_,h1_⟩
     have n0_:Aside0 (Kd.R (Kd.int .u8) 5 w18 w.heap.size (fun _=>True) v133 y132):=⟨h0_⟩
     have n1_:Aside0 (Below w.heap.size w w18):=⟨h1_⟩
     clear HB
     clear h0_ h1_
     have HO134:=n0_
     have HB:=n1_
     clear n0_ n1_
     have hHeld:=trivial
     refine norm_ (a':=?_) ?_ ?_
     rotate_left
     · simp only [putAll,ζl,δa,δb,δc];rfl
     refine ζk (i:=9) (N:=some 27) (v:=?_) (a':=?_) #[τ,τ,τ,τ,τ,τ,τ,τ,τ,τ,φ] rfl rfl (ζj HT_.out (by kernel_rfl)) (fun _ _ _ h=>h) (Or.inl ⟨by rfl,?_⟩) ?_ ?_
     rotate_left
     · intro w';go_simp;with_reducible rfl
     rotate_left
     · simp only [ζl,δa,δb,δc,i64_w,i32_w];rfl
     refine ζk (i:=10) (N:=some 2) (v:=?_) (a':=?_) #[τ,τ,τ,τ,τ,τ,τ,τ,τ,τ,τ] rfl rfl (ζj HT_.out (by kernel_rfl)) (fun _ _ _ h=>h) (Or.inl ⟨by rfl,?_⟩) ?_ ?_
     rotate_left
     · intro w';go_simp;with_reducible rfl
     rotate_left
     · simp only [ζl,δa,δb,δc,i64_w,i32_w];rfl
     refine done_ (done_of HT_.out (by kernel_rfl)) ?_
     try go_wp2
     go_ret
     exact ⟨by rfl,by repeat ((with_reducible exact HB.out))⟩
    ·
     rw [if_neg c12] at H
     exact absurd H (by simp)


open Go.Proofs.YtabmfhnhmoiljaaGreatDoorW.PrintWords renaming below_step → δr

/-! ### spec_l05Write: function 184 -/
def spec_l05Write.f (k:Nat) (list:List S51) (key:ByteArray) (n:Int):Option (List S51 × Int) :=
 if n=0 then ((spec_l03Drop.f k list key).bind fun q1=>some (q1.1,0)) else ((spec_l00Digits.f k n).bind fun q2=>(spec_l03Put.f k list key q2).bind fun q3=>some (q3.1,q3.2))
set_option maxHeartbeats 4000000 in
set_option maxRecDepth 100000 in
theorem spec_l05Write.calls (k:Nat) (A_list:Option Addr) (c_list:Nat) (list:List S51) (key:ByteArray) (n:Int) (r1:List S51) (r2:Int) (w:World) (hr0_list:Kd.C k51 w A_list list.length list) (hc0_list:list.length≤c_list) (h:spec_l05Write.f k list key n=some (r1,r2)) :
  Calls Tryz.prog 184 #[.slice A_list list.length c_list,.string key,.int .i64 n] w fun e w' => ∃ v0_:Value,e = .returned (.tuple #[v0_,.int .i64 r2])∧Sf w w' (.slice A_list list.length c_list) list v0_ r1∧Below w.heap.size w w':=by
 have HR0_list:=ζa hr0_list
 have HC0_list:=ζa hc0_list
 clear hr0_list hc0_list
 have HB0:=ζa (Below.refl w.heap.size w)
 unfold spec_l05Write.f at h
 have HH:=ζa h
 clear h
 go_enter Tryz.func184,Tryz.ntmps184
 have h:=HH.out
 clear HH
 by_cases cc1:n=0
 ·
  rw [if_pos cc1] at h
  have HH:=ζa h
  clear h
  have f1a:(n == 0)=τ:=beq_iff_eq.mpr cc1
  have f1b:(n != 0)=φ:=bne_eq_false_iff_eq.mpr cc1
  have C1:=ζa cc1
  clear cc1
  have h:=HH.out
  clear HH
  obtain ⟨⟨o1,c1⟩,h2_,h⟩:=Option.bind_eq_some_iff.mp h
  have HH:=ζa h
  have H2:=ζa h2_
  clear h h2_
  go_wp2_with fail
  refine (spec_l03Drop.calls k A_list c_list list key o1 c1 _ (by repeat (exact Kd.C_below HR0_list.out HB0.out)) HC0_list.out H2.out).mono ?_
  rintro e w2 ⟨v2,rfl,ho,hb⟩
  have hsf:=Sf.trans (by exact ⟨Or.inl ⟨rfl,rfl⟩⟩) ho hb (Below.size (show Below w.heap.size w _ from by repeat (exact HB0.out)))
  obtain ⟨adr2,cap2,rfl,hl2,hq2⟩:=Sf.reads ho (Kd.C_below HR0_list.out (δr (by repeat (exact HB0.out)) hb)) HC0_list.out
  have HC2:=ζa hl2
  have HRn2:=ζa hq2
  have HS2:=ζa hsf
  clear hl2 hq2 ho hsf
  have m_:=ζa (δr (by repeat (exact HB0.out)) hb)
  clear hb
  have HB2:=m_
  clear m_
  have h:=HH.out
  clear HH
  simp only [Option.some.injEq,Prod.mk.injEq] at h
  obtain ⟨rfl,rfl⟩:=h
  go_wp2
  go_ret2
  exact ⟨_,rfl,(by repeat (exact HS2.out)),(by repeat (exact HB2.out))⟩
 ·
  rw [if_neg cc1] at h
  have HH:=ζa h
  clear h
  have f1a:(n == 0)=φ:=beq_eq_false_iff_ne.mpr cc1
  have f1b:(n != 0)=τ:=bne_iff_ne.mpr cc1
  have C1:=ζa cc1
  clear cc1
  have h:=HH.out
  clear HH
  obtain ⟨t1,h3_,h⟩:=Option.bind_eq_some_iff.mp h
  have HH:=ζa h
  have H3:=ζa h3_
  clear h h3_
  go_wp2_with fail
  refine (spec_l00Digits.calls k n t1 _ H3.out).mono ?_
  rintro e w3 ⟨rfl,hb⟩
  have m_:=ζa (δr (by repeat (exact HB0.out)) hb)
  clear hb
  have HB3:=m_
  clear m_
  have h:=HH.out
  clear HH
  obtain ⟨⟨o2,c2⟩,h4_,h⟩:=Option.bind_eq_some_iff.mp h
  have HH:=ζa h
  have H4:=ζa h4_
  clear h h4_
  go_wp2_with fail
  refine (spec_l03Put.calls k A_list c_list list key t1 o2 c2 _ (by repeat (exact Kd.C_below HR0_list.out HB3.out)) HC0_list.out H4.out).mono ?_
  rintro e w4 ⟨v4,rfl,ho,hb⟩
  have hsf:=Sf.trans (by exact ⟨Or.inl ⟨rfl,rfl⟩⟩) ho hb (Below.size (show Below w.heap.size w _ from by repeat (exact HB3.out)))
  obtain ⟨adr4,cap4,rfl,hl4,hq4⟩:=Sf.reads ho (Kd.C_below HR0_list.out (δr (by repeat (exact HB3.out)) hb)) HC0_list.out
  have HC4:=ζa hl4
  have HRn4:=ζa hq4
  have HS4:=ζa hsf
  clear hl4 hq4 ho hsf
  have m_:=ζa (δr (by repeat (exact HB3.out)) hb)
  clear hb
  have HB4:=m_
  clear m_
  have h:=HH.out
  clear HH
  simp only [Option.some.injEq,Prod.mk.injEq] at h
  obtain ⟨rfl,rfl⟩:=h
  go_wp2
  go_ret2
  exact ⟨_,rfl,(by repeat (exact HS4.out)),(by repeat (exact HB4.out))⟩



/-! ### spec_l05Add: function 134 -/
def spec_l05Add.f (k:Nat) (list:List S51) (key:ByteArray) (n:Int):Option (List S51 × Int) :=
 (spec_l05Read.f k list key).bind fun q1=>if ζm (q1+n)<0 then (some (list,12)) else (if 1000000000000000000<ζm (q1+n) then (some (list,13)) else ((spec_l05Write.f k list key (ζm (q1+n))).bind fun q2=>some (q2.1,q2.2)))
set_option maxHeartbeats 4000000 in
set_option maxRecDepth 100000 in
theorem spec_l05Add.calls (k:Nat) (A_list:Option Addr) (c_list:Nat) (list:List S51) (key:ByteArray) (n:Int) (r1:List S51) (r2:Int) (w:World) (hr0_list:Kd.C k51 w A_list list.length list) (hc0_list:list.length≤c_list) (h:spec_l05Add.f k list key n=some (r1,r2)) :
  Calls Tryz.prog 134 #[.slice A_list list.length c_list,.string key,.int .i64 n] w fun e w' => ∃ v0_:Value,e = .returned (.tuple #[v0_,.int .i64 r2])∧Sf w w' (.slice A_list list.length c_list) list v0_ r1∧Below w.heap.size w w':=by
 have HR0_list:=ζa hr0_list
 have HC0_list:=ζa hc0_list
 clear hr0_list hc0_list
 have HB0:=ζa (Below.refl w.heap.size w)
 unfold spec_l05Add.f at h
 have HH:=ζa h
 clear h
 go_enter Tryz.func134,Tryz.ntmps134
 have h:=HH.out
 clear HH
 obtain ⟨a1,h1_,h⟩:=Option.bind_eq_some_iff.mp h
 have HH:=ζa h
 have H1:=ζa h1_
 clear h h1_
 go_wp2_with fail
 refine (spec_l05Read.calls k A_list c_list list key a1 _ (by repeat (exact Kd.C_below HR0_list.out HB0.out)) HC0_list.out H1.out).mono ?_
 rintro e w1 ⟨rfl,hb⟩
 have m_:=ζa (δr (by repeat (exact HB0.out)) hb)
 clear hb
 have HB1:=m_
 clear m_
 have h:=HH.out
 clear HH
 by_cases cc2:ζm (a1+n)<0
 ·
  rw [if_pos cc2] at h
  have HH:=ζa h
  clear h
  have f2a:decide (ζm (a1+n)<0)=τ:=decide_eq_true cc2
  have C2:=ζa cc2
  clear cc2
  have h:=HH.out
  clear HH
  simp only [Option.some.injEq,Prod.mk.injEq] at h
  obtain ⟨rfl,rfl⟩:=h
  go_wp2
  go_ret2
  exact ⟨_,rfl,⟨Or.inl ⟨rfl,rfl⟩⟩,(by repeat (exact HB1.out))⟩
 ·
  rw [if_neg cc2] at h
  have HH:=ζa h
  clear h
  have f2a:decide (ζm (a1+n)<0)=φ:=decide_eq_false cc2
  have C2:=ζa cc2
  clear cc2
  have h:=HH.out
  clear HH
  by_cases cc3:1000000000000000000<ζm (a1+n)
  ·
   rw [if_pos cc3] at h
   have HH:=ζa h
   clear h
   have f3a:decide (1000000000000000000<ζm (a1+n))=τ:=decide_eq_true cc3
   have C3:=ζa cc3
   clear cc3
   have h:=HH.out
   clear HH
   simp only [Option.some.injEq,Prod.mk.injEq] at h
   obtain ⟨rfl,rfl⟩:=h
   go_wp2
   go_ret2
   exact ⟨_,rfl,⟨Or.inl ⟨rfl,rfl⟩⟩,(by repeat (exact HB1.out))⟩
  ·
   rw [if_neg cc3] at h
   have HH:=ζa h
   clear h
   have f3a:decide (1000000000000000000<ζm (a1+n))=φ:=decide_eq_false cc3
   have C3:=ζa cc3
   clear cc3
   have h:=HH.out
   clear HH
   obtain ⟨⟨o1,c1⟩,h4_,h⟩:=Option.bind_eq_some_iff.mp h
   have HH:=ζa h
   have H4:=ζa h4_
   clear h h4_
   go_wp2_with fail
   refine (spec_l05Write.calls k A_list c_list list key (ζm (a1+n)) o1 c1 _ (by repeat (exact Kd.C_below HR0_list.out HB1.out)) HC0_list.out H4.out).mono ?_
   rintro e w4 ⟨v4,rfl,ho,hb⟩
   have hsf:=Sf.trans (by exact ⟨Or.inl ⟨rfl,rfl⟩⟩) ho hb (Below.size (show Below w.heap.size w _ from by repeat (exact HB1.out)))
   obtain ⟨adr4,cap4,rfl,hl4,hq4⟩:=Sf.reads ho (Kd.C_below HR0_list.out (δr (by repeat (exact HB1.out)) hb)) HC0_list.out
   have HC4:=ζa hl4
   have HRn4:=ζa hq4
   have HS4:=ζa hsf
   clear hl4 hq4 ho hsf
   have m_:=ζa (δr (by repeat (exact HB1.out)) hb)
   clear hb
   have HB4:=m_
   clear m_
   have h:=HH.out
   clear HH
   simp only [Option.some.injEq,Prod.mk.injEq] at h
   obtain ⟨rfl,rfl⟩:=h
   go_wp2
   go_ret2
   exact ⟨_,rfl,(by repeat (exact HS4.out)),(by repeat (exact HB4.out))⟩



/-! ### spec_l05Key: function 135 -/
def spec_l05Key.f (a0:ByteArray) (a1:ByteArray):Option (ByteArray):=if a0.size+a1.size≤1000000000000 then some ((((⟨#[98,47]⟩:ByteArray) ++ a1) ++ (⟨#[47]⟩:ByteArray)) ++ a0) else none
set_option maxHeartbeats 1000000 in
theorem spec_l05Key.calls (a0:ByteArray) (a1:ByteArray) (r:ByteArray) (w:World) (h:spec_l05Key.f a0 a1=some r) :
  Calls Tryz.prog 135 #[.string a0,.string a1] w fun e w'=>e = .returned (.string r)∧Drawn0 w w':=by
 unfold spec_l05Key.f at h
 by_cases c:a0.size+a1.size≤1000000000000
 ·
  rw [if_pos c] at h
  obtain rfl:=Option.some.inj h
  have c1:(2+a1.size≤9223372036854775807)=True:=eq_true (by omega)
  have c2:(9223372036854775807<2+a1.size)=False:=eq_false (by omega)
  have c3:(2+a1.size+1≤9223372036854775807)=True:=eq_true (by omega)
  have c4:(9223372036854775807<2+a1.size+1)=False:=eq_false (by omega)
  have c5:(2+a1.size+1+a0.size≤9223372036854775807)=True:=eq_true (by omega)
  have c6:(9223372036854775807<2+a1.size+1+a0.size)=False:=eq_false (by omega)
  clear c
  go_enter Tryz.func135,Tryz.ntmps135
  go_wp2
  go_ret
  exact ⟨by rfl,by repeat (exact Drawn0.refl _)⟩
 · rw [if_neg c] at h;cases h



/-! ### spec_l05Move: function 78 -/
def spec_l05Move.f (k:Nat) (list:List S51) (from_:ByteArray) (to_:ByteArray) (denom:ByteArray) (n:Int):Option (List S51 × Int) :=
 (spec_l05Key.f from_ denom).bind fun q1=>(spec_l05Add.f k list q1 (ζm (-n))).bind fun q2=>if q2.2=0 then ((spec_l05Key.f to_ denom).bind fun q3=>(spec_l05Add.f k q2.1 q3 n).bind fun q4=>if q4.2=0 then (some (q4.1,0)) else (some (list,q4.2))) else (some (list,q2.2))
set_option maxHeartbeats 4000000 in
set_option maxRecDepth 100000 in
theorem spec_l05Move.calls (k:Nat) (A_list:Option Addr) (c_list:Nat) (list:List S51) (from_:ByteArray) (to_:ByteArray) (denom:ByteArray) (n:Int) (r1:List S51) (r2:Int) (w:World) (hr0_list:Kd.C k51 w A_list list.length list) (hc0_list:list.length≤c_list) (h:spec_l05Move.f k list from_ to_ denom n=some (r1,r2)) :
  Calls Tryz.prog 78 #[.slice A_list list.length c_list,.string from_,.string to_,.string denom,.int .i64 n] w fun e w' => ∃ v0_:Value,e = .returned (.tuple #[v0_,.int .i64 r2])∧Sf w w' (.slice A_list list.length c_list) list v0_ r1∧Below w.heap.size w w':=by
 have HR0_list:=ζa hr0_list
 have HC0_list:=ζa hc0_list
 clear hr0_list hc0_list
 have HB0:=ζa (Below.refl w.heap.size w)
 unfold spec_l05Move.f at h
 have HH:=ζa h
 clear h
 go_enter Tryz.func78,Tryz.ntmps78
 have h:=HH.out
 clear HH
 obtain ⟨k1,h1_,h⟩:=Option.bind_eq_some_iff.mp h
 have HH:=ζa h
 have H1:=ζa h1_
 clear h h1_
 go_wp2_with fail
 refine (spec_l05Key.calls from_ denom k1 _ H1.out).mono ?_
 rintro e w1 ⟨rfl,hd⟩
 have hb:=hd.below
 clear hd
 have m_:=ζa (δr (by repeat (exact HB0.out)) hb)
 clear hb
 have HB1:=m_
 clear m_
 have h:=HH.out
 clear HH
 obtain ⟨⟨o1,c1⟩,h2_,h⟩:=Option.bind_eq_some_iff.mp h
 have HH:=ζa h
 have H2:=ζa h2_
 clear h h2_
 go_wp2_with fail
 refine (spec_l05Add.calls k A_list c_list list k1 (ζm (-n)) o1 c1 _ (by repeat (exact Kd.C_below HR0_list.out HB1.out)) HC0_list.out H2.out).mono ?_
 rintro e w2 ⟨v2,rfl,ho,hb⟩
 have hsf:=Sf.trans (by exact ⟨Or.inl ⟨rfl,rfl⟩⟩) ho hb (Below.size (show Below w.heap.size w _ from by repeat (exact HB1.out)))
 obtain ⟨adr2,cap2,rfl,hl2,hq2⟩:=Sf.reads ho (Kd.C_below HR0_list.out (δr (by repeat (exact HB1.out)) hb)) HC0_list.out
 have HC2:=ζa hl2
 have HRn2:=ζa hq2
 have HS2:=ζa hsf
 clear hl2 hq2 ho hsf
 have m_:=ζa (δr (by repeat (exact HB1.out)) hb)
 clear hb
 have HB2:=m_
 clear m_
 have h:=HH.out
 clear HH
 by_cases cc3:c1=0
 ·
  rw [if_pos cc3] at h
  have HH:=ζa h
  clear h
  have f3a:(c1 == 0)=τ:=beq_iff_eq.mpr cc3
  have f3b:(c1 != 0)=φ:=bne_eq_false_iff_eq.mpr cc3
  have C3:=ζa cc3
  clear cc3
  have h:=HH.out
  clear HH
  obtain ⟨k2,h4_,h⟩:=Option.bind_eq_some_iff.mp h
  have HH:=ζa h
  have H4:=ζa h4_
  clear h h4_
  go_wp2_with fail
  refine (spec_l05Key.calls to_ denom k2 _ H4.out).mono ?_
  rintro e w4 ⟨rfl,hd⟩
  have hb:=hd.below
  clear hd
  replace HRn2:=ζa (Kd.C_below (by repeat (exact HRn2.out)) hb)
  replace HS2:=ζa (Sf.below (by repeat (exact HS2.out)) hb)
  have m_:=ζa (δr (by repeat (exact HB2.out)) hb)
  clear hb
  have HB4:=m_
  clear m_
  have h:=HH.out
  clear HH
  obtain ⟨⟨o2,c2⟩,h5_,h⟩:=Option.bind_eq_some_iff.mp h
  have HH:=ζa h
  have H5:=ζa h5_
  clear h h5_
  go_wp2_with fail
  refine (spec_l05Add.calls k adr2 cap2 o1 k2 n o2 c2 _ (by repeat (exact HRn2.out)) HC2.out H5.out).mono ?_
  rintro e w5 ⟨v5,rfl,ho,hb⟩
  have hsf:=Sf.trans (by repeat (exact HS2.out)) ho hb (Below.size (show Below w.heap.size w _ from by repeat (exact HB4.out)))
  replace HRn2:=ζa (Kd.C_below (by repeat (exact HRn2.out)) hb)
  replace HS2:=ζa (Sf.below (by repeat (exact HS2.out)) hb)
  obtain ⟨adr5,cap5,rfl,hl5,hq5⟩:=Sf.reads ho (HRn2.out) HC2.out
  have HC5:=ζa hl5
  have HRn5:=ζa hq5
  have HS5:=ζa hsf
  clear hl5 hq5 ho hsf
  have m_:=ζa (δr (by repeat (exact HB4.out)) hb)
  clear hb
  have HB5:=m_
  clear m_
  have h:=HH.out
  clear HH
  by_cases cc6:c2=0
  ·
   rw [if_pos cc6] at h
   have HH:=ζa h
   clear h
   have f6a:(c2 == 0)=τ:=beq_iff_eq.mpr cc6
   have f6b:(c2 != 0)=φ:=bne_eq_false_iff_eq.mpr cc6
   have C6:=ζa cc6
   clear cc6
   have h:=HH.out
   clear HH
   simp only [Option.some.injEq,Prod.mk.injEq] at h
   obtain ⟨rfl,rfl⟩:=h
   go_wp2
   go_ret2
   exact ⟨_,rfl,(by repeat (exact HS5.out)),(by repeat (exact HB5.out))⟩
  ·
   rw [if_neg cc6] at h
   have HH:=ζa h
   clear h
   have f6a:(c2 == 0)=φ:=beq_eq_false_iff_ne.mpr cc6
   have f6b:(c2 != 0)=τ:=bne_iff_ne.mpr cc6
   have C6:=ζa cc6
   clear cc6
   have h:=HH.out
   clear HH
   simp only [Option.some.injEq,Prod.mk.injEq] at h
   obtain ⟨rfl,rfl⟩:=h
   go_wp2
   go_ret2
   exact ⟨_,rfl,⟨Or.inl ⟨rfl,rfl⟩⟩,(by repeat (exact HB5.out))⟩
 ·
  rw [if_neg cc3] at h
  have HH:=ζa h
  clear h
  have f3a:(c1 == 0)=φ:=beq_eq_false_iff_ne.mpr cc3
  have f3b:(c1 != 0)=τ:=bne_iff_ne.mpr cc3
  have C3:=ζa cc3
  clear cc3
  have h:=HH.out
  clear HH
  simp only [Option.some.injEq,Prod.mk.injEq] at h
  obtain ⟨rfl,rfl⟩:=h
  go_wp2
  go_ret2
  exact ⟨_,rfl,⟨Or.inl ⟨rfl,rfl⟩⟩,(by repeat (exact HB2.out))⟩


open Bool renaming true → τ

/-! ### spec_l05Supply: function 152 -/
def spec_l05Supply.f (a0:ByteArray):Option (ByteArray):=if 2+a0.size≤9223372036854775807 then (some ((⟨#[115,47]⟩:ByteArray) ++ a0)) else (none)
set_option maxHeartbeats 8000000 in
set_option maxRecDepth 100000 in
theorem spec_l05Supply.calls (a0:ByteArray) (r:ByteArray) (w:World) (h:spec_l05Supply.f a0=some r) :
  Calls Tryz.prog 152 #[.string a0] w fun e w'=>e = .returned (.string r)∧Drawn0 w w':=by
 have H:(if 2+a0.size≤9223372036854775807 then (some ((⟨#[115,47]⟩:ByteArray) ++ a0)) else (none))=some r:=h
 clear h
 by_cases c2:2+a0.size≤9223372036854775807
 ·
  rw [if_pos c2] at H
  have c2b0:=eq_true c2
  have c2b1:decide (2+a0.size≤9223372036854775807)=τ:=decide_eq_true c2
  try have c2b2:(9223372036854775807<2+a0.size)=False:=eq_false (Nat.not_lt.2 c2)
  obtain rfl:=Option.some.inj H
  go_enter Tryz.func152,Tryz.ntmps152
  go_wp2
  go_ret
  exact ⟨by rfl,by repeat (exact Drawn0.refl _)⟩
 ·
  rw [if_neg c2] at H
  exact absurd H (by simp)



/-! ### spec_l05Burn: function 90 -/
def spec_l05Burn.f (k:Nat) (list:List S51) (account:ByteArray) (denom:ByteArray) (n:Int):Option (List S51 × Int) :=
 (spec_l05Key.f account denom).bind fun q1=>(spec_l05Add.f k list q1 (ζm (-n))).bind fun q2=>if q2.2=0 then ((spec_l05Supply.f denom).bind fun q3=>(spec_l05Add.f k q2.1 q3 (ζm (-n))).bind fun q4=>if q4.2=0 then (some (q4.1,0)) else (some (list,q4.2))) else (some (list,q2.2))
set_option maxHeartbeats 4000000 in
set_option maxRecDepth 100000 in
theorem spec_l05Burn.calls (k:Nat) (A_list:Option Addr) (c_list:Nat) (list:List S51) (account:ByteArray) (denom:ByteArray) (n:Int) (r1:List S51) (r2:Int) (w:World) (hr0_list:Kd.C k51 w A_list list.length list) (hc0_list:list.length≤c_list) (h:spec_l05Burn.f k list account denom n=some (r1,r2)) :
  Calls Tryz.prog 90 #[.slice A_list list.length c_list,.string account,.string denom,.int .i64 n] w fun e w' => ∃ v0_:Value,e = .returned (.tuple #[v0_,.int .i64 r2])∧Sf w w' (.slice A_list list.length c_list) list v0_ r1∧Below w.heap.size w w':=by
 have HR0_list:=ζa hr0_list
 have HC0_list:=ζa hc0_list
 clear hr0_list hc0_list
 have HB0:=ζa (Below.refl w.heap.size w)
 unfold spec_l05Burn.f at h
 have HH:=ζa h
 clear h
 go_enter Tryz.func90,Tryz.ntmps90
 have h:=HH.out
 clear HH
 obtain ⟨k1,h1_,h⟩:=Option.bind_eq_some_iff.mp h
 have HH:=ζa h
 have H1:=ζa h1_
 clear h h1_
 go_wp2_with fail
 refine (spec_l05Key.calls account denom k1 _ H1.out).mono ?_
 rintro e w1 ⟨rfl,hd⟩
 have hb:=hd.below
 clear hd
 have m_:=ζa (δr (by repeat (exact HB0.out)) hb)
 clear hb
 have HB1:=m_
 clear m_
 have h:=HH.out
 clear HH
 obtain ⟨⟨o1,c1⟩,h2_,h⟩:=Option.bind_eq_some_iff.mp h
 have HH:=ζa h
 have H2:=ζa h2_
 clear h h2_
 go_wp2_with fail
 refine (spec_l05Add.calls k A_list c_list list k1 (ζm (-n)) o1 c1 _ (by repeat (exact Kd.C_below HR0_list.out HB1.out)) HC0_list.out H2.out).mono ?_
 rintro e w2 ⟨v2,rfl,ho,hb⟩
 have hsf:=Sf.trans (by exact ⟨Or.inl ⟨rfl,rfl⟩⟩) ho hb (Below.size (show Below w.heap.size w _ from by repeat (exact HB1.out)))
 obtain ⟨adr2,cap2,rfl,hl2,hq2⟩:=Sf.reads ho (Kd.C_below HR0_list.out (δr (by repeat (exact HB1.out)) hb)) HC0_list.out
 have HC2:=ζa hl2
 have HRn2:=ζa hq2
 have HS2:=ζa hsf
 clear hl2 hq2 ho hsf
 have m_:=ζa (δr (by repeat (exact HB1.out)) hb)
 clear hb
 have HB2:=m_
 clear m_
 have h:=HH.out
 clear HH
 by_cases cc3:c1=0
 ·
  rw [if_pos cc3] at h
  have HH:=ζa h
  clear h
  have f3a:(c1 == 0)=τ:=beq_iff_eq.mpr cc3
  have f3b:(c1 != 0)=φ:=bne_eq_false_iff_eq.mpr cc3
  have C3:=ζa cc3
  clear cc3
  have h:=HH.out
  clear HH
  obtain ⟨k2,h4_,h⟩:=Option.bind_eq_some_iff.mp h
  have HH:=ζa h
  have H4:=ζa h4_
  clear h h4_
  go_wp2_with fail
  refine (spec_l05Supply.calls denom k2 _ H4.out).mono ?_
  rintro e w4 ⟨rfl,hd⟩
  have hb:=hd.below
  clear hd
  replace HRn2:=ζa (Kd.C_below (by repeat (exact HRn2.out)) hb)
  replace HS2:=ζa (Sf.below (by repeat (exact HS2.out)) hb)
  have m_:=ζa (δr (by repeat (exact HB2.out)) hb)
  clear hb
  have HB4:=m_
  clear m_
  have h:=HH.out
  clear HH
  obtain ⟨⟨o2,c2⟩,h5_,h⟩:=Option.bind_eq_some_iff.mp h
  have HH:=ζa h
  have H5:=ζa h5_
  clear h h5_
  go_wp2_with fail
  refine (spec_l05Add.calls k adr2 cap2 o1 k2 (ζm (-n)) o2 c2 _ (by repeat (exact HRn2.out)) HC2.out H5.out).mono ?_
  rintro e w5 ⟨v5,rfl,ho,hb⟩
  have hsf:=Sf.trans (by repeat (exact HS2.out)) ho hb (Below.size (show Below w.heap.size w _ from by repeat (exact HB4.out)))
  replace HRn2:=ζa (Kd.C_below (by repeat (exact HRn2.out)) hb)
  replace HS2:=ζa (Sf.below (by repeat (exact HS2.out)) hb)
  obtain ⟨adr5,cap5,rfl,hl5,hq5⟩:=Sf.reads ho (HRn2.out) HC2.out
  have HC5:=ζa hl5
  have HRn5:=ζa hq5
  have HS5:=ζa hsf
  clear hl5 hq5 ho hsf
  have m_:=ζa (δr (by repeat (exact HB4.out)) hb)
  clear hb
  have HB5:=m_
  clear m_
  have h:=HH.out
  clear HH
  by_cases cc6:c2=0
  ·
   rw [if_pos cc6] at h
   have HH:=ζa h
   clear h
   have f6a:(c2 == 0)=τ:=beq_iff_eq.mpr cc6
   have f6b:(c2 != 0)=φ:=bne_eq_false_iff_eq.mpr cc6
   have C6:=ζa cc6
   clear cc6
   have h:=HH.out
   clear HH
   simp only [Option.some.injEq,Prod.mk.injEq] at h
   obtain ⟨rfl,rfl⟩:=h
   go_wp2
   go_ret2
   exact ⟨_,rfl,(by repeat (exact HS5.out)),(by repeat (exact HB5.out))⟩
  ·
   rw [if_neg cc6] at h
   have HH:=ζa h
   clear h
   have f6a:(c2 == 0)=φ:=beq_eq_false_iff_ne.mpr cc6
   have f6b:(c2 != 0)=τ:=bne_iff_ne.mpr cc6
   have C6:=ζa cc6
   clear cc6
   have h:=HH.out
   clear HH
   simp only [Option.some.injEq,Prod.mk.injEq] at h
   obtain ⟨rfl,rfl⟩:=h
   go_wp2
   go_ret2
   exact ⟨_,rfl,⟨Or.inl ⟨rfl,rfl⟩⟩,(by repeat (exact HB5.out))⟩
 ·
  rw [if_neg cc3] at h
  have HH:=ζa h
  clear h
  have f3a:(c1 == 0)=φ:=beq_eq_false_iff_ne.mpr cc3
  have f3b:(c1 != 0)=τ:=bne_iff_ne.mpr cc3
  have C3:=ζa cc3
  clear cc3
  have h:=HH.out
  clear HH
  simp only [Option.some.injEq,Prod.mk.injEq] at h
  obtain ⟨rfl,rfl⟩:=h
  go_wp2
  go_ret2
  exact ⟨_,rfl,⟨Or.inl ⟨rfl,rfl⟩⟩,(by repeat (exact HB2.out))⟩



/-! ### spec_l05Mint: function 98 -/
def spec_l05Mint.f (k:Nat) (list:List S51) (account:ByteArray) (denom:ByteArray) (n:Int):Option (List S51 × Int) :=
 (spec_l05Supply.f denom).bind fun q1=>(spec_l05Add.f k list q1 n).bind fun q2=>if q2.2=0 then ((spec_l05Key.f account denom).bind fun q3=>(spec_l05Add.f k q2.1 q3 n).bind fun q4=>if q4.2=0 then (some (q4.1,0)) else (some (list,q4.2))) else (some (list,q2.2))
set_option maxHeartbeats 4000000 in
set_option maxRecDepth 100000 in
theorem spec_l05Mint.calls (k:Nat) (A_list:Option Addr) (c_list:Nat) (list:List S51) (account:ByteArray) (denom:ByteArray) (n:Int) (r1:List S51) (r2:Int) (w:World) (hr0_list:Kd.C k51 w A_list list.length list) (hc0_list:list.length≤c_list) (h:spec_l05Mint.f k list account denom n=some (r1,r2)) :
  Calls Tryz.prog 98 #[.slice A_list list.length c_list,.string account,.string denom,.int .i64 n] w fun e w' => ∃ v0_:Value,e = .returned (.tuple #[v0_,.int .i64 r2])∧Sf w w' (.slice A_list list.length c_list) list v0_ r1∧Below w.heap.size w w':=by
 have HR0_list:=ζa hr0_list
 have HC0_list:=ζa hc0_list
 clear hr0_list hc0_list
 have HB0:=ζa (Below.refl w.heap.size w)
 unfold spec_l05Mint.f at h
 have HH:=ζa h
 clear h
 go_enter Tryz.func98,Tryz.ntmps98
 have h:=HH.out
 clear HH
 obtain ⟨k1,h1_,h⟩:=Option.bind_eq_some_iff.mp h
 have HH:=ζa h
 have H1:=ζa h1_
 clear h h1_
 go_wp2_with fail
 refine (spec_l05Supply.calls denom k1 _ H1.out).mono ?_
 rintro e w1 ⟨rfl,hd⟩
 have hb:=hd.below
 clear hd
 have m_:=ζa (δr (by repeat (exact HB0.out)) hb)
 clear hb
 have HB1:=m_
 clear m_
 have h:=HH.out
 clear HH
 obtain ⟨⟨o1,c1⟩,h2_,h⟩:=Option.bind_eq_some_iff.mp h
 have HH:=ζa h
 have H2:=ζa h2_
 clear h h2_
 go_wp2_with fail
 refine (spec_l05Add.calls k A_list c_list list k1 n o1 c1 _ (by repeat (exact Kd.C_below HR0_list.out HB1.out)) HC0_list.out H2.out).mono ?_
 rintro e w2 ⟨v2,rfl,ho,hb⟩
 have hsf:=Sf.trans (by exact ⟨Or.inl ⟨rfl,rfl⟩⟩) ho hb (Below.size (show Below w.heap.size w _ from by repeat (exact HB1.out)))
 obtain ⟨adr2,cap2,rfl,hl2,hq2⟩:=Sf.reads ho (Kd.C_below HR0_list.out (δr (by repeat (exact HB1.out)) hb)) HC0_list.out
 have HC2:=ζa hl2
 have HRn2:=ζa hq2
 have HS2:=ζa hsf
 clear hl2 hq2 ho hsf
 have m_:=ζa (δr (by repeat (exact HB1.out)) hb)
 clear hb
 have HB2:=m_
 clear m_
 have h:=HH.out
 clear HH
 by_cases cc3:c1=0
 ·
  rw [if_pos cc3] at h
  have HH:=ζa h
  clear h
  have f3a:(c1 == 0)=τ:=beq_iff_eq.mpr cc3
  have f3b:(c1 != 0)=φ:=bne_eq_false_iff_eq.mpr cc3
  have C3:=ζa cc3
  clear cc3
  have h:=HH.out
  clear HH
  obtain ⟨k2,h4_,h⟩:=Option.bind_eq_some_iff.mp h
  have HH:=ζa h
  have H4:=ζa h4_
  clear h h4_
  go_wp2_with fail
  refine (spec_l05Key.calls account denom k2 _ H4.out).mono ?_
  rintro e w4 ⟨rfl,hd⟩
  have hb:=hd.below
  clear hd
  replace HRn2:=ζa (Kd.C_below (by repeat (exact HRn2.out)) hb)
  replace HS2:=ζa (Sf.below (by repeat (exact HS2.out)) hb)
  have m_:=ζa (δr (by repeat (exact HB2.out)) hb)
  clear hb
  have HB4:=m_
  clear m_
  have h:=HH.out
  clear HH
  obtain ⟨⟨o2,c2⟩,h5_,h⟩:=Option.bind_eq_some_iff.mp h
  have HH:=ζa h
  have H5:=ζa h5_
  clear h h5_
  go_wp2_with fail
  refine (spec_l05Add.calls k adr2 cap2 o1 k2 n o2 c2 _ (by repeat (exact HRn2.out)) HC2.out H5.out).mono ?_
  rintro e w5 ⟨v5,rfl,ho,hb⟩
  have hsf:=Sf.trans (by repeat (exact HS2.out)) ho hb (Below.size (show Below w.heap.size w _ from by repeat (exact HB4.out)))
  replace HRn2:=ζa (Kd.C_below (by repeat (exact HRn2.out)) hb)
  replace HS2:=ζa (Sf.below (by repeat (exact HS2.out)) hb)
  obtain ⟨adr5,cap5,rfl,hl5,hq5⟩:=Sf.reads ho (HRn2.out) HC2.out
  have HC5:=ζa hl5
  have HRn5:=ζa hq5
  have HS5:=ζa hsf
  clear hl5 hq5 ho hsf
  have m_:=ζa (δr (by repeat (exact HB4.out)) hb)
  clear hb
  have HB5:=m_
  clear m_
  have h:=HH.out
  clear HH
  by_cases cc6:c2=0
  ·
   rw [if_pos cc6] at h
   have HH:=ζa h
   clear h
   have f6a:(c2 == 0)=τ:=beq_iff_eq.mpr cc6
   have f6b:(c2 != 0)=φ:=bne_eq_false_iff_eq.mpr cc6
   have C6:=ζa cc6
   clear cc6
   have h:=HH.out
   clear HH
   simp only [Option.some.injEq,Prod.mk.injEq] at h
   obtain ⟨rfl,rfl⟩:=h
   go_wp2
   go_ret2
   exact ⟨_,rfl,(by repeat (exact HS5.out)),(by repeat (exact HB5.out))⟩
  ·
   rw [if_neg cc6] at h
   have HH:=ζa h
   clear h
   have f6a:(c2 == 0)=φ:=beq_eq_false_iff_ne.mpr cc6
   have f6b:(c2 != 0)=τ:=bne_iff_ne.mpr cc6
   have C6:=ζa cc6
   clear cc6
   have h:=HH.out
   clear HH
   simp only [Option.some.injEq,Prod.mk.injEq] at h
   obtain ⟨rfl,rfl⟩:=h
   go_wp2
   go_ret2
   exact ⟨_,rfl,⟨Or.inl ⟨rfl,rfl⟩⟩,(by repeat (exact HB5.out))⟩
 ·
  rw [if_neg cc3] at h
  have HH:=ζa h
  clear h
  have f3a:(c1 == 0)=φ:=beq_eq_false_iff_ne.mpr cc3
  have f3b:(c1 != 0)=τ:=bne_iff_ne.mpr cc3
  have C3:=ζa cc3
  clear cc3
  have h:=HH.out
  clear HH
  simp only [Option.some.injEq,Prod.mk.injEq] at h
  obtain ⟨rfl,rfl⟩:=h
  go_wp2
  go_ret2
  exact ⟨_,rfl,⟨Or.inl ⟨rfl,rfl⟩⟩,(by repeat (exact HB2.out))⟩


open Go.Proofs.YtabmfhnhmoiljaaGreatDoorW.PrintWords renaming gate_dst → δx, below_step → δr, below_drew1 → δj
open Go.Proofs.YtabmfhnhmoiljaaGreatDoorW.PrintWords.Kd renaming R_drew → ζe, R_below → ζh
open Go.Proofs.YtabmfhnhmoiljaaGreatDoorW.PrintLast renaming pure_ → ζk

/-! ### spec_l02Fields: function 136 -/
def spec_l02Fields.l0:Nat→List ByteArray→List Int→Int→Option (List Int)
 | 0,_,_,_=>none
 | k+1,l,out,i=>if i<(l.length:Int) then (if 0≤i then (if out.length+2+(rdOf ByteArray.empty l i).size≤140737488355328 then spec_l02Fields.l0 k l (out ++ [((rdOf ByteArray.empty l i).size:Int) / 256 % 256,((rdOf ByteArray.empty l i).size:Int) % 256] ++ bytesOf (rdOf ByteArray.empty l i)) (ζm (i+1)) else none) else none) else some out
def spec_l02Fields.f (k:Nat) (l0:List ByteArray):Option (List Int):=spec_l02Fields.l0 k l0 [(l0.length:Int) % 256] 0
theorem spec_l02Fields.str_step {P:Program} {ops:Array Oper} {o:Oper} {a:Act} {Q:Exit→Act→World→Prop} {Kc:Act→World→Prop} {w0 W:World} (base:Nat)
  (hw:Region.wanted o (yielded ops a.tmps)=τ) (s x:Operand) (t u e:TypeId)
  (ho:o.op = .call { callee:=.builtin .append,args:=#[s,x],argTypes:=#[t,u] })
  (ht:P.underlying t=some (.slice e)) (hu:P.underlying u=some .string) (hinfo:(P.info? e).map (fun i=>(i.zero,i.size,i.bytes))=some (some (.int .u8 0),1,1))
  (v:Value) (xs:List Int) (y:ByteArray) (hs:a.eval s=v) (hx:a.eval x = .string y)
  (HO:W.ownsRow base e 1 v xs.length (nums .u8 xs)) (HB:Below base w0 W) (hbase:base≤W.heap.size) (hl:xs.length+y.size≤140737488355328)
  (h : ∀ v1 w1,w1.ownsRow base e 1 v1 (xs ++ bytesOf y).length (nums .u8 (xs ++ bytesOf y))→Below base w0 w1→W.grownBy w1 v.ownBlock→Kc (a.put o.dst v1) w1) :
  if Region.wanted o (yielded ops a.tmps)=τ then Oper.wp P o a W Kc Q else Kc (a.put o.dst undef) W:=by
 rw [if_pos hw]
 obtain ⟨i0,hi,hzz⟩:=Option.map_eq_some_iff.1 hinfo
 simp only [Prod.mk.injEq] at hzz
 obtain ⟨hz0,hz1,hz2⟩:=hzz
 obtain ⟨v1,w1,hr,h2,h3,h4⟩:=Lib.run_append_own_string (P:=P) (w:=W) base t u o.type e i0 ht hu hi hz0 hz1 hz2 v xs.length (nums .u8 xs) HO y (by simp only [maxLen];omega) hl hbase
 have hl2:(xs ++ bytesOf y).length=xs.length+y.size:=by rw [List.length_append,bytesOf_length]
 have hc:nums .u8 (xs ++ bytesOf y)=nums .u8 xs ++ Lib.strCells y:=by
  rw [nums_append]
  congr 1
  simp [nums,bytesOf,Lib.strCells]
 unfold Oper.wp execOp
 simp only [ho,resolve,invoke,builtin,Sem.run_bind,Sem.run_pure,Result.andThen_ok,δd,δe,δf,hs,hx,hr]
 exact h v1 w1 (by rw [hl2,hc];exact h2) (HB.grown h3 hbase (own_base HO)) h3
set_option maxHeartbeats 8000000 in
set_option maxRecDepth 100000 in
theorem spec_l02Fields.calls (k:Nat) (A0:Option Addr) (c0:Nat) (l0:List ByteArray) (r:List Int) (w:World) (hr0:Kd.C Kd.string w A0 l0.length l0) (hc0:l0.length≤c0) (h:spec_l02Fields.f k l0=some r) :
  Calls Tryz.prog 136 #[.slice A0 l0.length c0] w fun e w' => ∃ v0_:Value,e = .returned (v0_)∧Kd.R (Kd.int .u8) 5 w' w.heap.size (fun _=>True) v0_ r∧Below w.heap.size w w':=by
 have HR0:=ζa hr0
 clear hr0 hc0
 have HB:=ζa (Below.refl w.heap.size w)
 have H':=ζa (show spec_l02Fields.l0 k l0 [(l0.length:Int) % 256] 0=some r from h)
 clear h
 go_enter Tryz.func136,Tryz.ntmps136
 go_wp2_with (((with_reducible refine δx (N:=8) rfl ?_);refine Kd.R_lit (Kd.int .u8) _ 5 ?hg (N:=8) ?hd (xs:=([(l0.length:Int) % 256]:List Int)) (inner:=[.int .u8 ((l0.length:Int) % 256)]) (ok:=fun _=>True) (okp:=fun _=>True) ?hr ?hp (fun _ hk=>hk) trivial (Below.refl _ _) (Nat.le_refl _) (by simp) ?_;(case hd=>rfl);(case hg=>rfl);(case hr=>(go_simp;done));(case hp=>exact (Reps.one (show Kd.M (Kd.int .u8) _ _ _ ((l0.length:Int) % 256) [.int .u8 ((l0.length:Int) % 256)] from rfl) (Reps.none _ _)));intro v8 w8 ho8 hb8 hg_ hnew_;clear hg_ hnew_;have HO:=ζa ho8;have n1_:=ζa (δr HB.out hb8);clear HB;have HB:=n1_;clear n1_ hb8 ho8))
 go_loopg [3,4] k (fun kq v3 v4 w' => ∃ (out:List Int) (i:Int),v4 = .int .i64 i∧Aside0 (spec_l02Fields.l0 kq l0 out i=some r)∧Aside0 (kq≤k)∧Aside0 (Kd.R (Kd.int .u8) 5 w' w.heap.size (fun _=>True) v3 out)∧Aside0 (Below w.heap.size w w'))
 case atStart=>exact ⟨_,0,rfl,H',⟨Nat.le_refl _⟩,HO,HB⟩
 case round =>
  clear H' HO HB
  obtain ⟨out,i,rfl,HA,HK1,HO,HB⟩:=hrel
  cases gk with
  | zero=>exact absurd HA.out (by simp [spec_l02Fields.l0])
  | succ k1 =>
   have H:=HA.out
   clear HA
   simp only [spec_l02Fields.l0] at H
   by_cases c2:i<(l0.length:Int)
   ·
    rw [if_pos c2] at H
    by_cases c3:0≤i
    ·
     rw [if_pos c3] at H
     by_cases c4:out.length+2+(rdOf ByteArray.empty l0 i).size≤140737488355328
     ·
      rw [if_pos c4] at H
      have HN:=ζa H
      clear H
      obtain ⟨ad,e1,hx0⟩:=Kd.at_string HR0.out i c3 c2
      cases e1
      have hxw:=hx0
      replace hx0:=(HB.out.cell (World.block_lt_of_cell? w _ hx0)).trans hx0
      have c2b0:decide (i<(l0.length:Int))=τ:=decide_eq_true c2
      generalize ht:rdOf ByteArray.empty l0 i=t at *
      go_wp2
      have c3b:decide (0≤i)=τ:=decide_eq_true c3
      have HB1:=ζa (δj HB.out)
      have HO1:=ζa (ζe HO.out)
      clear HB HO
      refine start_ (n:=22) (S:=fun w'=>w'.cell? (ad.add i.toNat)=some (.string t)) (ds:=[]) #[φ,φ,φ,φ,φ,φ,φ,φ,φ,φ,φ,φ,φ,φ,φ,φ,φ,φ,φ,φ,φ,φ] (by kernel_rfl) rfl rfl (show wr.drew.cell? (ad.add i.toNat)=some (.string t) from hx0) (fun hHeld => ?_)
      generalize wr.drew=w13 at HB1 HO1 hHeld ⊢
      refine ζk (i:=0) (N:=some 15) (v:=?_) (a':=?_) #[τ,φ,φ,φ,φ,φ,φ,φ,φ,φ,φ,φ,φ,φ,φ,φ,φ,φ,φ,φ,φ,φ] rfl rfl (by kernel_rfl) (fun _ _ _ h=>h) (Or.inl ⟨by rfl,?_⟩) ?_ ?_
      rotate_left
      · intro w';go_simp;with_reducible rfl
      rotate_left
      · simp only [ζl,δa,δb,δc,i64_w,i32_w];rfl
      refine ζk (i:=1) (N:=some 16) (v:=?_) (a':=?_) #[τ,τ,φ,φ,φ,φ,φ,φ,φ,φ,φ,φ,φ,φ,φ,φ,φ,φ,φ,φ,φ,φ] rfl rfl (by kernel_rfl) (fun _ _ _ h=>h) (Or.inl ⟨by rfl,?_⟩) ?_ ?_
      rotate_left
      · intro w';go_simp;with_reducible rfl
      rotate_left
      · simp only [ζl,δa,δb,δc,i64_w,i32_w];rfl
      refine ζk (i:=2) (N:=some 17) (v:=?_) (a':=?_) #[τ,τ,τ,φ,φ,φ,φ,φ,φ,φ,φ,φ,φ,φ,φ,φ,φ,φ,φ,φ,φ,φ] rfl rfl (by kernel_rfl) (fun _ _ _ h=>h) (Or.inl ⟨by rfl,?_⟩) ?_ ?_
      rotate_left
      · intro w';go_simp;with_reducible rfl
      rotate_left
      · simp only [ζl,δa,δb,δc,i64_w,i32_w];rfl
      refine ζk (i:=3) (N:=some 18) (v:=?_) (a':=?_) #[τ,τ,τ,τ,φ,φ,φ,φ,φ,φ,φ,φ,φ,φ,φ,φ,φ,φ,φ,φ,φ,φ] rfl rfl (by kernel_rfl) (fun _ _ _ h=>h) (Or.inl ⟨by rfl,?_⟩) ?_ ?_
      rotate_left
      · intro w';go_simp;with_reducible rfl
      rotate_left
      · simp only [ζl,δa,δb,δc,i64_w,i32_w];rfl
      refine take_ (i:=4) (N:=some 19) (v:=?_) (a':=?_) #[τ,τ,τ,τ,τ,φ,φ,φ,φ,φ,φ,φ,φ,φ,φ,φ,φ,φ,φ,φ,φ,φ] rfl rfl (by kernel_rfl) (fun _ _ _ h=>h) (Or.inl ⟨by rfl,?_⟩) hHeld ?_ ?_
      rotate_left
      ·
       intro w' s0
       go_simp
       with_reducible rfl
      rotate_left
      · simp only [ζl,δa,δb,δc,i64_w,i32_w];rfl
      refine ζk (i:=5) (N:=some 20) (v:=?_) (a':=?_) #[τ,τ,τ,τ,τ,τ,φ,φ,φ,φ,φ,φ,φ,φ,φ,φ,φ,φ,φ,φ,φ,φ] rfl rfl (by kernel_rfl) (fun _ _ _ h=>h) (Or.inl ⟨by rfl,?_⟩) ?_ ?_
      rotate_left
      · intro w';go_simp;with_reducible rfl
      rotate_left
      · simp only [ζl,δa,δb,δc,i64_w,i32_w];rfl
      refine ζk (i:=6) (N:=some 21) (v:=?_) (a':=?_) #[τ,τ,τ,τ,τ,τ,τ,φ,φ,φ,φ,φ,φ,φ,φ,φ,φ,φ,φ,φ,φ,φ] rfl rfl (by kernel_rfl) (fun _ _ _ h=>h) (Or.inl ⟨by rfl,?_⟩) ?_ ?_
      rotate_left
      · intro w';go_simp;with_reducible rfl
      rotate_left
      · simp only [ζl,δa,δb,δc,i64_w,i32_w];rfl
      refine ζk (i:=7) (N:=some 22) (v:=?_) (a':=?_) #[τ,τ,τ,τ,τ,τ,τ,τ,φ,φ,φ,φ,φ,φ,φ,φ,φ,φ,φ,φ,φ,φ] rfl rfl (by kernel_rfl) (fun _ _ _ h=>h) (Or.inl ⟨by rfl,?_⟩) ?_ ?_
      rotate_left
      · intro w';go_simp;with_reducible rfl
      rotate_left
      · simp only [ζl,δa,δb,δc,i64_w,i32_w];rfl
      refine ζk (i:=8) (N:=some 23) (v:=?_) (a':=?_) #[τ,τ,τ,τ,τ,τ,τ,τ,τ,φ,φ,φ,φ,φ,φ,φ,φ,φ,φ,φ,φ,φ] rfl rfl (by kernel_rfl) (fun _ _ _ h=>h) (Or.inl ⟨by rfl,?_⟩) ?_ ?_
      rotate_left
      · intro w';go_simp;with_reducible rfl
      rotate_left
      · simp only [ζl,δa,δb,δc,i64_w,i32_w];rfl
      refine ζk (i:=9) (N:=some 24) (v:=?_) (a':=?_) #[τ,τ,τ,τ,τ,τ,τ,τ,τ,τ,φ,φ,φ,φ,φ,φ,φ,φ,φ,φ,φ,φ] rfl rfl (by kernel_rfl) (fun _ _ _ h=>h) (Or.inl ⟨by rfl,?_⟩) ?_ ?_
      rotate_left
      · intro w';go_simp;with_reducible rfl
      rotate_left
      · simp only [ζl,δa,δb,δc,i64_w,i32_w];rfl
      refine ζk (i:=10) (N:=some 25) (v:=?_) (a':=?_) #[τ,τ,τ,τ,τ,τ,τ,τ,τ,τ,τ,φ,φ,φ,φ,φ,φ,φ,φ,φ,φ,φ] rfl rfl (by kernel_rfl) (fun _ _ _ h=>h) (Or.inl ⟨by rfl,?_⟩) ?_ ?_
      rotate_left
      · intro w';go_simp;with_reducible rfl
      rotate_left
      · simp only [ζl,δa,δb,δc,i64_w,i32_w];rfl
      refine take_ (i:=11) (N:=some 26) (v:=?_) (a':=?_) #[τ,τ,τ,τ,τ,τ,τ,τ,τ,τ,τ,τ,φ,φ,φ,φ,φ,φ,φ,φ,φ,φ] rfl rfl (by kernel_rfl) (fun _ _ _ h=>h) (Or.inl ⟨by rfl,?_⟩) hHeld ?_ ?_
      rotate_left
      ·
       intro w' s0
       go_simp
       with_reducible rfl
      rotate_left
      · simp only [ζl,δa,δb,δc,i64_w,i32_w];rfl
      refine ζk (i:=12) (N:=some 27) (v:=?_) (a':=?_) #[τ,τ,τ,τ,τ,τ,τ,τ,τ,τ,τ,τ,τ,φ,φ,φ,φ,φ,φ,φ,φ,φ] rfl rfl (by kernel_rfl) (fun _ _ _ h=>h) (Or.inl ⟨by rfl,?_⟩) ?_ ?_
      rotate_left
      · intro w';go_simp;with_reducible rfl
      rotate_left
      · simp only [ζl,δa,δb,δc,i64_w,i32_w];rfl
      refine ζk (i:=13) (N:=some 28) (v:=?_) (a':=?_) #[τ,τ,τ,τ,τ,τ,τ,τ,τ,τ,τ,τ,τ,τ,φ,φ,φ,φ,φ,φ,φ,φ] rfl rfl (by kernel_rfl) (fun _ _ _ h=>h) (Or.inl ⟨by rfl,?_⟩) ?_ ?_
      rotate_left
      · intro w';go_simp;with_reducible rfl
      rotate_left
      · simp only [ζl,δa,δb,δc,i64_w,i32_w];rfl
      refine ζk (i:=16) (N:=some 31) (v:=?_) (a':=?_) #[τ,τ,τ,τ,τ,τ,τ,τ,τ,τ,τ,τ,τ,τ,φ,φ,τ,φ,φ,φ,φ,φ] rfl rfl (by kernel_rfl) (fun _ _ _ h=>h) (Or.inl ⟨by rfl,?_⟩) ?_ ?_
      rotate_left
      · intro w';go_simp;with_reducible rfl
      rotate_left
      · simp only [ζl,δa,δb,δc,i64_w,i32_w];rfl
      refine ζk (i:=17) (N:=some 32) (v:=?_) (a':=?_) #[τ,τ,τ,τ,τ,τ,τ,τ,τ,τ,τ,τ,τ,τ,φ,φ,τ,τ,φ,φ,φ,φ] rfl rfl (by kernel_rfl) (fun _ _ _ h=>h) (Or.inl ⟨by rfl,?_⟩) ?_ ?_
      rotate_left
      · intro w';go_simp;with_reducible rfl
      rotate_left
      · simp only [ζl,δa,δb,δc,i64_w,i32_w];rfl
      refine ζk (i:=18) (N:=some 33) (v:=?_) (a':=?_) #[τ,τ,τ,τ,τ,τ,τ,τ,τ,τ,τ,τ,τ,τ,φ,φ,τ,τ,τ,φ,φ,φ] rfl rfl (by kernel_rfl) (fun _ _ _ h=>h) (Or.inl ⟨by rfl,?_⟩) ?_ ?_
      rotate_left
      · intro w';go_simp;with_reducible rfl
      rotate_left
      · simp only [ζl,δa,δb,δc,i64_w,i32_w];rfl
      refine take_ (i:=19) (N:=some 34) (v:=?_) (a':=?_) #[τ,τ,τ,τ,τ,τ,τ,τ,τ,τ,τ,τ,τ,τ,φ,φ,τ,τ,τ,τ,φ,φ] rfl rfl (by kernel_rfl) (fun _ _ _ h=>h) (Or.inl ⟨by rfl,?_⟩) hHeld ?_ ?_
      rotate_left
      ·
       intro w' s0
       go_simp
       with_reducible rfl
      rotate_left
      · simp only [ζl,δa,δb,δc,i64_w,i32_w];rfl
      have e1:IntKind.u8.wrap (ζm ((t.size:Int) / 256))=(t.size:Int) / 256 % 256:=by rw [IntWalk.wrap64_in _ (by omega)];simp [IntKind.wrap,IntKind.bits,IntKind.signed]
      have e2:IntKind.u8.wrap (t.size:Int)=(t.size:Int) % 256:=by simp [IntKind.wrap,IntKind.bits,IntKind.signed]
      rw [e1,e2]
      generalize (t.size:Int) / 256 % 256=pa at *
      generalize (t.size:Int) % 256=pb at *
      refine one_ (i:=14) (N:=some 29) #[τ,τ,τ,τ,τ,τ,τ,τ,τ,τ,τ,τ,τ,τ,τ,φ,τ,τ,τ,τ,φ,φ] rfl rfl (by kernel_rfl) (by decide) (fun K hK => ?_)
      refine Kd.R_lit_step (Kd.int .u8) _ 5 ?hg (N:=29) ?hd (xs:=([pa,pb]:List Int)) (inner:=[.int .u8 pa,.int .u8 pb]) (ok:=fun _=>True) (okp:=fun _=>False) ?hr ?hp (fun _ hk=>trivial) trivial (Below.refl _ _) (Nat.le_refl _) (by simp) ?_
      case hd=>rfl
      case hg=>rfl
      case hr=>(go_simp;done)
      case hp=>exact Reps.one (show Kd.M (Kd.int .u8) _ _ _ pa [.int .u8 pa] from rfl) (Reps.one (show Kd.M (Kd.int .u8) _ _ _ pb [.int .u8 pb] from rfl) (Reps.none _ _))
      intro v29 w29 ho29 hb29 hg29 _
      obtain ⟨A2,c29,rfl,_,HR2⟩:=Kd.R_reads ho29
      have HO2:=ζa (ζh HO1.out hb29)
      have HB2:=ζa (δr HB1.out hb29)
      have hs2:w29.cell? (ad.add i.toNat)=some (.string t):=(hb29.cell (World.block_lt_of_cell? w13 _ hHeld)).trans hHeld
      clear HO1 HB1 hHeld hg29
      refine hK.out _ _ hs2 (fun hHeld => ?_)
      clear hK K hs2
      refine norm_ (a':=?_) ?_ ?_
      rotate_left
      ·
       show ζl _ (some 29) _=_
       simp only [ζl,δa,δb,δc,i64_w,i32_w];rfl
      refine one_ (i:=15) (N:=some 30) #[τ,τ,τ,τ,τ,τ,τ,τ,τ,τ,τ,τ,τ,τ,τ,τ,τ,τ,τ,τ,φ,φ] rfl rfl (by kernel_rfl) (by decide) (fun K hK => ?_)
      refine Kd.R_append_rows_step (Kd.int .u8) (w0:=w) w.heap.size (by rfl) (.tmp 15) (.tmp 29) 82 5 (.int .u8 0) 1 rfl Tryz.underlying82 (by kernel_rfl) rfl (by decide) (by decide) u3 out [pa,pb] A2 2 c29 (fun _=>True) (fun _=>False) rfl rfl HO2.out HR2 (fun _ _ h=>h) (fun _ h=>h.elim) (fun _ _=>trivial) HB2.out HB2.out.size (by omega) ?_
      intro v30 w30 ho30 hb30 hg30 _
      have hs3:w30.cell? (ad.add i.toNat)=some (.string t):=(hb30.cell (World.block_lt_of_cell? w _ hxw)).trans hxw
      clear HO2 HB2 hHeld HR2
      refine hK.out _ _ hs3 (fun hHeld => ?_)
      clear hK K hs3
      refine norm_ (a':=?_) ?_ ?_
      rotate_left
      ·
       show ζl _ (some 30) _=_
       simp only [ζl,δa,δb,δc,i64_w,i32_w];rfl
      refine one_ (i:=20) (N:=some 35) #[τ,τ,τ,τ,τ,τ,τ,τ,τ,τ,τ,τ,τ,τ,τ,τ,τ,τ,τ,τ,τ,φ] rfl rfl (by kernel_rfl) (by decide) (fun K hK => ?_)
      have hl3:(out ++ [pa,pb]).length+t.size≤140737488355328:=by rw [List.length_append];exact c4
      refine spec_l02Fields.str_step (w0:=w) w.heap.size (by rfl) (.tmp 30) (.tmp 34) 82 9 5 rfl Tryz.underlying82 Tryz.underlying9 (by kernel_rfl) v30 (out ++ [pa,pb]) t rfl rfl (Kd.own_of_R ho30) hb30 hb30.size hl3 ?_
      intro v35 w35 ho35 hb35 hg35
      have hs4:w35.cell? (ad.add i.toNat)=some (.string t):=(hb35.cell (World.block_lt_of_cell? w _ hxw)).trans hxw
      clear ho30 hb30 hHeld hg35
      refine hK.out _ _ hs4 (fun hHeld => ?_)
      clear hK K hs4
      refine norm_ (a':=?_) ?_ ?_
      rotate_left
      ·
       show ζl _ (some 35) _=_
       simp only [ζl,δa,δb,δc,i64_w,i32_w];rfl
      refine ζk (i:=21) (N:=some 3) (v:=?_) (a':=?_) #[τ,τ,τ,τ,τ,τ,τ,τ,τ,τ,τ,τ,τ,τ,τ,τ,τ,τ,τ,τ,τ,τ] rfl rfl (by kernel_rfl) (fun _ _ _ h=>h) (Or.inl ⟨by rfl,?_⟩) ?_ ?_
      rotate_left
      · intro w';go_simp;with_reducible rfl
      rotate_left
      · simp only [ζl,δa,δb,δc,i64_w,i32_w];rfl
      refine done_ (by kernel_rfl) ?_
      try go_wp2
      go_roundg k1
      case measure=>omega
      case rel=>exact ⟨_,_,rfl,HN,⟨by have:=HK1.out;omega⟩,⟨Kd.R_of_own ho35 (fun _ _=>trivial)⟩,⟨hb35⟩⟩
     · rw [if_neg c4] at H;cases H
    ·
     rw [if_neg c3] at H;cases H
   ·
    rw [if_neg c2] at H
    have c2b0:decide (i<(l0.length:Int))=φ:=decide_eq_false c2
    clear c2
    obtain rfl:=Option.some.inj H
    go_wp2
    go_ret
    exact ⟨_,rfl,HO.out,HB.out⟩


open Go.Proofs.YtabmfhnhmoiljaaGreatDoorW.PrintWords renaming gate_dst → δx, box_event → δz, below_step → δr, blk_cell → δl, blk_frozen → δm, blk_drew → δp, below_drew1 → δj
open Go.Proofs.YtabmfhnhmoiljaaGreatDoorW.PrintWords.Kd renaming R_reads' → ζg

/-! ### spec_l10Put: function 174 -/
def spec_l10Put.f (k:Nat) (list:List S51) (p_0:Int) (p_1:Int) (p_2:Int):Option (List S51 × Int) :=
 (spec_l00Digits.f k p_0).bind fun q1=>(spec_l00Digits.f k p_1).bind fun q2=>(spec_l00Digits.f k p_2).bind fun q3=>(spec_l02Fields.f k [q1,q2,q3]).bind fun t4=>(spec_l03Put.f k list ((⟨#[112]⟩:ByteArray)) (strOfNums t4)).bind fun q4=>some (q4.1,q4.2)
def spec_l10Put.T1:Bool × List (List Nat × List Nat):=(τ,[([],[]),([],[]),([1],[1]),([2],[2]),([],[]),([4],[4]),([5,3],[5]),([],[]),([7],[7]),([8,6],[8]),([3,6,9],[3,6,9]),([10,9],[10]),([11],[11]),([0,12,11],[0,12]),([13],[13]),([13],[13]),([14,13,0,1,2,3,4,5,6,7,8,9,10,11,12,13,14,15],[14]),([15,16,0,1,2,3,4,5,6,7,8,9,10,11,12,13,14,15,16],[15])])
def spec_l10Put.B1:List Nat:=[0,0,2,6,0,16,62,0,128,510,1022,2046,4094,8191,16383,16383,65535,131071]
theorem spec_l10Put.tab1:rtab .any (opsOf Tryz.f174 1)=spec_l10Put.T1:=by kernel_rfl
theorem spec_l10Put.bits1:waitsOk spec_l10Put.T1.2 spec_l10Put.B1=τ:=by kernel_rfl
set_option maxHeartbeats 4000000 in
set_option maxRecDepth 100000 in
theorem spec_l10Put.calls (k:Nat) (A_list:Option Addr) (c_list:Nat) (list:List S51) (p_0:Int) (p_1:Int) (p_2:Int) (r1:List S51) (r2:Int) (w:World) (hr0_list:Kd.C k51 w A_list list.length list) (hc0_list:list.length≤c_list) (h:spec_l10Put.f k list p_0 p_1 p_2=some (r1,r2)) :
  Calls Tryz.prog 174 #[.slice A_list list.length c_list,.agg #[.int .i64 p_0,.int .i64 p_1,.int .i64 p_2]] w fun e w' => ∃ v0_:Value,e = .returned (.tuple #[v0_,.int .i64 r2])∧Sf w w' (.slice A_list list.length c_list) list v0_ r1∧Below w.heap.size w w':=by
 have HR0_list:=ζa hr0_list
 have HC0_list:=ζa hc0_list
 clear hr0_list hc0_list
 have HB0:=ζa (Below.refl w.heap.size w)
 unfold spec_l10Put.f at h
 have HH:=ζa h
 clear h
 go_enter Tryz.func174,Tryz.ntmps174
 have h:=HH.out
 clear HH
 obtain ⟨t1,h2_,h⟩:=Option.bind_eq_some_iff.mp h
 have HH:=ζa h
 have H2:=ζa h2_
 clear h h2_
 have h:=HH.out
 clear HH
 obtain ⟨t2,h3_,h⟩:=Option.bind_eq_some_iff.mp h
 have HH:=ζa h
 have H3:=ζa h3_
 clear h h3_
 have h:=HH.out
 clear HH
 obtain ⟨t3,h4_,h⟩:=Option.bind_eq_some_iff.mp h
 have HH:=ζa h
 have H4:=ζa h4_
 clear h h4_
 have h:=HH.out
 clear HH
 obtain ⟨t4,h9_,h⟩:=Option.bind_eq_some_iff.mp h
 have HH:=ζa h
 have H9:=ζa h9_
 clear h h9_
 have h:=HH.out
 clear HH
 obtain ⟨⟨o2,c2⟩,h5_,h⟩:=Option.bind_eq_some_iff.mp h
 have HH:=ζa h
 have H5:=ζa h5_
 clear h h5_
 go_wp2_with (((with_reducible refine δx (N:=3) rfl ?_);refine δz ?hg (N:=3) ?hd (cs:=#[.int .i64 p_0,.int .i64 p_1,.int .i64 p_2]) (t:=109) ?hr ?_;(case hd=>rfl);(case hg=>rfl);(case hr=>(go_simp;done));intro gbp hg w1 hbox hb;have hbc:=δr (show Below w.heap.size w _ from by repeat (exact Below.refl _ _)) hb;have GEp:Aside0 (w.heap.size≤gbp):=⟨by rw [hg];exact Below.size (show Below w.heap.size w _ from by repeat (exact Below.refl _ _))⟩;have GWp:Aside0 (w.heap.size≤gbp):=⟨Nat.le_trans HB0.out.size GEp.out⟩;have BKp:=ζa hbox;have HB1:=ζa (δr HB0.out hbc);clear hb hbc hbox hg;have hzp_0:=(δl BKp.out 0).trans rfl;have hzp_1:=(δl BKp.out 1).trans rfl;have hzp_2:=(δl BKp.out 2).trans rfl;have hfp_0:=δm BKp.out 0;have hfp_1:=δm BKp.out 1;have hfp_2:=δm BKp.out 2))
 have HBr:=ζa HB1.out
 try go_wp2
 have n0_:=ζa (δp BKp.out)
 have n1_:=ζa (δj HBr.out)
 clear BKp HBr
 have BKp:=n0_
 have HBr:=n1_
 clear n0_ n1_
 clear hzp_0 hfp_0 hzp_1 hfp_1 hzp_2 hfp_2
 refine start_ (n:=18) (S:=fun w'=>w'.cell? ⟨gbp,0,none⟩=some (.int .i64 p_0)∧w'.cell? ⟨gbp,1,none⟩=some (.int .i64 p_1)∧w'.cell? ⟨gbp,2,none⟩=some (.int .i64 p_2)) (ds:=[]) #[φ,φ,φ,φ,φ,φ,φ,φ,φ,φ,φ,φ,φ,φ,φ,φ,φ,φ] (by kernel_rfl) rfl rfl ⟨(δl BKp.out 0).trans rfl,(δl BKp.out 1).trans rfl,(δl BKp.out 2).trans rfl⟩ (fun hHeld => ?_);refine with_tabW spec_l10Put.tab1 spec_l10Put.bits1 (fun HT_ HW_ => ?_)
 generalize w1.drew=wd_ at BKp HBr hHeld ⊢
 refine ζk (i:=0) (N:=some 6) (v:=?_) (a':=?_) #[τ,φ,φ,φ,φ,φ,φ,φ,φ,φ,φ,φ,φ,φ,φ,φ,φ,φ] rfl rfl (ζj HT_.out (by kernel_rfl)) (fun _ _ _ h=>h) (Or.inl ⟨by rfl,?_⟩) ?_ ?_
 rotate_left
 · intro w';go_simp;with_reducible rfl
 rotate_left
 · simp only [ζl,δa,δb,δc,i64_w,i32_w];rfl
 refine ζk (i:=1) (N:=some 7) (v:=?_) (a':=?_) #[τ,τ,φ,φ,φ,φ,φ,φ,φ,φ,φ,φ,φ,φ,φ,φ,φ,φ] rfl rfl (ζj HT_.out (by kernel_rfl)) (fun _ _ _ h=>h) (Or.inl ⟨by rfl,?_⟩) ?_ ?_
 rotate_left
 · intro w';go_simp;with_reducible rfl
 rotate_left
 · simp only [ζl,δa,δb,δc,i64_w,i32_w];rfl
 refine ζk (i:=4) (N:=some 10) (v:=?_) (a':=?_) #[τ,τ,φ,φ,τ,φ,φ,φ,φ,φ,φ,φ,φ,φ,φ,φ,φ,φ] rfl rfl (ζj HT_.out (by kernel_rfl)) (fun _ _ _ h=>h) (Or.inl ⟨by rfl,?_⟩) ?_ ?_
 rotate_left
 · intro w';go_simp;with_reducible rfl
 rotate_left
 · simp only [ζl,δa,δb,δc,i64_w,i32_w];rfl
 refine ζk (i:=7) (N:=some 13) (v:=?_) (a':=?_) #[τ,τ,φ,φ,τ,φ,φ,τ,φ,φ,φ,φ,φ,φ,φ,φ,φ,φ] rfl rfl (ζj HT_.out (by kernel_rfl)) (fun _ _ _ h=>h) (Or.inl ⟨by rfl,?_⟩) ?_ ?_
 rotate_left
 · intro w';go_simp;with_reducible rfl
 rotate_left
 · simp only [ζl,δa,δb,δc,i64_w,i32_w];rfl
 refine take_ (i:=2) (N:=some 8) (v:=?_) (a':=?_) #[τ,τ,τ,φ,τ,φ,φ,τ,φ,φ,φ,φ,φ,φ,φ,φ,φ,φ] rfl rfl (take_ofW HT_.out HW_.out (by kernel_rfl)) (fun _ _ _ h=>h) (Or.inl ⟨by rfl,?_⟩) hHeld ?_ ?_
 rotate_left
 · rintro w' ⟨s0,s1,s2⟩;go_simp;with_reducible rfl
 rotate_left
 · simp only [ζl,δa,δb,δc,i64_w,i32_w];rfl
 refine take_ (i:=5) (N:=some 11) (v:=?_) (a':=?_) #[τ,τ,τ,φ,τ,τ,φ,τ,φ,φ,φ,φ,φ,φ,φ,φ,φ,φ] rfl rfl (take_ofW HT_.out HW_.out (by kernel_rfl)) (fun _ _ _ h=>h) (Or.inl ⟨by rfl,?_⟩) hHeld ?_ ?_
 rotate_left
 · rintro w' ⟨s0,s1,s2⟩;go_simp;with_reducible rfl
 rotate_left
 · simp only [ζl,δa,δb,δc,i64_w,i32_w];rfl
 refine take_ (i:=8) (N:=some 14) (v:=?_) (a':=?_) #[τ,τ,τ,φ,τ,τ,φ,τ,τ,φ,φ,φ,φ,φ,φ,φ,φ,φ] rfl rfl (take_ofW HT_.out HW_.out (by kernel_rfl)) (fun _ _ _ h=>h) (Or.inl ⟨by rfl,?_⟩) hHeld ?_ ?_
 rotate_left
 · rintro w' ⟨s0,s1,s2⟩;go_simp;with_reducible rfl
 rotate_left
 · simp only [ζl,δa,δb,δc,i64_w,i32_w];rfl
 refine one_ (i:=3) (N:=some 9) #[τ,τ,τ,τ,τ,τ,φ,τ,τ,φ,φ,φ,φ,φ,φ,φ,φ,φ] rfl rfl (one_of HT_.out (by kernel_rfl)) (by decide) (fun K hK => ?_)
 refine goes_ Tryz.func137 (by kernel_rfl) rfl #[.int .i64 p_0] (by rfl) rfl rfl (by (try simp only [δd,δe,δf]);rfl) ?_
 with_reducible refine (spec_l00Digits.calls k p_0 t1 _ H2.out).mono ?_
 rintro e w_ ⟨rfl,hb⟩
 refine ⟨_,rfl,?_⟩
 replace BKp:=ζa (blk_below (by repeat (exact BKp.out)) hb)
 replace HBr:=ζa (δr (by repeat (exact HBr.out)) hb)
 clear hb
 refine hK.out _ _ ⟨(δl BKp.out 0).trans rfl,(δl BKp.out 1).trans rfl,(δl BKp.out 2).trans rfl⟩ (fun hHeld => ?_)
 clear hK K
 refine norm_ (a':=?_) ?_ ?_
 rotate_left
 ·
  show ζl _ (some 9) _=_
  simp only [ζl,δa,δb,δc,i64_w,i32_w];rfl
 refine one_ (i:=6) (N:=some 12) #[τ,τ,τ,τ,τ,τ,τ,τ,τ,φ,φ,φ,φ,φ,φ,φ,φ,φ] rfl rfl (one_of HT_.out (by kernel_rfl)) (by decide) (fun K hK => ?_)
 refine goes_ Tryz.func137 (by kernel_rfl) rfl #[.int .i64 p_1] (by rfl) rfl rfl (by (try simp only [δd,δe,δf]);rfl) ?_
 with_reducible refine (spec_l00Digits.calls k p_1 t2 _ H3.out).mono ?_
 rintro e w_ ⟨rfl,hb⟩
 refine ⟨_,rfl,?_⟩
 replace BKp:=ζa (blk_below (by repeat (exact BKp.out)) hb)
 replace HBr:=ζa (δr (by repeat (exact HBr.out)) hb)
 clear hb
 refine hK.out _ _ ⟨(δl BKp.out 0).trans rfl,(δl BKp.out 1).trans rfl,(δl BKp.out 2).trans rfl⟩ (fun hHeld => ?_)
 clear hK K
 refine norm_ (a':=?_) ?_ ?_
 rotate_left
 ·
  show ζl _ (some 12) _=_
  simp only [ζl,δa,δb,δc,i64_w,i32_w];rfl
 refine one_ (i:=9) (N:=some 15) #[τ,τ,τ,τ,τ,τ,τ,τ,τ,τ,φ,φ,φ,φ,φ,φ,φ,φ] rfl rfl (one_of HT_.out (by kernel_rfl)) (by decide) (fun K hK => ?_)
 refine goes_ Tryz.func137 (by kernel_rfl) rfl #[.int .i64 p_2] (by rfl) rfl rfl (by (try simp only [δd,δe,δf]);rfl) ?_
 with_reducible refine (spec_l00Digits.calls k p_2 t3 _ H4.out).mono ?_
 rintro e w_ ⟨rfl,hb⟩
 refine ⟨_,rfl,?_⟩
 replace BKp:=ζa (blk_below (by repeat (exact BKp.out)) hb)
 replace HBr:=ζa (δr (by repeat (exact HBr.out)) hb)
 clear hb
 refine hK.out _ _ ⟨(δl BKp.out 0).trans rfl,(δl BKp.out 1).trans rfl,(δl BKp.out 2).trans rfl⟩ (fun hHeld => ?_)
 clear hK K
 refine norm_ (a':=?_) ?_ ?_
 rotate_left
 ·
  show ζl _ (some 15) _=_
  simp only [ζl,δa,δb,δc,i64_w,i32_w];rfl
 refine one_ (i:=10) (N:=some 16) #[τ,τ,τ,τ,τ,τ,τ,τ,τ,τ,τ,φ,φ,φ,φ,φ,φ,φ] rfl rfl (one_of HT_.out (by kernel_rfl)) (by decide) (fun K hK => ?_)
 refine Kd.R_lit_step Kd.string _ 9 ?hg (N:=16) ?hd (xs:=([t1,t2,t3]:List ByteArray)) (inner:=[.string t1,.string t2,.string t3]) (ok:=fun _=>True) (okp:=fun _=>True) ?hr ?hp (fun _ hk=>hk) trivial (Below.refl _ _) (Nat.le_refl _) (by simp) ?_;(case hd=>rfl);(case hg=>rfl);(case hr=>(go_simp;done));(case hp=>exact (Reps.one (show Kd.M Kd.string _ _ _ t1 [.string t1] from rfl) (Reps.one (show Kd.M Kd.string _ _ _ t2 [.string t2] from rfl) (Reps.one (show Kd.M Kd.string _ _ _ t3 [.string t3] from rfl) (Reps.none _ _)))))
 intro vL wL hoL hb hg_ hnew_
 clear hg_ hnew_
 have HOL:=ζa (Kd.R_lower hoL (Below.size (show Below w.heap.size w _ from by repeat (exact HBr.out))))
 replace BKp:=ζa (blk_below (by repeat (exact BKp.out)) hb)
 replace HBr:=ζa (δr (by repeat (exact HBr.out)) hb)
 clear hb hoL
 obtain ⟨AoL,coL,eoL⟩:=Kd.R_slice HOL.out
 subst eoL
 refine hK.out _ _ ⟨(δl BKp.out 0).trans rfl,(δl BKp.out 1).trans rfl,(δl BKp.out 2).trans rfl⟩ (fun hHeld => ?_)
 clear hK K
 refine norm_ (a':=?_) ?_ ?_
 rotate_left
 ·
  show ζl _ (some 16) _=_
  simp only [ζl,δa,δb,δc,i64_w,i32_w];rfl
 refine one_ (i:=11) (N:=some 17) #[τ,τ,τ,τ,τ,τ,τ,τ,τ,τ,τ,τ,φ,φ,φ,φ,φ,φ] rfl rfl (one_of HT_.out (by kernel_rfl)) (by decide) (fun K hK => ?_)
 refine goes_ Tryz.func136 (by kernel_rfl) rfl #[.slice AoL ([t1,t2,t3]:List ByteArray).length coL] (by rfl) rfl rfl (by (try simp only [δd,δe,δf]);rfl) ?_
 with_reducible refine (spec_l02Fields.calls k _ _ [t1,t2,t3] t4 _ ?side1 ?side2 H9.out).mono ?_
 (case side1=>exact (ζg HOL.out).2.2)
 (case side2=>exact (ζg HOL.out).2.1)
 rintro e w_ ⟨v9,rfl,ho,hb⟩
 refine ⟨_,rfl,?_⟩
 have HOB:=ζa (Kd.R_lower ho (Below.size (show Below w.heap.size w _ from by repeat (exact HBr.out))))
 replace BKp:=ζa (blk_below (by repeat (exact BKp.out)) hb)
 replace HBr:=ζa (δr (by repeat (exact HBr.out)) hb)
 clear hb ho
 refine hK.out _ _ ⟨(δl BKp.out 0).trans rfl,(δl BKp.out 1).trans rfl,(δl BKp.out 2).trans rfl⟩ (fun hHeld => ?_)
 clear hK K
 refine norm_ (a':=?_) ?_ ?_
 rotate_left
 ·
  show ζl _ (some 17) _=_
  simp only [ζl,δa,δb,δc,i64_w,i32_w];rfl
 refine one_ (i:=12) (N:=some 18) #[τ,τ,τ,τ,τ,τ,τ,τ,τ,τ,τ,τ,τ,φ,φ,φ,φ,φ] rfl rfl (one_of HT_.out (by kernel_rfl)) (by decide) (fun K hK => ?_)
 have hcv:=own_string (P:=Tryz.prog) Tryz.underlying82 Tryz.underlying5 Tryz.underlying9 (Kd.own_of_R HOB.out)
 refine value_ (w1:=?_) (v:=?_) (by rfl) rfl ?_ ?_
 rotate_left 2
 ·
  go_simp
  constructor
  · rfl
  ·
   rfl
 clear hcv
 refine hK.out _ _ ⟨(δl BKp.out 0).trans rfl,(δl BKp.out 1).trans rfl,(δl BKp.out 2).trans rfl⟩ (fun hHeld => ?_)
 clear hK K
 refine norm_ (a':=?_) ?_ ?_
 rotate_left
 ·
  show ζl _ (some 18) _=_
  simp only [ζl,δa,δb,δc,i64_w,i32_w];rfl
 refine one_ (i:=13) (N:=some 19) #[τ,τ,τ,τ,τ,τ,τ,τ,τ,τ,τ,τ,τ,τ,φ,φ,φ,φ] rfl rfl (one_of HT_.out (by kernel_rfl)) (by decide) (fun K hK => ?_)
 refine goes_ Tryz.func104 (by kernel_rfl) rfl #[.slice A_list list.length c_list,.string (⟨#[112]⟩:ByteArray),.string (strOfNums t4)] (by rfl) rfl rfl (by (try simp only [δd,δe,δf]);rfl) ?_
 with_reducible refine (spec_l03Put.calls k A_list c_list list (⟨#[112]⟩:ByteArray) (strOfNums t4) o2 c2 _ ?side1 HC0_list.out H5.out).mono ?_
 (case side1=>exact Kd.C_below HR0_list.out HBr.out)
 rintro e w_ ⟨v5,rfl,ho,hb⟩
 refine ⟨_,rfl,?_⟩
 have HS5:=ζa (Sf.trans (by exact ⟨Or.inl ⟨rfl,rfl⟩⟩) ho hb (Below.size (show Below w.heap.size w _ from by repeat (exact HBr.out))))
 replace BKp:=ζa (blk_below (by repeat (exact BKp.out)) hb)
 replace HBr:=ζa (δr (by repeat (exact HBr.out)) hb)
 clear hb ho
 refine hK.out _ _ ⟨(δl BKp.out 0).trans rfl,(δl BKp.out 1).trans rfl,(δl BKp.out 2).trans rfl⟩ (fun hHeld => ?_)
 clear hK K
 refine norm_ (a':=?_) ?_ ?_
 rotate_left
 ·
  show ζl _ (some 19) _=_
  simp only [ζl,δa,δb,δc,i64_w,i32_w];rfl
 refine ζk (i:=14) (N:=some 20) (v:=?_) (a':=?_) #[τ,τ,τ,τ,τ,τ,τ,τ,τ,τ,τ,τ,τ,τ,τ,φ,φ,φ] rfl rfl (ζj HT_.out (by kernel_rfl)) (fun _ _ _ h=>h) (Or.inl ⟨by rfl,?_⟩) ?_ ?_
 rotate_left
 · intro w';go_simp;with_reducible rfl
 rotate_left
 · simp only [ζl,δa,δb,δc,i64_w,i32_w];rfl
 refine ζk (i:=15) (N:=some 21) (v:=?_) (a':=?_) #[τ,τ,τ,τ,τ,τ,τ,τ,τ,τ,τ,τ,τ,τ,τ,τ,φ,φ] rfl rfl (ζj HT_.out (by kernel_rfl)) (fun _ _ _ h=>h) (Or.inl ⟨by rfl,?_⟩) ?_ ?_
 rotate_left
 · intro w';go_simp;with_reducible rfl
 rotate_left
 · simp only [ζl,δa,δb,δc,i64_w,i32_w];rfl
 refine ζk (i:=16) (N:=some 4) (v:=?_) (a':=?_) #[τ,τ,τ,τ,τ,τ,τ,τ,τ,τ,τ,τ,τ,τ,τ,τ,τ,φ] rfl rfl (ζj HT_.out (by kernel_rfl)) (fun _ _ _ h=>h) (Or.inl ⟨by rfl,?_⟩) ?_ ?_
 rotate_left
 · intro w';go_simp;with_reducible rfl
 rotate_left
 · simp only [ζl,δa,δb,δc,i64_w,i32_w];rfl
 refine ζk (i:=17) (N:=some 5) (v:=?_) (a':=?_) #[τ,τ,τ,τ,τ,τ,τ,τ,τ,τ,τ,τ,τ,τ,τ,τ,τ,τ] rfl rfl (ζj HT_.out (by kernel_rfl)) (fun _ _ _ h=>h) (Or.inl ⟨by rfl,?_⟩) ?_ ?_
 rotate_left
 · intro w';go_simp;with_reducible rfl
 rotate_left
 · simp only [ζl,δa,δb,δc,i64_w,i32_w];rfl
 refine done_ (done_of HT_.out (by kernel_rfl)) ?_
 have h:=HH.out
 clear HH
 simp only [Option.some.injEq,Prod.mk.injEq] at h
 obtain ⟨rfl,rfl⟩:=h
 try go_wp2
 go_ret2
 exact ⟨_,rfl,(by repeat (exact HS5.out)),(by repeat (exact HBr.out))⟩


open Go.Proofs.YtabmfhnhmoiljaaGreatDoorW.PrintWords renaming below_alloc → δk, gate_dst → δx, box_event → δz, below_step → δr, blk_cell → δl, blk_frozen → δm, below_drew1 → δj, pw_below_drewN → δi, blk_alloc → δo, blk_drew → δp, blk_drewN → δn

/-! ### spec_l10Do: function 120 -/
theorem lit_event {Pg:Program} {ops:Array Oper} {Q:Exit→Act→World→Prop} {rest:List Oper} {op:Oper} {a:Act} {W:World} {n:Nat} (hgd:op.guard=none) {N:Tmp} (_hd:op.dst=some N) {cs:Array Value} {t:TypeId}
  (hrun:(execOp a.eval op).run Pg W = .ok (.value (.slice (some ⟨W.heap.size,0,none⟩) n n)) (W.alloc (.cells cs t (0,0))))
  (h : ∀ g,g=W.heap.size → ∀ w1,w1.heap[g]? = some (.cells cs t (0,0))→Below W.heap.size W w1→wpList Pg ops Q rest (a.put op.dst (.slice (some ⟨g,0,none⟩) n n)) w1):wpList Pg ops Q (op :: rest) a W :=
 Kd.event_run hgd hrun (h _ rfl _ (blk_new W _) (δk (Below.refl _ _) _))
def spec_l10Do.one (k:Nat) (who d:ByteArray) (n:Int) (o:List S51):Option (List S51 × Int):=if 0<n then spec_l05Move.f k o who (⟨#[112,111,111,108]⟩:ByteArray) d n else (if n<0 then spec_l05Move.f k o (⟨#[112,111,111,108]⟩:ByteArray) who d (ζm (-n)) else some (o,0))
def spec_l10Do.two (k:Nat) (who:ByteArray) (ds:Int) (o:List S51):Option (List S51 × Int):=if 0<ds then spec_l05Mint.f k o who (⟨#[115,104,97,114,101,115]⟩:ByteArray) ds else (if ds<0 then spec_l05Burn.f k o who (⟨#[115,104,97,114,101,115]⟩:ByteArray) (ζm (-ds)) else some (o,0))
def spec_l10Do.fin (k:Nat) (list:List S51) (who:ByteArray) (ds p0 p1 p2:Int) (o:List S51):Option (List S51 × Int) :=
 (spec_l10Do.two k who ds o).bind fun q=>if q.2=0 then ((spec_l10Put.f k q.1 p0 p1 p2).bind fun q2=>if q2.2=0 then some (q2.1,0) else some (list,q2.2)) else some (list,q.2)
def spec_l10Do.l0 (k:Nat) (list:List S51) (who:ByteArray) (d0 d1:ByteArray) (dx dy ds p0 p1 p2:Int):Nat→List S51→Option (List S51 × Int)
 | 0,o=>spec_l10Do.fin k list who ds p0 p1 p2 o
 | 1,o=>(spec_l10Do.one k who d1 dy o).bind fun q=>if q.2=0 then spec_l10Do.fin k list who ds p0 p1 p2 q.1 else some (list,q.2)
 | _+2,o=>(spec_l10Do.one k who d0 dx o).bind fun q=>if q.2=0 then ((spec_l10Do.one k who d1 dy q.1).bind fun q=>if q.2=0 then spec_l10Do.fin k list who ds p0 p1 p2 q.1 else some (list,q.2)) else some (list,q.2)
def spec_l10Do.f (k:Nat) (name:ByteArray) (list:List S51) (who:ByteArray) (dx dy ds p0 p1 p2:Int):Option (List S51 × Int) :=
 (spec_l07Other.f name).bind fun t=>if t.size≤1000000 then spec_l10Do.l0 k list who name ((⟨#[118]⟩:ByteArray) ++ t) dx dy ds p0 p1 p2 2 list else none
set_option maxHeartbeats 4000000 in
set_option maxRecDepth 100000 in
theorem spec_l10Do.calls (k:Nat) (name:ByteArray) (A_list:Option Addr) (c_list:Nat) (list:List S51) (who:ByteArray) (dx:Int) (dy:Int) (ds:Int) (p_0:Int) (p_1:Int) (p_2:Int) (r1:List S51) (r2:Int) (w:World) (hr0_list:Kd.C k51 w A_list list.length list) (hc0_list:list.length≤c_list) (h:spec_l10Do.f k name list who dx dy ds p_0 p_1 p_2=some (r1,r2)) :
  Calls Tryz.prog 120 #[.string name,.slice A_list list.length c_list,.string who,.int .i64 dx,.int .i64 dy,.int .i64 ds,.agg #[.int .i64 p_0,.int .i64 p_1,.int .i64 p_2]] w fun e w' => ∃ v0_:Value,e = .returned (.tuple #[v0_,.int .i64 r2])∧Sf w w' (.slice A_list list.length c_list) list v0_ r1∧Below w.heap.size w w':=by
 have HR0_list:=ζa hr0_list
 have HC0_list:=ζa hc0_list
 clear hr0_list hc0_list
 have HB:=ζa (Below.refl w.heap.size w)
 unfold spec_l10Do.f at h
 obtain ⟨x1,h1_,h⟩:=Option.bind_eq_some_iff.mp h
 have H1:=ζa h1_
 clear h1_
 by_cases cc:x1.size≤1000000
 case neg=>rw [if_neg cc] at h;cases h
 rw [if_pos cc] at h
 have z1_x1:(1+x1.size≤9223372036854775807)=True:=eq_true (by omega)
 have z2_x1:(9223372036854775807<1+x1.size)=False:=eq_false (by omega)
 clear cc
 have HH:=ζa h
 clear h
 go_enter Tryz.func120,Tryz.ntmps120
 go_wp2_with (first|((with_reducible refine δx (N:=13) rfl ?_);refine δz ?hg (N:=13) ?hd (cs:=#[.int .i64 p_0,.int .i64 p_1,.int .i64 p_2]) (t:=109) ?hrp ?_;(case hd=>rfl);(case hg=>rfl);(case hrp=>(go_simp;done));intro gbp hg w_p hbox hb;have BKp:=ζa hbox;replace HB:=ζa (δr (by repeat (exact HB.out)) hb);clear hb hbox hg;have hzp_0:=(δl BKp.out 0).trans rfl;have hzp_1:=(δl BKp.out 1).trans rfl;have hzp_2:=(δl BKp.out 2).trans rfl;have hfp_0:=δm BKp.out 0;have hfp_1:=δm BKp.out 1;have hfp_2:=δm BKp.out 2)|((with_reducible refine δx (N:=24) rfl ?_);refine lit_event (n:=2) ?hg (N:=24) ?hd (cs:=#[.int .i64 dx,.int .i64 dy]) (t:=3) ?hrm ?_;(case hd=>rfl);(case hg=>rfl);(case hrm=>(go_simp;done));intro gbm hg w_m hbox hb;clear hzp_0 hfp_0 hzp_1 hfp_1 hzp_2 hfp_2;replace BKp:=ζa (blk_below (by repeat (exact BKp.out)) hb);have BKm:=ζa hbox;replace HB:=ζa (δr (by repeat (exact HB.out)) hb);clear hb hbox hg;have hzp_0:=(δl BKp.out 0).trans rfl;have hzp_1:=(δl BKp.out 1).trans rfl;have hzp_2:=(δl BKp.out 2).trans rfl;have hzm_0:=(δl BKm.out 0).trans rfl;have hzm_1:=(δl BKm.out 1).trans rfl;have hfp_0:=δm BKp.out 0;have hfp_1:=δm BKp.out 1;have hfp_2:=δm BKp.out 2;have hfm_0:=δm BKm.out 0;have hfm_1:=δm BKm.out 1))
 refine (spec_l07Other.calls name x1 _ H1.out).mono ?_
 rintro e w1 ⟨rfl,hd⟩
 have hb:=hd.below
 clear hd
 clear hzp_0 hfp_0 hzp_1 hfp_1 hzp_2 hfp_2 hzm_0 hfm_0 hzm_1 hfm_1
 replace BKp:=ζa (blk_below (by repeat (exact BKp.out)) hb)
 replace BKm:=ζa (blk_below (by repeat (exact BKm.out)) hb)
 replace HB:=ζa (δr (by repeat (exact HB.out)) hb)
 clear hb
 have hzp_0:=(δl BKp.out 0).trans rfl
 have hzp_1:=(δl BKp.out 1).trans rfl
 have hzp_2:=(δl BKp.out 2).trans rfl
 have hzm_0:=(δl BKm.out 0).trans rfl
 have hzm_1:=(δl BKm.out 1).trans rfl
 have hfp_0:=δm BKp.out 0
 have hfp_1:=δm BKp.out 1
 have hfp_2:=δm BKp.out 2
 have hfm_0:=δm BKm.out 0
 have hfm_1:=δm BKm.out 1
 go_wp2_with (((with_reducible refine δx (N:=29) rfl ?_);refine lit_event (n:=2) ?hg (N:=29) ?hd (cs:=#[.string name,.string ((⟨#[118]⟩:ByteArray) ++ x1)]) (t:=9) ?hrd ?_;(case hd=>rfl);(case hg=>rfl);(case hrd=>(go_simp;done));intro gbd hg w_d hbox hb;clear hzp_0 hfp_0 hzp_1 hfp_1 hzp_2 hfp_2 hzm_0 hfm_0 hzm_1 hfm_1;replace BKp:=ζa (blk_below (by repeat (exact BKp.out)) hb);replace BKm:=ζa (blk_below (by repeat (exact BKm.out)) hb);have BKd:=ζa hbox;replace HB:=ζa (δr (by repeat (exact HB.out)) hb);clear hb hbox hg;have hzp_0:=(δl BKp.out 0).trans rfl;have hzp_1:=(δl BKp.out 1).trans rfl;have hzp_2:=(δl BKp.out 2).trans rfl;have hzm_0:=(δl BKm.out 0).trans rfl;have hzm_1:=(δl BKm.out 1).trans rfl;have hzd_0:=(δl BKd.out 0).trans rfl;have hzd_1:=(δl BKd.out 1).trans rfl;have hfp_0:=δm BKp.out 0;have hfp_1:=δm BKp.out 1;have hfp_2:=δm BKp.out 2;have hfm_0:=δm BKm.out 0;have hfm_1:=δm BKm.out 1;have hfd_0:=δm BKd.out 0;have hfd_1:=δm BKd.out 1))
 have n_ : ∃ vd:ByteArray,vd=(⟨#[118]⟩:ByteArray) ++ x1:=⟨_,rfl⟩
 obtain ⟨vd,hvd⟩:=n_
 rw [← hvd] at BKd
 rw [← hvd] at HH
 clear hvd
 clear hzp_0 hfp_0 hzp_1 hfp_1 hzp_2 hfp_2 hzm_0 hfm_0 hzm_1 hfm_1 hzd_0 hfd_0 hzd_1 hfd_1
 go_loopg [16,17,20] 2 (fun kq v16 v17 v20 w' => ∃ (A:Option Addr) (cp:Nat) (o:List S51),v16 = .slice A o.length cp∧v17 = .int .i64 0∧v20 = .int .i64 (2 - (kq:Int))∧kq≤2∧Aside0 (spec_l10Do.l0 k list who name vd dx dy ds p_0 p_1 p_2 kq o=some (r1,r2))∧Aside0 (Kd.C k51 w' A o.length o)∧Aside0 (o.length≤cp)∧Aside0 (Sf w w' (.slice A_list list.length c_list) list (.slice A o.length cp) o)∧Aside0 (w'.heap[gbp]? = some (.cells #[.int .i64 p_0,.int .i64 p_1,.int .i64 p_2] 109 (0,0)))∧Aside0 (w'.heap[gbm]? = some (.cells #[.int .i64 dx,.int .i64 dy] 3 (0,0)))∧Aside0 (w'.heap[gbd]? = some (.cells #[.string name,.string vd] 9 (0,0)))∧Aside0 (Below w.heap.size w w'))
 case atStart=>exact ⟨A_list,c_list,list,rfl,rfl,rfl,Nat.le_refl _,HH,⟨by repeat (exact Kd.C_below HR0_list.out HB.out)⟩,HC0_list,⟨⟨Or.inl ⟨rfl,rfl⟩⟩⟩,⟨by repeat (exact BKp.out)⟩,⟨by repeat (exact BKm.out)⟩,⟨by repeat (exact BKd.out)⟩,⟨by repeat (exact HB.out)⟩⟩
 case round =>
  clear HH BKp BKm BKd HB
  obtain ⟨A,cp,o,rfl,rfl,rfl,hk2,HH,HRo,HCo,HSo,BKp,BKm,BKd,HB⟩:=hrel
  match gk,hk2 with
  | 0,hk2 =>
   have hzp_0:=(δl BKp.out 0).trans rfl
   have hzp_1:=(δl BKp.out 1).trans rfl
   have hzp_2:=(δl BKp.out 2).trans rfl
   have hzm_0:=(δl BKm.out 0).trans rfl
   have hzm_1:=(δl BKm.out 1).trans rfl
   have hzd_0:=(δl BKd.out 0).trans rfl
   have hzd_1:=(δl BKd.out 1).trans rfl
   have hfp_0:=δm BKp.out 0
   have hfp_1:=δm BKp.out 1
   have hfp_2:=δm BKp.out 2
   have hfm_0:=δm BKm.out 0
   have hfm_1:=δm BKm.out 1
   have hfd_0:=δm BKd.out 0
   have hfd_1:=δm BKd.out 1
   have h:=HH.out
   clear HH
   simp only [spec_l10Do.l0] at h
   unfold spec_l10Do.fin at h
   obtain ⟨⟨o1,c1⟩,h5_,h⟩:=Option.bind_eq_some_iff.mp h
   have HN0:=ζa h
   clear h
   unfold spec_l10Do.two at h5_
   by_cases q1:0<ds
   ·
    rw [if_pos q1] at h5_
    have f2:decide (0<ds)=τ:=decide_eq_true q1
    have f3:decide (ds<0)=φ:=decide_eq_false (by omega)
    clear q1
    have H5:=ζa h5_
    clear h5_
    go_wp2_with fail
    with_reducible refine (spec_l05Mint.calls k A cp o who (⟨#[115,104,97,114,101,115]⟩:ByteArray) ds o1 c1 _ (by repeat (exact HRo.out)) HCo.out H5.out).mono ?_
    rintro e w5 ⟨v5,rfl,ho,hb⟩
    have hsf:=Sf.trans (by repeat (exact HSo.out)) ho hb (Below.size (show Below w.heap.size w _ from by repeat (exact HB.out)))
    obtain ⟨adr5,cap5,rfl,hl5,hq5⟩:=Sf.reads ho (Kd.C_below (by repeat (exact HRo.out)) hb) HCo.out
    have HC5:=ζa hl5
    have HRn5:=ζa hq5
    have HS5:=ζa hsf
    clear hl5 hq5 ho hsf
    clear hzp_0 hfp_0 hzp_1 hfp_1 hzp_2 hfp_2 hzm_0 hfm_0 hzm_1 hfm_1 hzd_0 hfd_0 hzd_1 hfd_1
    replace BKp:=ζa (blk_below (by repeat (exact BKp.out)) hb)
    replace BKm:=ζa (blk_below (by repeat (exact BKm.out)) hb)
    replace BKd:=ζa (blk_below (by repeat (exact BKd.out)) hb)
    replace HB:=ζa (δr (by repeat (exact HB.out)) hb)
    clear hb
    have hzp_0:=(δl BKp.out 0).trans rfl
    have hzp_1:=(δl BKp.out 1).trans rfl
    have hzp_2:=(δl BKp.out 2).trans rfl
    have hzm_0:=(δl BKm.out 0).trans rfl
    have hzm_1:=(δl BKm.out 1).trans rfl
    have hzd_0:=(δl BKd.out 0).trans rfl
    have hzd_1:=(δl BKd.out 1).trans rfl
    have hfp_0:=δm BKp.out 0
    have hfp_1:=δm BKp.out 1
    have hfp_2:=δm BKp.out 2
    have hfm_0:=δm BKm.out 0
    have hfm_1:=δm BKm.out 1
    have hfd_0:=δm BKd.out 0
    have hfd_1:=δm BKd.out 1
    have h:=HN0.out
    clear HN0
    by_cases c0:c1=0
    ·
     rw [if_pos c0] at h
     subst c0
     obtain ⟨⟨o2,c2⟩,h6_,h⟩:=Option.bind_eq_some_iff.mp h
     have HN1:=ζa h
     have H6:=ζa h6_
     clear h h6_
     go_wp2_with fail
     refine (spec_l10Put.calls k adr5 cap5 o1 p_0 p_1 p_2 o2 c2 _ (by repeat (exact HRn5.out)) HC5.out H6.out).mono ?_
     rintro e w6 ⟨v6,rfl,ho,hb⟩
     have HS6:=ζa (Sf.trans (by repeat (exact HS5.out)) ho hb (Below.size (show Below w.heap.size w _ from by repeat (exact HB.out))))
     clear hzp_0 hfp_0 hzp_1 hfp_1 hzp_2 hfp_2 hzm_0 hfm_0 hzm_1 hfm_1 hzd_0 hfd_0 hzd_1 hfd_1
     replace BKp:=ζa (blk_below (by repeat (exact BKp.out)) hb)
     replace BKm:=ζa (blk_below (by repeat (exact BKm.out)) hb)
     replace BKd:=ζa (blk_below (by repeat (exact BKd.out)) hb)
     replace HB:=ζa (δr (by repeat (exact HB.out)) hb)
     clear hb ho
     have h:=HN1.out
     clear HN1
     by_cases c0:c2=0
     ·
      rw [if_pos c0] at h
      subst c0
      simp only [Option.some.injEq,Prod.mk.injEq] at h
      obtain ⟨rfl,rfl⟩:=h
      go_wp2
      go_ret2
      exact ⟨_,rfl,(by repeat (exact HS6.out)),(by repeat (exact HB.out))⟩
     ·
      rw [if_neg c0] at h
      have f4:(c2 != 0)=τ:=bne_iff_ne.mpr c0
      have f5:(c2 == 0)=φ:=beq_eq_false_iff_ne.mpr c0
      clear c0
      simp only [Option.some.injEq,Prod.mk.injEq] at h
      obtain ⟨rfl,rfl⟩:=h
      go_wp2
      go_ret2
      exact ⟨_,rfl,⟨Or.inl ⟨rfl,rfl⟩⟩,(by repeat (exact HB.out))⟩
    ·
     rw [if_neg c0] at h
     have f0:(c1 != 0)=τ:=bne_iff_ne.mpr c0
     have f1:(c1 == 0)=φ:=beq_eq_false_iff_ne.mpr c0
     clear c0
     simp only [Option.some.injEq,Prod.mk.injEq] at h
     obtain ⟨rfl,rfl⟩:=h
     go_wp2
     go_ret2
     exact ⟨_,rfl,⟨Or.inl ⟨rfl,rfl⟩⟩,(by repeat (exact HB.out))⟩
   ·
    rw [if_neg q1] at h5_
    by_cases q2:ds<0
    ·
     rw [if_pos q2] at h5_
     have f2:decide (0<ds)=φ:=decide_eq_false q1
     have f3:decide (ds<0)=τ:=decide_eq_true q2
     clear q1 q2
     have H5:=ζa h5_
     clear h5_
     go_wp2_with fail
     with_reducible refine (spec_l05Burn.calls k A cp o who (⟨#[115,104,97,114,101,115]⟩:ByteArray) (ζm (-ds)) o1 c1 _ (by repeat (exact HRo.out)) HCo.out H5.out).mono ?_
     rintro e w5 ⟨v5,rfl,ho,hb⟩
     have hsf:=Sf.trans (by repeat (exact HSo.out)) ho hb (Below.size (show Below w.heap.size w _ from by repeat (exact HB.out)))
     obtain ⟨adr5,cap5,rfl,hl5,hq5⟩:=Sf.reads ho (Kd.C_below (by repeat (exact HRo.out)) hb) HCo.out
     have HC5:=ζa hl5
     have HRn5:=ζa hq5
     have HS5:=ζa hsf
     clear hl5 hq5 ho hsf
     clear hzp_0 hfp_0 hzp_1 hfp_1 hzp_2 hfp_2 hzm_0 hfm_0 hzm_1 hfm_1 hzd_0 hfd_0 hzd_1 hfd_1
     replace BKp:=ζa (blk_below (by repeat (exact BKp.out)) hb)
     replace BKm:=ζa (blk_below (by repeat (exact BKm.out)) hb)
     replace BKd:=ζa (blk_below (by repeat (exact BKd.out)) hb)
     replace HB:=ζa (δr (by repeat (exact HB.out)) hb)
     clear hb
     have hzp_0:=(δl BKp.out 0).trans rfl
     have hzp_1:=(δl BKp.out 1).trans rfl
     have hzp_2:=(δl BKp.out 2).trans rfl
     have hzm_0:=(δl BKm.out 0).trans rfl
     have hzm_1:=(δl BKm.out 1).trans rfl
     have hzd_0:=(δl BKd.out 0).trans rfl
     have hzd_1:=(δl BKd.out 1).trans rfl
     have hfp_0:=δm BKp.out 0
     have hfp_1:=δm BKp.out 1
     have hfp_2:=δm BKp.out 2
     have hfm_0:=δm BKm.out 0
     have hfm_1:=δm BKm.out 1
     have hfd_0:=δm BKd.out 0
     have hfd_1:=δm BKd.out 1
     have h:=HN0.out
     clear HN0
     by_cases c0:c1=0
     ·
      rw [if_pos c0] at h
      subst c0
      obtain ⟨⟨o2,c2⟩,h6_,h⟩:=Option.bind_eq_some_iff.mp h
      have HN1:=ζa h
      have H6:=ζa h6_
      clear h h6_
      go_wp2_with fail
      refine (spec_l10Put.calls k adr5 cap5 o1 p_0 p_1 p_2 o2 c2 _ (by repeat (exact HRn5.out)) HC5.out H6.out).mono ?_
      rintro e w6 ⟨v6,rfl,ho,hb⟩
      have HS6:=ζa (Sf.trans (by repeat (exact HS5.out)) ho hb (Below.size (show Below w.heap.size w _ from by repeat (exact HB.out))))
      clear hzp_0 hfp_0 hzp_1 hfp_1 hzp_2 hfp_2 hzm_0 hfm_0 hzm_1 hfm_1 hzd_0 hfd_0 hzd_1 hfd_1
      replace BKp:=ζa (blk_below (by repeat (exact BKp.out)) hb)
      replace BKm:=ζa (blk_below (by repeat (exact BKm.out)) hb)
      replace BKd:=ζa (blk_below (by repeat (exact BKd.out)) hb)
      replace HB:=ζa (δr (by repeat (exact HB.out)) hb)
      clear hb ho
      have h:=HN1.out
      clear HN1
      by_cases c0:c2=0
      ·
       rw [if_pos c0] at h
       subst c0
       simp only [Option.some.injEq,Prod.mk.injEq] at h
       obtain ⟨rfl,rfl⟩:=h
       go_wp2
       go_ret2
       exact ⟨_,rfl,(by repeat (exact HS6.out)),(by repeat (exact HB.out))⟩
      ·
       rw [if_neg c0] at h
       have f4:(c2 != 0)=τ:=bne_iff_ne.mpr c0
       have f5:(c2 == 0)=φ:=beq_eq_false_iff_ne.mpr c0
       clear c0
       simp only [Option.some.injEq,Prod.mk.injEq] at h
       obtain ⟨rfl,rfl⟩:=h
       go_wp2
       go_ret2
       exact ⟨_,rfl,⟨Or.inl ⟨rfl,rfl⟩⟩,(by repeat (exact HB.out))⟩
     ·
      rw [if_neg c0] at h
      have f0:(c1 != 0)=τ:=bne_iff_ne.mpr c0
      have f1:(c1 == 0)=φ:=beq_eq_false_iff_ne.mpr c0
      clear c0
      simp only [Option.some.injEq,Prod.mk.injEq] at h
      obtain ⟨rfl,rfl⟩:=h
      go_wp2
      go_ret2
      exact ⟨_,rfl,⟨Or.inl ⟨rfl,rfl⟩⟩,(by repeat (exact HB.out))⟩
    ·
     rw [if_neg q2] at h5_
     have f2:decide (0<ds)=φ:=decide_eq_false q1
     have f3:decide (ds<0)=φ:=decide_eq_false q2
     clear q1 q2
     simp only [Option.some.injEq,Prod.mk.injEq] at h5_
     obtain ⟨rfl,rfl⟩:=h5_
     have h:=HN0.out
     clear HN0
     rw [if_pos rfl] at h
     obtain ⟨⟨o2,c2⟩,h6_,h⟩:=Option.bind_eq_some_iff.mp h
     have HN1:=ζa h
     have H6:=ζa h6_
     clear h h6_
     go_wp2_with fail
     refine (spec_l10Put.calls k A cp o p_0 p_1 p_2 o2 c2 _ (by repeat (exact HRo.out)) HCo.out H6.out).mono ?_
     rintro e w6 ⟨v6,rfl,ho,hb⟩
     have HS6:=ζa (Sf.trans (by repeat (exact HSo.out)) ho hb (Below.size (show Below w.heap.size w _ from by repeat (exact HB.out))))
     clear hzp_0 hfp_0 hzp_1 hfp_1 hzp_2 hfp_2 hzm_0 hfm_0 hzm_1 hfm_1 hzd_0 hfd_0 hzd_1 hfd_1
     replace BKp:=ζa (blk_below (by repeat (exact BKp.out)) hb)
     replace BKm:=ζa (blk_below (by repeat (exact BKm.out)) hb)
     replace BKd:=ζa (blk_below (by repeat (exact BKd.out)) hb)
     replace HB:=ζa (δr (by repeat (exact HB.out)) hb)
     clear hb ho
     have h:=HN1.out
     clear HN1
     by_cases c0:c2=0
     ·
      rw [if_pos c0] at h
      subst c0
      simp only [Option.some.injEq,Prod.mk.injEq] at h
      obtain ⟨rfl,rfl⟩:=h
      go_wp2
      go_ret2
      exact ⟨_,rfl,(by repeat (exact HS6.out)),(by repeat (exact HB.out))⟩
     ·
      rw [if_neg c0] at h
      have f4:(c2 != 0)=τ:=bne_iff_ne.mpr c0
      have f5:(c2 == 0)=φ:=beq_eq_false_iff_ne.mpr c0
      clear c0
      simp only [Option.some.injEq,Prod.mk.injEq] at h
      obtain ⟨rfl,rfl⟩:=h
      go_wp2
      go_ret2
      exact ⟨_,rfl,⟨Or.inl ⟨rfl,rfl⟩⟩,(by repeat (first|exact HB.out|apply δk|apply δj|apply δi))⟩
  | 1,hk2 =>
   have hzp_0:=(δl BKp.out 0).trans rfl
   have hzp_1:=(δl BKp.out 1).trans rfl
   have hzp_2:=(δl BKp.out 2).trans rfl
   have hzm_0:=(δl BKm.out 0).trans rfl
   have hzm_1:=(δl BKm.out 1).trans rfl
   have hzd_0:=(δl BKd.out 0).trans rfl
   have hzd_1:=(δl BKd.out 1).trans rfl
   have hfp_0:=δm BKp.out 0
   have hfp_1:=δm BKp.out 1
   have hfp_2:=δm BKp.out 2
   have hfm_0:=δm BKm.out 0
   have hfm_1:=δm BKm.out 1
   have hfd_0:=δm BKd.out 0
   have hfd_1:=δm BKd.out 1
   have h:=HH.out
   clear HH
   simp only [spec_l10Do.l0] at h
   obtain ⟨⟨o1,c1⟩,h5_,h⟩:=Option.bind_eq_some_iff.mp h
   have HN0:=ζa h
   clear h
   unfold spec_l10Do.one at h5_
   by_cases q1:0<dy
   ·
    rw [if_pos q1] at h5_
    have f2:decide (0<dy)=τ:=decide_eq_true q1
    have f3:decide (dy<0)=φ:=decide_eq_false (by omega)
    clear q1
    have H5:=ζa h5_
    clear h5_
    go_wp2_with fail
    go_region_held3 (fun w'=>w'.cell? ⟨gbp,0,none⟩=some (.int .i64 p_0)∧w'.cell? ⟨gbp,1,none⟩=some (.int .i64 p_1)∧w'.cell? ⟨gbp,2,none⟩=some (.int .i64 p_2)∧w'.cell? ⟨gbm,0,none⟩=some (.int .i64 dx)∧w'.cell? ⟨gbm,1,none⟩=some (.int .i64 dy)∧w'.cell? ⟨gbd,0,none⟩=some (.string name)∧w'.cell? ⟨gbd,1,none⟩=some (.string vd)) (first|go_keep|exact ⟨(δl (by repeat (exact BKp.out)) 0).trans rfl,(δl (by repeat (exact BKp.out)) 1).trans rfl,(δl (by repeat (exact BKp.out)) 2).trans rfl,(δl (by repeat (exact BKm.out)) 0).trans rfl,(δl (by repeat (exact BKm.out)) 1).trans rfl,(δl (by repeat (exact BKd.out)) 0).trans rfl,(δl (by repeat (exact BKd.out)) 1).trans rfl⟩)
     (first
      | (go_at_call 78;(with_reducible refine (spec_l05Move.calls k A cp o who (⟨#[112,111,111,108]⟩:ByteArray) vd dy o1 c1 _ (by repeat (first|exact HRo.out|apply Kd.C_alloc|apply Kd.C_drew|apply Kd.C_drewN)) HCo.out H5.out).mono ?_);rintro e w5 ⟨v5,rfl,ho,hb⟩;have hsf:=Sf.trans (by repeat (first|exact HSo.out|apply Sf.alloc|apply Sf.drew|apply Sf.drewN)) ho hb (Below.size (show Below w.heap.size w _ from by repeat (first|exact HB.out|apply δk|apply δj|apply δi)));obtain ⟨adr5,cap5,rfl,hl5,hq5⟩:=Sf.reads ho (Kd.C_below (by repeat (first|exact HRo.out|apply Kd.C_alloc|apply Kd.C_drew|apply Kd.C_drewN)) hb) HCo.out;have HC5:=ζa hl5;have HRn5:=ζa hq5;have HS5:=ζa hsf;clear hl5 hq5 ho hsf;replace BKp:=ζa (blk_below (by repeat (first|exact BKp.out|apply δo|apply δp|apply δn)) hb);replace BKm:=ζa (blk_below (by repeat (first|exact BKm.out|apply δo|apply δp|apply δn)) hb);replace BKd:=ζa (blk_below (by repeat (first|exact BKd.out|apply δo|apply δp|apply δn)) hb);replace HB:=ζa (δr (by repeat (first|exact HB.out|apply δk|apply δj|apply δi)) hb);clear hb))
    all_goals
     clear hzp_0 hfp_0 hzp_1 hfp_1 hzp_2 hfp_2 hzm_0 hfm_0 hzm_1 hfm_1 hzd_0 hfd_0 hzd_1 hfd_1
     have hzp_0:=(δl BKp.out 0).trans rfl
     have hzp_1:=(δl BKp.out 1).trans rfl
     have hzp_2:=(δl BKp.out 2).trans rfl
     have hzm_0:=(δl BKm.out 0).trans rfl
     have hzm_1:=(δl BKm.out 1).trans rfl
     have hzd_0:=(δl BKd.out 0).trans rfl
     have hzd_1:=(δl BKd.out 1).trans rfl
     have hfp_0:=δm BKp.out 0
     have hfp_1:=δm BKp.out 1
     have hfp_2:=δm BKp.out 2
     have hfm_0:=δm BKm.out 0
     have hfm_1:=δm BKm.out 1
     have hfd_0:=δm BKd.out 0
     have hfd_1:=δm BKd.out 1
     have h:=HN0.out
     clear HN0
     by_cases c0:c1=0
     ·
      rw [if_pos c0] at h
      subst c0
      have HN:=ζa h
      clear h
      go_wp2
      go_roundg 0
      case measure=>omega
      case rel=>exact ⟨adr5,cap5,o1,rfl,rfl,(by rfl),by omega,HN,⟨by repeat (exact HRn5.out)⟩,HC5,⟨by repeat (exact HS5.out)⟩,⟨by repeat (exact BKp.out)⟩,⟨by repeat (exact BKm.out)⟩,⟨by repeat (exact BKd.out)⟩,⟨by repeat (exact HB.out)⟩⟩
     ·
      rw [if_neg c0] at h
      have f0:(c1 != 0)=τ:=bne_iff_ne.mpr c0
      have f1:(c1 == 0)=φ:=beq_eq_false_iff_ne.mpr c0
      clear c0
      simp only [Option.some.injEq,Prod.mk.injEq] at h
      obtain ⟨rfl,rfl⟩:=h
      go_wp2
      go_ret2
      exact ⟨_,rfl,⟨Or.inl ⟨rfl,rfl⟩⟩,(by repeat (exact HB.out))⟩
   ·
    rw [if_neg q1] at h5_
    by_cases q2:dy<0
    ·
     rw [if_pos q2,← i64_w] at h5_
     have f2:decide (0<dy)=φ:=decide_eq_false q1
     have f3:decide (dy<0)=τ:=decide_eq_true q2
     clear q1 q2
     have H5:=ζa h5_
     clear h5_
     go_wp2_with fail
     go_region_held3 (fun w'=>w'.cell? ⟨gbp,0,none⟩=some (.int .i64 p_0)∧w'.cell? ⟨gbp,1,none⟩=some (.int .i64 p_1)∧w'.cell? ⟨gbp,2,none⟩=some (.int .i64 p_2)∧w'.cell? ⟨gbm,0,none⟩=some (.int .i64 dx)∧w'.cell? ⟨gbm,1,none⟩=some (.int .i64 dy)∧w'.cell? ⟨gbd,0,none⟩=some (.string name)∧w'.cell? ⟨gbd,1,none⟩=some (.string vd)) (first|go_keep|exact ⟨(δl (by repeat (exact BKp.out)) 0).trans rfl,(δl (by repeat (exact BKp.out)) 1).trans rfl,(δl (by repeat (exact BKp.out)) 2).trans rfl,(δl (by repeat (exact BKm.out)) 0).trans rfl,(δl (by repeat (exact BKm.out)) 1).trans rfl,(δl (by repeat (exact BKd.out)) 0).trans rfl,(δl (by repeat (exact BKd.out)) 1).trans rfl⟩)
      (first
       | (go_at_call 78;(with_reducible refine (spec_l05Move.calls k A cp o (⟨#[112,111,111,108]⟩:ByteArray) who vd (IntKind.i64.wrap (-dy)) o1 c1 _ (by repeat (first|exact HRo.out|apply Kd.C_alloc|apply Kd.C_drew|apply Kd.C_drewN)) HCo.out H5.out).mono ?_);rintro e w5 ⟨v5,rfl,ho,hb⟩;have hsf:=Sf.trans (by repeat (first|exact HSo.out|apply Sf.alloc|apply Sf.drew|apply Sf.drewN)) ho hb (Below.size (show Below w.heap.size w _ from by repeat (first|exact HB.out|apply δk|apply δj|apply δi)));obtain ⟨adr5,cap5,rfl,hl5,hq5⟩:=Sf.reads ho (Kd.C_below (by repeat (first|exact HRo.out|apply Kd.C_alloc|apply Kd.C_drew|apply Kd.C_drewN)) hb) HCo.out;have HC5:=ζa hl5;have HRn5:=ζa hq5;have HS5:=ζa hsf;clear hl5 hq5 ho hsf;replace BKp:=ζa (blk_below (by repeat (first|exact BKp.out|apply δo|apply δp|apply δn)) hb);replace BKm:=ζa (blk_below (by repeat (first|exact BKm.out|apply δo|apply δp|apply δn)) hb);replace BKd:=ζa (blk_below (by repeat (first|exact BKd.out|apply δo|apply δp|apply δn)) hb);replace HB:=ζa (δr (by repeat (first|exact HB.out|apply δk|apply δj|apply δi)) hb);clear hb))
     all_goals
      clear hzp_0 hfp_0 hzp_1 hfp_1 hzp_2 hfp_2 hzm_0 hfm_0 hzm_1 hfm_1 hzd_0 hfd_0 hzd_1 hfd_1
      have hzp_0:=(δl BKp.out 0).trans rfl
      have hzp_1:=(δl BKp.out 1).trans rfl
      have hzp_2:=(δl BKp.out 2).trans rfl
      have hzm_0:=(δl BKm.out 0).trans rfl
      have hzm_1:=(δl BKm.out 1).trans rfl
      have hzd_0:=(δl BKd.out 0).trans rfl
      have hzd_1:=(δl BKd.out 1).trans rfl
      have hfp_0:=δm BKp.out 0
      have hfp_1:=δm BKp.out 1
      have hfp_2:=δm BKp.out 2
      have hfm_0:=δm BKm.out 0
      have hfm_1:=δm BKm.out 1
      have hfd_0:=δm BKd.out 0
      have hfd_1:=δm BKd.out 1
      have h:=HN0.out
      clear HN0
      by_cases c0:c1=0
      ·
       rw [if_pos c0] at h
       subst c0
       have HN:=ζa h
       clear h
       go_wp2
       go_roundg 0
       case measure=>omega
       case rel=>exact ⟨adr5,cap5,o1,rfl,rfl,(by rfl),by omega,HN,⟨by repeat (exact HRn5.out)⟩,HC5,⟨by repeat (exact HS5.out)⟩,⟨by repeat (exact BKp.out)⟩,⟨by repeat (exact BKm.out)⟩,⟨by repeat (exact BKd.out)⟩,⟨by repeat (exact HB.out)⟩⟩
      ·
       rw [if_neg c0] at h
       have f0:(c1 != 0)=τ:=bne_iff_ne.mpr c0
       have f1:(c1 == 0)=φ:=beq_eq_false_iff_ne.mpr c0
       clear c0
       simp only [Option.some.injEq,Prod.mk.injEq] at h
       obtain ⟨rfl,rfl⟩:=h
       go_wp2
       go_ret2
       exact ⟨_,rfl,⟨Or.inl ⟨rfl,rfl⟩⟩,(by repeat (exact HB.out))⟩
    ·
     rw [if_neg q2] at h5_
     have f2:decide (0<dy)=φ:=decide_eq_false q1
     have f3:decide (dy<0)=φ:=decide_eq_false q2
     clear q1 q2
     simp only [Option.some.injEq,Prod.mk.injEq] at h5_
     obtain ⟨rfl,rfl⟩:=h5_
     have h:=HN0.out
     clear HN0
     rw [if_pos rfl] at h
     have HN:=ζa h
     clear h
     go_wp2
     go_roundg 0
     case measure=>omega
     case rel=>exact ⟨A,cp,o,rfl,rfl,(by first|rfl|go_num|(simp;done)),by omega,HN,⟨by repeat (first|exact HRo.out|apply Kd.C_alloc|apply Kd.C_drew|apply Kd.C_drewN)⟩,HCo,⟨by repeat (first|exact HSo.out|apply Sf.alloc|apply Sf.drew|apply Sf.drewN)⟩,⟨by repeat (first|exact BKp.out|apply δo|apply δp|apply δn)⟩,⟨by repeat (first|exact BKm.out|apply δo|apply δp|apply δn)⟩,⟨by repeat (first|exact BKd.out|apply δo|apply δp|apply δn)⟩,⟨by repeat (first|exact HB.out|apply δk|apply δj|apply δi)⟩⟩
  | 2,hk2 =>
   have hzp_0:=(δl BKp.out 0).trans rfl
   have hzp_1:=(δl BKp.out 1).trans rfl
   have hzp_2:=(δl BKp.out 2).trans rfl
   have hzm_0:=(δl BKm.out 0).trans rfl
   have hzm_1:=(δl BKm.out 1).trans rfl
   have hzd_0:=(δl BKd.out 0).trans rfl
   have hzd_1:=(δl BKd.out 1).trans rfl
   have hfp_0:=δm BKp.out 0
   have hfp_1:=δm BKp.out 1
   have hfp_2:=δm BKp.out 2
   have hfm_0:=δm BKm.out 0
   have hfm_1:=δm BKm.out 1
   have hfd_0:=δm BKd.out 0
   have hfd_1:=δm BKd.out 1
   have h:=HH.out
   clear HH
   simp only [spec_l10Do.l0] at h
   obtain ⟨⟨o1,c1⟩,h5_,h⟩:=Option.bind_eq_some_iff.mp h
   have HN0:=ζa h
   clear h
   unfold spec_l10Do.one at h5_
   by_cases q1:0<dx
   ·
    rw [if_pos q1] at h5_
    have f2:decide (0<dx)=τ:=decide_eq_true q1
    have f3:decide (dx<0)=φ:=decide_eq_false (by omega)
    clear q1
    have H5:=ζa h5_
    clear h5_
    go_wp2_with fail
    go_region_held3 (fun w'=>w'.cell? ⟨gbp,0,none⟩=some (.int .i64 p_0)∧w'.cell? ⟨gbp,1,none⟩=some (.int .i64 p_1)∧w'.cell? ⟨gbp,2,none⟩=some (.int .i64 p_2)∧w'.cell? ⟨gbm,0,none⟩=some (.int .i64 dx)∧w'.cell? ⟨gbm,1,none⟩=some (.int .i64 dy)∧w'.cell? ⟨gbd,0,none⟩=some (.string name)∧w'.cell? ⟨gbd,1,none⟩=some (.string vd)) (first|go_keep|exact ⟨(δl (by repeat (exact BKp.out)) 0).trans rfl,(δl (by repeat (exact BKp.out)) 1).trans rfl,(δl (by repeat (exact BKp.out)) 2).trans rfl,(δl (by repeat (exact BKm.out)) 0).trans rfl,(δl (by repeat (exact BKm.out)) 1).trans rfl,(δl (by repeat (exact BKd.out)) 0).trans rfl,(δl (by repeat (exact BKd.out)) 1).trans rfl⟩)
     (first
      | (go_at_call 78;(with_reducible refine (spec_l05Move.calls k A cp o who (⟨#[112,111,111,108]⟩:ByteArray) name dx o1 c1 _ (by repeat (first|exact HRo.out|apply Kd.C_alloc|apply Kd.C_drew|apply Kd.C_drewN)) HCo.out H5.out).mono ?_);rintro e w5 ⟨v5,rfl,ho,hb⟩;have hsf:=Sf.trans (by repeat (first|exact HSo.out|apply Sf.alloc|apply Sf.drew|apply Sf.drewN)) ho hb (Below.size (show Below w.heap.size w _ from by repeat (first|exact HB.out|apply δk|apply δj|apply δi)));obtain ⟨adr5,cap5,rfl,hl5,hq5⟩:=Sf.reads ho (Kd.C_below (by repeat (first|exact HRo.out|apply Kd.C_alloc|apply Kd.C_drew|apply Kd.C_drewN)) hb) HCo.out;have HC5:=ζa hl5;have HRn5:=ζa hq5;have HS5:=ζa hsf;clear hl5 hq5 ho hsf;replace BKp:=ζa (blk_below (by repeat (first|exact BKp.out|apply δo|apply δp|apply δn)) hb);replace BKm:=ζa (blk_below (by repeat (first|exact BKm.out|apply δo|apply δp|apply δn)) hb);replace BKd:=ζa (blk_below (by repeat (first|exact BKd.out|apply δo|apply δp|apply δn)) hb);replace HB:=ζa (δr (by repeat (first|exact HB.out|apply δk|apply δj|apply δi)) hb);clear hb))
    all_goals
     clear hzp_0 hfp_0 hzp_1 hfp_1 hzp_2 hfp_2 hzm_0 hfm_0 hzm_1 hfm_1 hzd_0 hfd_0 hzd_1 hfd_1
     have hzp_0:=(δl BKp.out 0).trans rfl
     have hzp_1:=(δl BKp.out 1).trans rfl
     have hzp_2:=(δl BKp.out 2).trans rfl
     have hzm_0:=(δl BKm.out 0).trans rfl
     have hzm_1:=(δl BKm.out 1).trans rfl
     have hzd_0:=(δl BKd.out 0).trans rfl
     have hzd_1:=(δl BKd.out 1).trans rfl
     have hfp_0:=δm BKp.out 0
     have hfp_1:=δm BKp.out 1
     have hfp_2:=δm BKp.out 2
     have hfm_0:=δm BKm.out 0
     have hfm_1:=δm BKm.out 1
     have hfd_0:=δm BKd.out 0
     have hfd_1:=δm BKd.out 1
     have h:=HN0.out
     clear HN0
     by_cases c0:c1=0
     ·
      rw [if_pos c0] at h
      subst c0
      have HN:=ζa h
      clear h
      go_wp2
      go_roundg 1
      case measure=>omega
      case rel=>exact ⟨adr5,cap5,o1,rfl,rfl,(by rfl),by omega,HN,⟨by repeat (exact HRn5.out)⟩,HC5,⟨by repeat (exact HS5.out)⟩,⟨by repeat (exact BKp.out)⟩,⟨by repeat (exact BKm.out)⟩,⟨by repeat (exact BKd.out)⟩,⟨by repeat (exact HB.out)⟩⟩
     ·
      rw [if_neg c0] at h
      have f0:(c1 != 0)=τ:=bne_iff_ne.mpr c0
      have f1:(c1 == 0)=φ:=beq_eq_false_iff_ne.mpr c0
      clear c0
      simp only [Option.some.injEq,Prod.mk.injEq] at h
      obtain ⟨rfl,rfl⟩:=h
      go_wp2
      go_ret2
      exact ⟨_,rfl,⟨Or.inl ⟨rfl,rfl⟩⟩,(by repeat (exact HB.out))⟩
   ·
    rw [if_neg q1] at h5_
    by_cases q2:dx<0
    ·
     rw [if_pos q2,← i64_w] at h5_
     have f2:decide (0<dx)=φ:=decide_eq_false q1
     have f3:decide (dx<0)=τ:=decide_eq_true q2
     clear q1 q2
     have H5:=ζa h5_
     clear h5_
     go_wp2_with fail
     go_region_held3 (fun w'=>w'.cell? ⟨gbp,0,none⟩=some (.int .i64 p_0)∧w'.cell? ⟨gbp,1,none⟩=some (.int .i64 p_1)∧w'.cell? ⟨gbp,2,none⟩=some (.int .i64 p_2)∧w'.cell? ⟨gbm,0,none⟩=some (.int .i64 dx)∧w'.cell? ⟨gbm,1,none⟩=some (.int .i64 dy)∧w'.cell? ⟨gbd,0,none⟩=some (.string name)∧w'.cell? ⟨gbd,1,none⟩=some (.string vd)) (first|go_keep|exact ⟨(δl (by repeat (exact BKp.out)) 0).trans rfl,(δl (by repeat (exact BKp.out)) 1).trans rfl,(δl (by repeat (exact BKp.out)) 2).trans rfl,(δl (by repeat (exact BKm.out)) 0).trans rfl,(δl (by repeat (exact BKm.out)) 1).trans rfl,(δl (by repeat (exact BKd.out)) 0).trans rfl,(δl (by repeat (exact BKd.out)) 1).trans rfl⟩)
      (first
       | (go_at_call 78;(with_reducible refine (spec_l05Move.calls k A cp o (⟨#[112,111,111,108]⟩:ByteArray) who name (IntKind.i64.wrap (-dx)) o1 c1 _ (by repeat (first|exact HRo.out|apply Kd.C_alloc|apply Kd.C_drew|apply Kd.C_drewN)) HCo.out H5.out).mono ?_);rintro e w5 ⟨v5,rfl,ho,hb⟩;have hsf:=Sf.trans (by repeat (first|exact HSo.out|apply Sf.alloc|apply Sf.drew|apply Sf.drewN)) ho hb (Below.size (show Below w.heap.size w _ from by repeat (first|exact HB.out|apply δk|apply δj|apply δi)));obtain ⟨adr5,cap5,rfl,hl5,hq5⟩:=Sf.reads ho (Kd.C_below (by repeat (first|exact HRo.out|apply Kd.C_alloc|apply Kd.C_drew|apply Kd.C_drewN)) hb) HCo.out;have HC5:=ζa hl5;have HRn5:=ζa hq5;have HS5:=ζa hsf;clear hl5 hq5 ho hsf;replace BKp:=ζa (blk_below (by repeat (first|exact BKp.out|apply δo|apply δp|apply δn)) hb);replace BKm:=ζa (blk_below (by repeat (first|exact BKm.out|apply δo|apply δp|apply δn)) hb);replace BKd:=ζa (blk_below (by repeat (first|exact BKd.out|apply δo|apply δp|apply δn)) hb);replace HB:=ζa (δr (by repeat (first|exact HB.out|apply δk|apply δj|apply δi)) hb);clear hb))
     all_goals
      clear hzp_0 hfp_0 hzp_1 hfp_1 hzp_2 hfp_2 hzm_0 hfm_0 hzm_1 hfm_1 hzd_0 hfd_0 hzd_1 hfd_1
      have hzp_0:=(δl BKp.out 0).trans rfl
      have hzp_1:=(δl BKp.out 1).trans rfl
      have hzp_2:=(δl BKp.out 2).trans rfl
      have hzm_0:=(δl BKm.out 0).trans rfl
      have hzm_1:=(δl BKm.out 1).trans rfl
      have hzd_0:=(δl BKd.out 0).trans rfl
      have hzd_1:=(δl BKd.out 1).trans rfl
      have hfp_0:=δm BKp.out 0
      have hfp_1:=δm BKp.out 1
      have hfp_2:=δm BKp.out 2
      have hfm_0:=δm BKm.out 0
      have hfm_1:=δm BKm.out 1
      have hfd_0:=δm BKd.out 0
      have hfd_1:=δm BKd.out 1
      have h:=HN0.out
      clear HN0
      by_cases c0:c1=0
      ·
       rw [if_pos c0] at h
       subst c0
       have HN:=ζa h
       clear h
       go_wp2
       go_roundg 1
       case measure=>omega
       case rel=>exact ⟨adr5,cap5,o1,rfl,rfl,(by rfl),by omega,HN,⟨by repeat (exact HRn5.out)⟩,HC5,⟨by repeat (exact HS5.out)⟩,⟨by repeat (exact BKp.out)⟩,⟨by repeat (exact BKm.out)⟩,⟨by repeat (exact BKd.out)⟩,⟨by repeat (exact HB.out)⟩⟩
      ·
       rw [if_neg c0] at h
       have f0:(c1 != 0)=τ:=bne_iff_ne.mpr c0
       have f1:(c1 == 0)=φ:=beq_eq_false_iff_ne.mpr c0
       clear c0
       simp only [Option.some.injEq,Prod.mk.injEq] at h
       obtain ⟨rfl,rfl⟩:=h
       go_wp2
       go_ret2
       exact ⟨_,rfl,⟨Or.inl ⟨rfl,rfl⟩⟩,(by repeat (exact HB.out))⟩
    ·
     rw [if_neg q2] at h5_
     have f2:decide (0<dx)=φ:=decide_eq_false q1
     have f3:decide (dx<0)=φ:=decide_eq_false q2
     clear q1 q2
     simp only [Option.some.injEq,Prod.mk.injEq] at h5_
     obtain ⟨rfl,rfl⟩:=h5_
     have h:=HN0.out
     clear HN0
     rw [if_pos rfl] at h
     have HN:=ζa h
     clear h
     go_wp2
     go_roundg 1
     case measure=>omega
     case rel=>exact ⟨A,cp,o,rfl,rfl,(by rfl),by omega,HN,⟨by repeat (exact HRo.out)⟩,HCo,⟨by repeat (exact HSo.out)⟩,⟨by repeat (exact BKp.out)⟩,⟨by repeat (exact BKm.out)⟩,⟨by repeat (exact BKd.out)⟩,⟨by repeat (exact HB.out)⟩⟩


open Go.Proofs.YtabmfhnhmoiljaaGreatDoorW.PrintWords renaming gate_callee → δv

/-! ### spec_l02Amount: function 126 -/
def spec_l02Amount.f (a0:Int):Option (Bool):=(spec_l01In.f a0 0 1000000000000000000).bind fun t976=>(some t976)
set_option maxHeartbeats 8000000 in
set_option maxRecDepth 100000 in
theorem spec_l02Amount.calls (a0:Int) (r:Bool) (w:World) (h:spec_l02Amount.f a0=some r) :
  Calls Tryz.prog 126 #[.int .i64 a0] w fun e w'=>e = .returned (.bool r)∧Drawn0 w w':=by
 have H:((spec_l01In.f a0 0 1000000000000000000).bind fun t976=>(some t976))=some r:=h
 clear h
 replace H:=Option.bind_eq_some_iff.mp H
 obtain ⟨t976,A20,H⟩:=H
 replace H:(some t976)=some r:=H
 have A2:=ζa A20
 clear A20
 obtain rfl:=Option.some.inj H
 go_enter Tryz.func126,Tryz.ntmps126
 go_wp2_with (((with_reducible refine δv (f:=77) rfl ?_);refine goesL_ (some 4) rfl rfl Tryz.func77 (by kernel_rfl) rfl #[.int .i64 a0,.int .i64 0,.int .i64 1000000000000000000] rfl (by (try simp only [δd,δe,δf]);rfl) ?_;(with_reducible refine (spec_l01In.calls a0 0 1000000000000000000 t976 _ A2.out).mono ?_);rintro e w' ⟨rfl,⟨nd,rfl⟩⟩;refine ⟨_,rfl,?_⟩))
 go_ret
 exact ⟨by rfl,by repeat (first|exact Drawn0.refl _|apply Drawn0.step)⟩



/-! ### spec_l02Wide: function 198 -/
def spec_l02Wide.f (a0:Int) (a1:Int):Option (Int × Int):=some (ζm ((ζm ((ζm (Int.tdiv a0 1000000000)) * (ζm (Int.tdiv a1 1000000000))))+(ζm (Int.tdiv (ζm ((ζm ((ζm ((ζm (Int.tdiv a0 1000000000)) * (Int.tmod a1 1000000000)))+(ζm ((Int.tmod a0 1000000000) * (ζm (Int.tdiv a1 1000000000))))))+(ζm (Int.tdiv (ζm ((Int.tmod a0 1000000000) * (Int.tmod a1 1000000000))) 1000000000)))) 1000000000))),ζm ((ζm ((Int.tmod (ζm ((ζm ((ζm ((ζm (Int.tdiv a0 1000000000)) * (Int.tmod a1 1000000000)))+(ζm ((Int.tmod a0 1000000000) * (ζm (Int.tdiv a1 1000000000))))))+(ζm (Int.tdiv (ζm ((Int.tmod a0 1000000000) * (Int.tmod a1 1000000000))) 1000000000)))) 1000000000) * 1000000000))+(Int.tmod (ζm ((Int.tmod a0 1000000000) * (Int.tmod a1 1000000000))) 1000000000)))
set_option maxHeartbeats 8000000 in
set_option maxRecDepth 100000 in
theorem spec_l02Wide.calls (a0:Int) (a1:Int) (r1:Int) (r2:Int) (w:World) (h:spec_l02Wide.f a0 a1=some (r1,r2)) :
  Calls Tryz.prog 198 #[.int .i64 a0,.int .i64 a1] w fun e w'=>e = .returned (.tuple #[.int .i64 r1,.int .i64 r2])∧Drawn0 w w':=by
 have H:(some (ζm ((ζm ((ζm (Int.tdiv a0 1000000000)) * (ζm (Int.tdiv a1 1000000000))))+(ζm (Int.tdiv (ζm ((ζm ((ζm ((ζm (Int.tdiv a0 1000000000)) * (Int.tmod a1 1000000000)))+(ζm ((Int.tmod a0 1000000000) * (ζm (Int.tdiv a1 1000000000))))))+(ζm (Int.tdiv (ζm ((Int.tmod a0 1000000000) * (Int.tmod a1 1000000000))) 1000000000)))) 1000000000))),ζm ((ζm ((Int.tmod (ζm ((ζm ((ζm ((ζm (Int.tdiv a0 1000000000)) * (Int.tmod a1 1000000000)))+(ζm ((Int.tmod a0 1000000000) * (ζm (Int.tdiv a1 1000000000))))))+(ζm (Int.tdiv (ζm ((Int.tmod a0 1000000000) * (Int.tmod a1 1000000000))) 1000000000)))) 1000000000) * 1000000000))+(Int.tmod (ζm ((Int.tmod a0 1000000000) * (Int.tmod a1 1000000000))) 1000000000))))=some (r1,r2):=h
 clear h
 simp only [Option.some.injEq,Prod.mk.injEq] at H
 obtain ⟨rfl,rfl⟩:=H
 go_enter Tryz.func198,Tryz.ntmps198
 go_wp2
 go_ret2
 exact ⟨by rfl,by repeat (exact Drawn0.refl _)⟩

end Go.Proofs.YtabmfhnhmoiljaaGreatDoor.Q
