/- Parts of the proof: what single Go functions compute, each with its walk, and plain laws over these. -/
import Derived.Test.YteghpdmlpefnfaaDoorM0
import Derived.Test.YteghpdmlpefnfaaDoorM1
namespace Go.Proofs.YteghpdmlpefnfaaDoor.Q
open Go.RowKit Go.Proofs.YteghpdmlpefnfaaDoorW.PrintWords Go.Proofs.YteghpdmlpefnfaaDoorW.PrintLast Go.Proofs.YteghpdmlpefnfaaDoorW.PrintMore
open Go.RowKit renaming wrap64 → ζm
open Go.Proofs.YteghpdmlpefnfaaDoorW.PrintWords.Aside0 renaming mk → ζa
open Go.Proofs.YteghpdmlpefnfaaDoorW.PrintWords renaming below_drew1 → δj, below_size → δs, below_step → δr, gate_callee → δv, pw_below_drewN → δi
open Go.Proofs.YteghpdmlpefnfaaDoorW.PrintLast renaming pure_ → ζk, any_of → ζj
open Go.Act renaming put → ζl
open List renaming setIfInBounds_toArray → δa, set_cons_zero → δb, set_cons_succ → δc, map_toArray → δd, map_cons → δe, map_nil → δf
open Go.Proofs.YteghpdmlpefnfaaDoorW.PrintWords.Kd renaming R_drewN → ζc, R_drew → ζe
open Bool renaming true → τ, false → φ
attribute [local go_sem] max2_int min2_int max_two min_two max_three min_three max_four min_four   -- for this text's walks alone
set_option linter.unusedVariables false
set_option linter.unusedSimpArgs false

/-! ### impl_readFields: function 89 -/
mutual
def impl_readFields.j0:Nat→ByteArray→Bool→Option (List ByteArray × Bool)
 | 0,_,_=>none
 | k+1,x0,x13=>if x13=τ then (some (([]:List ByteArray),φ)) else (if 1≤(x0.size:Int) then (if 0<(x0.size:Int) then (impl_readFields.l0 k (([]:List ByteArray)) (x0.extract 1 x0.size) (ζm (bt x0 0)) 0) else (none)) else (none))
def impl_readFields.l0:Nat→List ByteArray→ByteArray→Int→Int→Option (List ByteArray × Bool)
 | 0,_,_,_,_=>none
 | k+1,x4,x5,x19,x20=>if x20<x19 then (if (x5.size:Int)<2 then (some (([]:List ByteArray),φ)) else (if 0≤2 then (if 2≤(x5.size:Int) then ((impl_numberOf.f k (x5.extract 0 2)).bind fun t270=>(if t270 > 1000 then (some (([]:List ByteArray),φ)) else (if (x5.size:Int)<(ζm (2+t270)) then (some (([]:List ByteArray),φ)) else (if 2≤(ζm (2+t270)) then (if (ζm (2+t270))≤(x5.size:Int) then (if x4.length<8796093022208 then (if 0≤(ζm (2+t270)) then (impl_readFields.l0 k (x4 ++ [x5.extract 2 ((ζm (2+t270)):Int).toNat]) (x5.extract ((ζm (2+t270)):Int).toNat x5.size) x19 (ζm (x20+1))) else (none)) else (none)) else (none)) else (none))))) else (none)) else (none))) else (some (x4,(x5.toList == ([]:List UInt8))))
end
def impl_readFields.f (k:Nat) (a0:ByteArray):Option (List ByteArray × Bool):=if a0.toList=([]:List UInt8) then (impl_readFields.j0 k a0 τ) else (if 0<(a0.size:Int) then (impl_readFields.j0 k a0 (decide ((bt a0 0) > 40))) else (none))
def impl_readFields.T11:Bool × List (List Nat × List Nat):=(τ,[([],[]),([],[]),([],[]),([2],[2]),([1,3],[1,3]),([4],[4]),([0,5],[0,5]),([],[]),([],[]),([8],[8]),([7,9],[7,9]),([6,6,0,1,2,3,4,5,6],[0,6]),([10,11,0,1,2,3,4,5,6,7,8,9,10,11],[1,7,10])])
def impl_readFields.B11:List Nat:=[0,0,0,4,14,30,63,0,0,256,896,127,4095]
theorem impl_readFields.tab11:rtab .any (opsOf Tryd.f89 11)=impl_readFields.T11:=by kernel_rfl
theorem impl_readFields.bits11:waitsOk impl_readFields.T11.2 impl_readFields.B11=τ:=by kernel_rfl
set_option maxHeartbeats 8000000 in
set_option maxRecDepth 100000 in
theorem impl_readFields.calls (k:Nat) (a0:ByteArray) (r1:List ByteArray) (r2:Bool) (w:World) (h:impl_readFields.f k a0=some (r1,r2)) :
  Calls Tryd.prog 89 #[.string a0] w fun e w' => ∃ v0_:Value,e = .returned (.tuple #[v0_,.bool r2])∧Kd.R Kd.string 9 w' w.heap.size (fun _=>True) v0_ r1∧Below w.heap.size w w':=by
 have HB:=ζa (Below.refl w.heap.size w)
 have H:(if a0.toList=([]:List UInt8) then (impl_readFields.j0 k a0 τ) else (if 0<(a0.size:Int) then (impl_readFields.j0 k a0 (decide ((bt a0 0) > 40))) else (none)))=some (r1,r2):=h
 clear h
 have HC2:=ζa H
 clear H
 go_enter Tryd.func89,Tryd.ntmps89
 go_upto_region 1 with (fail)
 go_cut [13] (fun v13 wc => ∃ (kq:Nat) (x13_1:Bool),v13 = .bool x13_1∧Aside0 (impl_readFields.j0 kq a0 x13_1=some (r1,r2))∧Aside0 (kq≤k)∧Aside0 (Below w.heap.size w wc))
 case first =>
  have H:=HC2.out
  clear HC2
  by_cases c3:a0.toList=([]:List UInt8)
  ·
   rw [if_pos c3] at H
   have c3b0:(a0.toList == ([]:List UInt8))=τ:=beq_iff_eq.mpr c3
   have c3b1:(a0.toList != ([]:List UInt8))=φ:=bne_eq_false_iff_eq.mpr c3
   clear c3
   (skip)
   have H':=ζa H
   clear H
   go_wp2
   go_meet
   case rel=>exact ⟨_,(τ),(by rfl),H',⟨by omega⟩,⟨by repeat ((with_reducible exact HB.out))⟩⟩
  ·
   rw [if_neg c3] at H
   have c3b0:(a0.toList == ([]:List UInt8))=φ:=beq_eq_false_iff_ne.mpr c3
   have c3b1:(a0.toList != ([]:List UInt8))=τ:=bne_iff_ne.mpr c3
   (skip)
   by_cases c4:0<(a0.size:Int)
   ·
    rw [if_pos c4] at H
    have c4b0:decide (0<(a0.size:Int))=τ:=decide_eq_true c4
    have c4b1:decide (0<a0.size)=τ:=decide_eq_true (by omega)
    clear c4
    have H':=ζa H
    clear H
    have p5:0≤(0:Int):=(by omega)
    have q5:0<a0.size:=(by have:(0:Int)<(a0.size:Int):=of_decide_eq_true (by (with_reducible assumption));omega)
    have hx5 : ∀ h:0<a0.size,((a0[0]'h).toNat:Int)=bt a0 0:=bt_at a0 0
    clear p5
    have qi5:(0<(a0.size:Int))=True:=eq_true (of_decide_eq_true (by (with_reducible assumption)))
    replace q5:=eq_true q5
    go_wp2
    go_meet
    case rel=>exact ⟨_,(decide ((bt a0 0) > 40)),(by rfl),H',⟨by omega⟩,⟨by repeat ((with_reducible exact HB.out))⟩⟩
   ·
    rw [if_neg c4] at H
    exact absurd H (by simp)
 case rest =>
  clear HC2
  try clear p2
  try clear c3
  try clear c3b0
  try clear c3b1
  try clear c4
  try clear c4b0
  try clear c4b1
  try clear p5
  try clear q5
  try clear hx5
  try clear qi5
  try clear p5
  try clear q5
  obtain ⟨kq,x13_1,rfl,HA,HJ1,HB⟩:=hcut
  cases kq with
  | zero=>exact absurd HA.out (by simp [impl_readFields.j0])
  | succ kj1 =>
   have H:=HA.out
   clear HA
   simp only [impl_readFields.j0] at H
   by_cases c6:x13_1=τ
   ·
    subst c6
    have H1:(some (([]:List ByteArray),φ))=some (r1,r2):=by rw [if_pos rfl] at H;exact H
    clear H
    have H:=H1
    clear H1
    simp only [Option.some.injEq,Prod.mk.injEq] at H
    obtain ⟨rfl,rfl⟩:=H
    go_wp2
    go_ret2
    exact ⟨_,by rfl,by exact Kd.R_nil _ _ _ _ _,by repeat ((with_reducible exact HB.out))⟩
   ·
    replace c6:=Bool.eq_false_iff.mpr c6
    subst c6
    have H1:(if 1≤(a0.size:Int) then (if 0<(a0.size:Int) then (impl_readFields.l0 kj1 (([]:List ByteArray)) (a0.extract 1 a0.size) (ζm (bt a0 0)) 0) else (none)) else (none))=some (r1,r2):=by rw [if_neg (show ¬ (φ=τ) by decide)] at H;exact H
    clear H
    have H:=H1
    clear H1
    obtain ⟨y267,hy267⟩ : ∃ y_:List ByteArray,y_=(([]:List ByteArray)):=⟨_,rfl⟩
    replace H:(if 1≤(a0.size:Int) then (if 0<(a0.size:Int) then (impl_readFields.l0 kj1 y267 (a0.extract 1 a0.size) (ζm (bt a0 0)) 0) else (none)) else (none))=some (r1,r2):=by (rw [hy267];with_reducible exact H)
    have Ny267:=ζa hy267
    clear hy267
    by_cases c7:1≤(a0.size:Int)
    ·
     rw [if_pos c7] at H
     have c7b0:=eq_true c7
     have c7b1:decide (1≤(a0.size:Int))=τ:=decide_eq_true c7
     clear c7
     by_cases c8:0<(a0.size:Int)
     ·
      rw [if_pos c8] at H
      have c8b0:decide (0<(a0.size:Int))=τ:=decide_eq_true c8
      have c8b1:decide (0<a0.size)=τ:=decide_eq_true (by omega)
      clear c8
      have H':=ζa H
      clear H
      try go_wp2
      have n0_:=ζa (δj HB.out)
      clear HB
      have HB:=n0_
      clear n0_
      refine start_ (n:=5) (S:=fun w'=>True) (ds:=[]) #[φ,φ,φ,φ,φ] (by kernel_rfl) rfl rfl trivial (fun hHeld => ?_)
      generalize wc.drew=w10 at HB hHeld ⊢
      refine ζk (i:=1) (N:=some 15) (v:=?_) (a':=?_) #[φ,τ,φ,φ,φ] rfl rfl (by kernel_rfl) (fun _ _ _ h=>h) (Or.inl ⟨by rfl,?_⟩) ?_ ?_
      rotate_left
      · intro w';go_simp;with_reducible rfl
      rotate_left
      · simp only [ζl,δa,δb,δc,i64_w,i32_w];rfl
      refine ζk (i:=2) (N:=some 16) (v:=?_) (a':=?_) #[φ,τ,τ,φ,φ] rfl rfl (by kernel_rfl) (fun _ _ _ h=>h) (Or.inl ⟨by rfl,?_⟩) ?_ ?_
      rotate_left
      · intro w';go_simp;with_reducible rfl
      rotate_left
      · simp only [ζl,δa,δb,δc,i64_w,i32_w];rfl
      refine one_ (i:=0) (N:=some 14) #[τ,τ,τ,φ,φ] rfl rfl (by kernel_rfl) (by decide) (fun K hK => ?_)
      refine Kd.R_lit_step Kd.string _ 9 ?hg (N:=14) ?hd (xs:=([]:List ByteArray)) (inner:=[]) (ok:=fun _=>True) (okp:=fun _=>True) ?hr ?hp (fun _ hk=>hk) trivial (Below.refl _ _) (Nat.le_refl _) (by simp) ?_;(case hd=>rfl);(case hg=>rfl);(case hr=>(go_simp;done));(case hp=>exact (Reps.none _ _))
      intro v268 w11 ho12 hb hg_ hnew_
      clear hg_ hnew_
      (rw [← Ny267.out] at ho12)
      have n0_:=ζa (Kd.R_lower ho12 (δs (by exact HB.out)))
      have n1_:=ζa (δr (by exact HB.out) hb)
      clear HB
      have HO269:=n0_
      have HB:=n1_
      clear n0_ n1_
      clear hb ho12
      refine hK.out _ _ trivial (fun hHeld => ?_)
      clear hK K
      refine norm_ (a':=?_) ?_ ?_
      rotate_left
      ·
       show ζl _ (some 14) _=_
       simp only [ζl,δa,δb,δc,i64_w,i32_w];rfl
      refine ζk (i:=3) (N:=some 4) (v:=?_) (a':=?_) #[τ,τ,τ,τ,φ] rfl rfl (by kernel_rfl) (fun _ _ _ h=>h) (Or.inl ⟨by rfl,?_⟩) ?_ ?_
      rotate_left
      · intro w';go_simp;with_reducible rfl
      rotate_left
      · simp only [ζl,δa,δb,δc,i64_w,i32_w];rfl
      refine ζk (i:=4) (N:=some 5) (v:=?_) (a':=?_) #[τ,τ,τ,τ,τ] rfl rfl (by kernel_rfl) (fun _ _ _ h=>h) (Or.inl ⟨by rfl,?_⟩) ?_ ?_
      rotate_left
      · intro w';go_simp;with_reducible rfl
      rotate_left
      · simp only [ζl,δa,δb,δc,i64_w,i32_w];rfl
      refine done_ (by kernel_rfl) ?_
      have p9:0≤(0:Int):=(by omega)
      have q9:0<a0.size:=(by have:(0:Int)<(a0.size:Int):=of_decide_eq_true (by (with_reducible assumption));omega)
      have hx9 : ∀ h:0<a0.size,((a0[0]'h).toNat:Int)=bt a0 0:=bt_at a0 0
      clear p9
      have qi9:(0<(a0.size:Int))=True:=eq_true (of_decide_eq_true (by (with_reducible assumption)))
      replace q9:=eq_true q9
      try go_wp2
      go_loopg [4,5,20] kj1 (fun kq v4 v5 v20 w' => ∃ (x4_2:List ByteArray) (x5_2:ByteArray) (x20_2:Int),v5 = .string x5_2∧v20 = .int .i64 x20_2∧Aside0 (impl_readFields.l0 kq x4_2 x5_2 (ζm (bt a0 0)) x20_2=some (r1,r2))∧Aside0 (kq≤kj1)∧Aside0 (Kd.R Kd.string 9 w' w.heap.size (fun _=>True) v4 x4_2)∧Aside0 (Below w.heap.size w w'))
      case atStart=>exact ⟨(y267),(a0.extract 1 a0.size),(0),(by rfl),(by rfl),H',⟨Nat.le_refl _⟩,⟨by exact HO269.out⟩,⟨by repeat ((with_reducible exact HB.out))⟩⟩
      case round =>
       clear H'
       try clear p2
       try clear c3
       try clear c3b0
       try clear c3b1
       try clear c4
       try clear c4b0
       try clear c4b1
       try clear p5
       try clear q5
       try clear hx5
       try clear qi5
       try clear c6
       try clear p6
       try clear c7
       try clear c7b0
       try clear c7b1
       try clear c8
       try clear c8b0
       try clear c8b1
       try clear p9
       try clear q9
       try clear hx9
       try clear qi9
       try clear p2
       try clear p5
       try clear p9
       try clear q5
       try clear q9
       obtain ⟨x4_2,x5_2,x20_2,rfl,rfl,HA,HK2,HO_4,HB⟩:=hrel
       cases gk with
       | zero=>exact absurd HA.out (by simp [impl_readFields.l0])
       | succ k2 =>
        have H:=HA.out
        clear HA
        simp only [impl_readFields.l0] at H
        by_cases c13:x20_2<(ζm (bt a0 0))
        ·
         rw [if_pos c13] at H
         have c13b0:decide (x20_2<(ζm (bt a0 0)))=τ:=decide_eq_true c13
         clear c13
         by_cases c14:(x5_2.size:Int)<2
         ·
          rw [if_pos c14] at H
          have c14b0:decide ((x5_2.size:Int)<2)=τ:=decide_eq_true c14
          have c14b1:decide (x5_2.size<2)=τ:=decide_eq_true (by omega)
          clear c14
          simp only [Option.some.injEq,Prod.mk.injEq] at H
          obtain ⟨rfl,rfl⟩:=H
          go_wp2
          go_ret2
          exact ⟨_,by rfl,by exact Kd.R_nil _ _ _ _ _,by repeat ((with_reducible exact HB.out))⟩
         ·
          rw [if_neg c14] at H
          have c14b0:decide ((x5_2.size:Int)<2)=φ:=decide_eq_false c14
          have c14b1:decide (x5_2.size<2)=φ:=decide_eq_false (by omega)
          clear c14
          by_cases c15:0≤2
          ·
           rw [if_pos c15] at H
           have c15b0:=eq_true c15
           have c15b1:decide (0≤2)=τ:=decide_eq_true c15
           clear c15
           by_cases c16:2≤(x5_2.size:Int)
           ·
            rw [if_pos c16] at H
            have c16b0:=eq_true c16
            have c16b1:decide (2≤(x5_2.size:Int))=τ:=decide_eq_true c16
            clear c16
            replace H:=Option.bind_eq_some_iff.mp H
            obtain ⟨t270,A170,H⟩:=H
            replace H:(if t270 > 1000 then (some (([]:List ByteArray),φ)) else (if (x5_2.size:Int)<(ζm (2+t270)) then (some (([]:List ByteArray),φ)) else (if 2≤(ζm (2+t270)) then (if (ζm (2+t270))≤(x5_2.size:Int) then (if x4_2.length<8796093022208 then (if 0≤(ζm (2+t270)) then (impl_readFields.l0 k2 (x4_2 ++ [x5_2.extract 2 ((ζm (2+t270)):Int).toNat]) (x5_2.extract ((ζm (2+t270)):Int).toNat x5_2.size) (ζm (bt a0 0)) (ζm (x20_2+1))) else (none)) else (none)) else (none)) else (none))))=some (r1,r2):=H
            have A17:=ζa A170
            clear A170
            by_cases c18:t270 > 1000
            ·
             rw [if_pos c18] at H
             have c18b0:decide (1000<t270)=τ:=decide_eq_true c18
             clear c18
             simp only [Option.some.injEq,Prod.mk.injEq] at H
             obtain ⟨rfl,rfl⟩:=H
             go_wp2_with (((with_reducible refine δv (f:=127) rfl ?_);refine goesL_ (some 27) rfl rfl Tryd.func127 (by kernel_rfl) rfl #[.string (x5_2.extract 0 2)] rfl (by (try simp only [δd,δe,δf]);rfl) ?_;(with_reducible refine (impl_numberOf.calls k2 (x5_2.extract 0 2) t270 _ A17.out).mono ?_);rintro e w' ⟨rfl,⟨nd,rfl⟩⟩;refine ⟨_,rfl,?_⟩))
             go_ret2
             exact ⟨_,by rfl,by exact Kd.R_nil _ _ _ _ _,by repeat ((with_reducible first|exact HB.out|apply δi))⟩
            ·
             rw [if_neg c18] at H
             have c18b0:decide (1000<t270)=φ:=decide_eq_false c18
             clear c18
             by_cases c19:(x5_2.size:Int)<(ζm (2+t270))
             ·
              rw [if_pos c19] at H
              have c19b0:decide ((x5_2.size:Int)<(ζm (2+t270)))=τ:=decide_eq_true c19
              clear c19
              simp only [Option.some.injEq,Prod.mk.injEq] at H
              obtain ⟨rfl,rfl⟩:=H
              go_wp2_with (((with_reducible refine δv (f:=127) rfl ?_);refine goesL_ (some 27) rfl rfl Tryd.func127 (by kernel_rfl) rfl #[.string (x5_2.extract 0 2)] rfl (by (try simp only [δd,δe,δf]);rfl) ?_;(with_reducible refine (impl_numberOf.calls k2 (x5_2.extract 0 2) t270 _ A17.out).mono ?_);rintro e w' ⟨rfl,⟨nd,rfl⟩⟩;refine ⟨_,rfl,?_⟩))
              go_ret2
              exact ⟨_,by rfl,by exact Kd.R_nil _ _ _ _ _,by repeat ((with_reducible first|exact HB.out|apply δi))⟩
             ·
              rw [if_neg c19] at H
              have c19b0:decide ((x5_2.size:Int)<(ζm (2+t270)))=φ:=decide_eq_false c19
              clear c19
              by_cases c20:2≤(ζm (2+t270))
              ·
               rw [if_pos c20] at H
               have c20b0:=eq_true c20
               have c20b1:decide (2≤(ζm (2+t270)))=τ:=decide_eq_true c20
               by_cases c21:(ζm (2+t270))≤(x5_2.size:Int)
               ·
                rw [if_pos c21] at H
                have c21b0:=eq_true c21
                have c21b1:decide ((ζm (2+t270))≤(x5_2.size:Int))=τ:=decide_eq_true c21
                by_cases c22:x4_2.length<8796093022208
                ·
                 rw [if_pos c22] at H
                 have LMc22:=ζa c22
                 clear c22
                 obtain ⟨y271,hy271⟩ : ∃ y_:List ByteArray,y_=(x4_2 ++ [x5_2.extract 2 ((ζm (2+t270)):Int).toNat]):=⟨_,rfl⟩
                 replace H:(if 0≤(ζm (2+t270)) then (impl_readFields.l0 k2 y271 (x5_2.extract ((ζm (2+t270)):Int).toNat x5_2.size) (ζm (bt a0 0)) (ζm (x20_2+1))) else (none))=some (r1,r2):=by (rw [hy271];with_reducible exact H)
                 have Ny271:=ζa hy271
                 clear hy271
                 obtain ⟨ji23,hji23⟩ : ∃ j_:Int,(ζm (2+t270))=j_:=⟨_,rfl⟩
                 replace H:(if 0≤(ji23) then (impl_readFields.l0 k2 y271 (x5_2.extract ((ji23):Int).toNat x5_2.size) (ζm (bt a0 0)) (ζm (x20_2+1))) else (none))=some (r1,r2):=by (rw [hji23] at H;exact H)
                 (try rw [hji23] at c19b0)
                 (try rw [hji23] at c20b0)
                 (try rw [hji23] at c20b1)
                 (try rw [hji23] at c20)
                 (try rw [hji23] at c21b0)
                 (try rw [hji23] at c21b1)
                 (try rw [hji23] at c21)
                 (try rw [hji23] at A17)
                 (try rw [hji23] at Ny271)
                 have hji23w:(IntKind.i64.wrap (2+t270))=ji23:=(i64_w _).trans hji23
                 by_cases c24:0≤(ji23)
                 ·
                  rw [if_pos c24] at H
                  have c24b0:=eq_true c24
                  have c24b1:decide (0≤(ji23))=τ:=decide_eq_true c24
                  clear c24
                  have c25b0:=eq_true (of_decide_eq_true (by (with_reducible assumption)):(ji23)≤(x5_2.size:Int))
                  have H':=ζa H
                  clear H
                  try go_wp2_with (((with_reducible refine δv (f:=127) rfl ?_);refine goesL_ (some 27) rfl rfl Tryd.func127 (by kernel_rfl) rfl #[.string (x5_2.extract 0 2)] rfl (by (try simp only [δd,δe,δf]);rfl) ?_;(with_reducible refine (impl_numberOf.calls k2 (x5_2.extract 0 2) t270 _ A17.out).mono ?_);rintro e w' ⟨rfl,⟨nd,rfl⟩⟩;refine ⟨_,rfl,?_⟩))
                  (try (rw [drewN_self wr];generalize hq_:World.drewN wr _=wr;have n0_:Aside0 (Kd.R Kd.string 9 wr w.heap.size (fun _=>True) u4 x4_2):=⟨by rw [← hq_];exact (by (with_reducible repeat (apply ζc));exact HO_4.out)⟩;have n1_:Aside0 (Below w.heap.size w wr):=⟨by rw [← hq_];exact (by repeat ((with_reducible first|exact HB.out|apply δi)))⟩;clear HO_4 HB hq_;have HO_4:=n0_;have HB:=n1_;clear n0_ n1_))
                  have n0_:=ζa (ζe HO_4.out)
                  have n1_:=ζa (δj HB.out)
                  clear HO_4
                  clear HB
                  have HO_4:=n0_
                  have HB:=n1_
                  clear n0_ n1_
                  refine start_ (n:=13) (S:=fun w'=>True) (ds:=[]) #[φ,φ,φ,φ,φ,φ,φ,φ,φ,φ,φ,φ,φ] (by kernel_rfl) rfl rfl trivial (fun hHeld => ?_);refine with_tabW impl_readFields.tab11 impl_readFields.bits11 (fun HT_ HW_ => ?_)
                  generalize wr.drew=w26 at HO_4 HB hHeld ⊢
                  refine ζk (i:=0) (N:=some 37) (v:=?_) (a':=?_) #[τ,φ,φ,φ,φ,φ,φ,φ,φ,φ,φ,φ,φ] rfl rfl (ζj HT_.out (by kernel_rfl)) (fun _ _ _ h=>h) (Or.inl ⟨by rfl,?_⟩) ?_ ?_
                  rotate_left
                  · intro w';go_simp;with_reducible rfl
                  rotate_left
                  · simp only [ζl,δa,δb,δc,i64_w,i32_w];rfl
                  refine ζk (i:=1) (N:=some 38) (v:=?_) (a':=?_) #[τ,τ,φ,φ,φ,φ,φ,φ,φ,φ,φ,φ,φ] rfl rfl (ζj HT_.out (by kernel_rfl)) (fun _ _ _ h=>h) (Or.inl ⟨by rfl,?_⟩) ?_ ?_
                  rotate_left
                  · intro w';go_simp;with_reducible rfl
                  rotate_left
                  · simp only [ζl,δa,δb,δc,i64_w,i32_w];rfl
                  refine ζk (i:=2) (N:=some 39) (v:=?_) (a':=?_) #[τ,τ,τ,φ,φ,φ,φ,φ,φ,φ,φ,φ,φ] rfl rfl (ζj HT_.out (by kernel_rfl)) (fun _ _ _ h=>h) (Or.inl ⟨by rfl,?_⟩) ?_ ?_
                  rotate_left
                  · intro w';go_simp;with_reducible rfl
                  rotate_left
                  · simp only [ζl,δa,δb,δc,i64_w,i32_w];rfl
                  refine ζk (i:=3) (N:=some 40) (v:=?_) (a':=?_) #[τ,τ,τ,τ,φ,φ,φ,φ,φ,φ,φ,φ,φ] rfl rfl (ζj HT_.out (by kernel_rfl)) (fun _ _ _ h=>h) (Or.inl ⟨by rfl,?_⟩) ?_ ?_
                  rotate_left
                  · intro w';go_simp;with_reducible rfl
                  rotate_left
                  · simp only [ζl,δa,δb,δc,i64_w,i32_w];rfl
                  refine ζk (i:=4) (N:=some 41) (v:=?_) (a':=?_) #[τ,τ,τ,τ,τ,φ,φ,φ,φ,φ,φ,φ,φ] rfl rfl (ζj HT_.out (by kernel_rfl)) (fun _ _ _ h=>h) (Or.inl ⟨by rfl,?_⟩) ?_ ?_
                  rotate_left
                  · intro w';go_simp;with_reducible rfl
                  rotate_left
                  · simp only [ζl,δa,δb,δc,i64_w,i32_w];rfl
                  refine ζk (i:=7) (N:=some 44) (v:=?_) (a':=?_) #[τ,τ,τ,τ,τ,φ,φ,τ,φ,φ,φ,φ,φ] rfl rfl (ζj HT_.out (by kernel_rfl)) (fun _ _ _ h=>h) (Or.inl ⟨by rfl,?_⟩) ?_ ?_
                  rotate_left
                  · intro w';go_simp;with_reducible rfl
                  rotate_left
                  · simp only [ζl,δa,δb,δc,i64_w,i32_w];rfl
                  refine ζk (i:=8) (N:=some 45) (v:=?_) (a':=?_) #[τ,τ,τ,τ,τ,φ,φ,τ,τ,φ,φ,φ,φ] rfl rfl (ζj HT_.out (by kernel_rfl)) (fun _ _ _ h=>h) (Or.inl ⟨by rfl,?_⟩) ?_ ?_
                  rotate_left
                  · intro w';go_simp;with_reducible rfl
                  rotate_left
                  · simp only [ζl,δa,δb,δc,i64_w,i32_w];rfl
                  refine ζk (i:=9) (N:=some 46) (v:=?_) (a':=?_) #[τ,τ,τ,τ,τ,φ,φ,τ,τ,τ,φ,φ,φ] rfl rfl (ζj HT_.out (by kernel_rfl)) (fun _ _ _ h=>h) (Or.inl ⟨by rfl,?_⟩) ?_ ?_
                  rotate_left
                  · intro w';go_simp;with_reducible rfl
                  rotate_left
                  · simp only [ζl,δa,δb,δc,i64_w,i32_w];rfl
                  refine ζk (i:=10) (N:=some 47) (v:=?_) (a':=?_) #[τ,τ,τ,τ,τ,φ,φ,τ,τ,τ,τ,φ,φ] rfl rfl (ζj HT_.out (by kernel_rfl)) (fun _ _ _ h=>h) (Or.inl ⟨by rfl,?_⟩) ?_ ?_
                  rotate_left
                  · intro w';go_simp;with_reducible rfl
                  rotate_left
                  · simp only [ζl,δa,δb,δc,i64_w,i32_w];rfl
                  refine one_ (i:=5) (N:=some 42) #[τ,τ,τ,τ,τ,τ,φ,τ,τ,τ,τ,φ,φ] rfl rfl (one_of HT_.out (by kernel_rfl)) (by decide) (fun K hK => ?_)
                  refine value_ (w1:=?_) (v:=?_) (by rfl) rfl ?_ ?_
                  rotate_left 2
                  ·
                   go_simp
                   constructor
                   · rfl
                   ·
                    rfl
                  refine hK.out _ _ trivial (fun hHeld => ?_)
                  clear hK K
                  refine norm_ (a':=?_) ?_ ?_
                  rotate_left
                  ·
                   show ζl _ (some 42) _=_
                   simp only [ζl,δa,δb,δc,i64_w,i32_w];rfl
                  refine one_ (i:=6) (N:=some 43) #[τ,τ,τ,τ,τ,τ,τ,τ,τ,τ,τ,φ,φ] rfl rfl (one_of HT_.out (by kernel_rfl)) (by decide) (fun K hK => ?_)
                  refine Kd.R_append_step Kd.string (w0:=w) w.heap.size (by rfl) (.tmp 37) (.tmp 42) 81 9 (.string ⟨#[]⟩) 16 rfl Tryd.underlying81 info9 rfl (by decide) (by omega) u4 x4_2 (x5_2.extract 2 ((ji23):Int).toNat) [.string (x5_2.extract 2 ((ji23):Int).toNat)] (fun _=>True) (fun _=>False) rfl rfl ?aP (fun _ hk=>hk.elim) ?aF ?aO ?aB ?aS ?aL ?_
                  (case aP=>exact rfl)
                  (case aB=>exact (by exact HB.out))
                  (case aF=>exact (fun _ _=>trivial))
                  (case aO=>exact (by exact HO_4.out))
                  (case aS=>exact (δs (by exact HB.out)))
                  (case aL=>have:=LMc22.out;omega)
                  intro v272 w27 ho hb hg hat
                  rw [← Ny271.out] at ho
                  have n0_:=ζa (hb)
                  have n1_:=ζa (ho)
                  clear HB
                  clear HO_4
                  have HB:=n0_
                  have HO273:=n1_
                  clear n0_ n1_
                  clear ho hb hg hat
                  refine hK.out _ _ trivial (fun hHeld => ?_)
                  clear hK K
                  refine norm_ (a':=?_) ?_ ?_
                  rotate_left
                  ·
                   show ζl _ (some 43) _=_
                   simp only [ζl,δa,δb,δc,i64_w,i32_w];rfl
                  refine ζk (i:=11) (N:=some 4) (v:=?_) (a':=?_) #[τ,τ,τ,τ,τ,τ,τ,τ,τ,τ,τ,τ,φ] rfl rfl (ζj HT_.out (by kernel_rfl)) (fun _ _ _ h=>h) (Or.inl ⟨by rfl,?_⟩) ?_ ?_
                  rotate_left
                  · intro w';go_simp;with_reducible rfl
                  rotate_left
                  · simp only [ζl,δa,δb,δc,i64_w,i32_w];rfl
                  refine ζk (i:=12) (N:=some 5) (v:=?_) (a':=?_) #[τ,τ,τ,τ,τ,τ,τ,τ,τ,τ,τ,τ,τ] rfl rfl (ζj HT_.out (by kernel_rfl)) (fun _ _ _ h=>h) (Or.inl ⟨by rfl,?_⟩) ?_ ?_
                  rotate_left
                  · intro w';go_simp;with_reducible rfl
                  rotate_left
                  · simp only [ζl,δa,δb,δc,i64_w,i32_w];rfl
                  refine done_ (done_of HT_.out (by kernel_rfl)) ?_
                  try go_wp2
                  go_roundg k2
                  case measure=>have:=HJ1.out;have:=HK2.out;omega
                  case rel=>exact ⟨(y271),(x5_2.extract ((ji23):Int).toNat x5_2.size),(ζm (x20_2+1)),(by rfl),(by rfl),H',⟨by have:=HJ1.out;have:=HK2.out;omega⟩,⟨by exact HO273.out⟩,⟨by repeat ((with_reducible exact HB.out))⟩⟩
                 ·
                  rw [if_neg c24] at H
                  exact absurd H (by simp)
                ·
                 rw [if_neg c22] at H
                 exact absurd H (by simp)
               ·
                rw [if_neg c21] at H
                exact absurd H (by simp)
              ·
               rw [if_neg c20] at H
               exact absurd H (by simp)
           ·
            rw [if_neg c16] at H
            exact absurd H (by simp)
          ·
           rw [if_neg c15] at H
           exact absurd H (by simp)
        ·
         rw [if_neg c13] at H
         have c13b0:decide (x20_2<(ζm (bt a0 0)))=φ:=decide_eq_false c13
         clear c13
         simp only [Option.some.injEq,Prod.mk.injEq] at H
         obtain ⟨rfl,rfl⟩:=H
         go_wp2
         go_ret2
         exact ⟨_,by first|(simp [errW_none,errW_some] <;> rfl),by exact HO_4.out,by repeat ((with_reducible exact HB.out))⟩
     ·
      rw [if_neg c8] at H
      exact absurd H (by simp)
    ·
     rw [if_neg c7] at H
     exact absurd H (by simp)


open Go.Proofs.YteghpdmlpefnfaaDoorW.PrintWords renaming gate_callee → δv, below_alloc → δk, pw_below_drewN → δi, below_drew1 → δj, below_step → δr
open List renaming map_toArray → δd, map_cons → δe, map_nil → δf, length_drop → δg, length_take → δh

/-! ### impl_amountText: function 70 -/
def impl_amountText.f (a0:Int):Option (ByteArray):=(strconv_Itoa.f a0).bind fun t173=>(some t173)
set_option maxHeartbeats 8000000 in
set_option maxRecDepth 100000 in
theorem impl_amountText.calls (a0:Int) (r:ByteArray) (w:World) (hT0:TabsOK w) (h:impl_amountText.f a0=some r) :
  Calls Tryd.prog 70 #[.int .i64 a0] w fun e w'=>e = .returned (.string r)∧Below w.heap.size w w':=by
 have HT0:=ζa hT0
 clear hT0
 have HB:=ζa (Below.refl w.heap.size w)
 have H:((strconv_Itoa.f a0).bind fun t173=>(some t173))=some r:=h
 clear h
 replace H:=Option.bind_eq_some_iff.mp H
 obtain ⟨t173,A20,H⟩:=H
 replace H:(some t173)=some r:=H
 have A2:=ζa A20
 clear A20
 obtain rfl:=Option.some.inj H
 go_enter Tryd.func70,Tryd.ntmps70
 go_wp2_with (first|((with_reducible refine δv (f:=104) rfl ?_);refine goesL_ (some 4) rfl rfl Tryd.func104 (by kernel_rfl) rfl #[.int .i64 a0] rfl (by (try simp only [δd,δe,δf]);first|done|rfl|(simp only [δg,δh];rfl)) ?_;(with_reducible refine (strconv_Itoa.calls a0 t173 _ (HT0.out.below (by repeat (first|(with_reducible first|exact HB.out|apply δk|apply δi|apply δj)|exact HB.out))) A2.out).mono ?_);rintro e w3 ⟨rfl,hb⟩;refine ⟨_,rfl,?_⟩;have n0_:=ζa (δr (by repeat (first|(with_reducible first|exact HB.out|apply δk|apply δi|apply δj)|exact HB.out)) hb);clear HB;have HB:=n0_;clear n0_;(try clear hb);(try clear hb2);(try clear hk);(try clear hi)))
 go_ret
 exact ⟨by first|rfl|(simp [errW_none,errW_some] <;> rfl)|(simp [*,errW_none,errW_some] <;> rfl),by repeat (first|(with_reducible first|exact HB.out|apply δk|apply δi|apply δj)|exact HB.out)⟩


open Go.Proofs.YteghpdmlpefnfaaDoorW.PrintWords renaming gate_callee → δv

/-! ### impl_isAmount: function 129 -/
def impl_isAmount.f (a0:Int):Option (Bool):=(impl_within.f a0 0 1000000000000000000).bind fun t289=>(some t289)
set_option maxHeartbeats 8000000 in
set_option maxRecDepth 100000 in
theorem impl_isAmount.calls (a0:Int) (r:Bool) (w:World) (h:impl_isAmount.f a0=some r) :
  Calls Tryd.prog 129 #[.int .i64 a0] w fun e w'=>e = .returned (.bool r)∧Drawn0 w w':=by
 have H:((impl_within.f a0 0 1000000000000000000).bind fun t289=>(some t289))=some r:=h
 clear h
 replace H:=Option.bind_eq_some_iff.mp H
 obtain ⟨t289,A20,H⟩:=H
 replace H:(some t289)=some r:=H
 have A2:=ζa A20
 clear A20
 obtain rfl:=Option.some.inj H
 go_enter Tryd.func129,Tryd.ntmps129
 go_wp2_with (first|((with_reducible refine δv (f:=102) rfl ?_);refine goesL_ (some 4) rfl rfl Tryd.func102 (by kernel_rfl) rfl #[.int .i64 a0,.int .i64 0,.int .i64 1000000000000000000] rfl (by (try simp only [δd,δe,δf]);first|done|rfl|(simp only [δg,δh];rfl)) ?_;(with_reducible refine (impl_within.calls a0 0 1000000000000000000 t289 _ A2.out).mono ?_);rintro e w' ⟨rfl,⟨nd,rfl⟩⟩;refine ⟨_,rfl,?_⟩))
 go_ret
 exact ⟨by first|rfl|(simp;done)|(simp [*];done),by repeat (first|exact Drawn0.refl _|apply Drawn0.step)⟩


open Go.Proofs.YteghpdmlpefnfaaDoorW.PrintWords renaming pw_below_drewN → δi, below_step → δr

/-! ### impl_readAmount: function 90 -/
/-- The amount that a text tells,and whether it is one. -/
def impl_readAmount.f (a0:ByteArray):Option (Int × Bool) :=
 if a0.size≤281474976710656 then (match Lib.atoiAll a0.data.toList with
  | .ok v=>if 0≤v then (if v≤1000000000000000000 then (if (⟨(Lib.itoa v).toArray⟩:ByteArray).toList=a0.toList then some (v,τ) else some (0,φ)) else some (0,φ)) else some (0,φ)
  | _=>some (0,φ)) else none
theorem impl_readAmount.bad (a0:ByteArray) (hs:a0.size≤281474976710656) (hb:(∀ v,Lib.atoiAll a0.data.toList ≠ .ok v)) (w:World) (hT0:TabsOK w) :
  Calls Tryd.prog 128 #[.string a0] w fun e w' => ∃ (n:Int) (te N:Nat),e = .returned (.tuple #[.int .i64 n,.iface te (.pointer (some ⟨N,0,none⟩))])∧Below w.heap.size w w':=by
 cases hh:Lib.atoiAll a0.data.toList with
 | ok v=>exact absurd hh (hb v)
 | «syntax» =>
  obtain ⟨tp,p,hv⟩:=hT0.2.1
  refine (Tryd.strconv_Atoi_syntax_var a0 hs hh tp p w (hv w (Below.refl _ _))).mono ?_
  rintro e w' ⟨N,rfl,_,_,hb⟩
  exact ⟨_,_,N,rfl,hb⟩
 | range =>
  obtain ⟨tp,p,hv⟩:=hT0.2.2
  refine (Tryd.strconv_Atoi_range_var a0 hs hh tp p w (hv w (Below.refl _ _))).mono ?_
  rintro e w' ⟨N,rfl,_,_,hb⟩
  exact ⟨_,_,N,rfl,hb⟩
theorem impl_readAmount.good (a0:ByteArray) (hs:a0.size≤281474976710656) (v:Int) (hb:Lib.atoiAll a0.data.toList = .ok v) (w:World) :
  Calls Tryd.prog 128 #[.string a0] w fun e w'=>e = .returned (.tuple #[.int .i64 v,.nilIface])∧Below w.heap.size w w':=by
 refine (Tryd.strconv_Atoi_ok a0 (by omega) v hb w).mono ?_
 rintro e w' ⟨rfl,rfl|⟨t,rfl⟩⟩
 · exact ⟨rfl,Below.refl _ _⟩
 ·
  exact ⟨rfl,bytes_below (Below.refl _ _) (Nat.le_refl _) 5 t⟩
set_option maxHeartbeats 4000000 in
set_option maxRecDepth 100000 in
theorem impl_readAmount.calls (a0:ByteArray) (r1:Int) (r2:Bool) (w:World) (hT0:TabsOK w) (h:impl_readAmount.f a0=some (r1,r2)) :
  Calls Tryd.prog 90 #[.string a0] w fun e w'=>e = .returned (.tuple #[.int .i64 r1,.bool r2])∧Below w.heap.size w w':=by
 unfold impl_readAmount.f at h
 by_cases hs:a0.size≤281474976710656
 ·
  rw [if_pos hs] at h
  by_cases hg : ∃ v,Lib.atoiAll a0.data.toList = .ok v
  ·
   obtain ⟨v,hv⟩:=hg
   rw [hv] at h
   have HV:=ζa hv
   have HS:=ζa hs
   have HT:=ζa hT0
   clear hv hs hT0
   dsimp only at h
   by_cases h0:0≤v∧v≤1000000000000000000
   ·
    rw [if_pos h0.1,if_pos h0.2] at h
    have HA:Aside0 (impl_isAmount.f v=some τ):=⟨by
     unfold impl_isAmount.f impl_within.f
     rw [if_pos h0.1,decide_eq_true h0.2]
     rfl⟩
    have HI:Aside0 (impl_amountText.f v=some ⟨(Lib.itoa v).toArray⟩):=⟨by
     unfold impl_amountText.f strconv_Itoa.f
     rw [if_pos (by omega),if_pos (by omega)]
     rfl⟩
    generalize (⟨(Lib.itoa v).toArray⟩:ByteArray)=t at h HI
    by_cases ht:t.toList=a0.toList
    ·
     rw [if_pos ht] at h
     injection h with h
     injection h with e1 e2
     subst e1 e2
     go_enter Tryd.func90,Tryd.ntmps90
     go_wp2_with fail
     refine (impl_readAmount.good a0 HS.out v HV.out _).mono ?_
     rintro e w' ⟨rfl,hb⟩
     have HB:=ζa hb
     clear hb
     go_wp2_with fail
     refine (impl_isAmount.calls v τ _ HA.out).mono ?_
     rintro e w2 ⟨rfl,⟨m,rfl⟩⟩
     go_wp2_with fail
     refine (impl_amountText.calls v t _ (HT.out.below (δi HB.out m)) HI.out).mono ?_
     rintro e w3 ⟨rfl,hb3⟩
     have HB3:=ζa (δr (δi HB.out m) hb3)
     clear hb3
     go_wp2
     go_ret2
     exact ⟨rfl,HB3.out⟩
    ·
     rw [if_neg ht] at h
     have htb:(t.toList == a0.toList)=φ:=beq_eq_false_iff_ne.2 ht
     clear ht
     injection h with h
     injection h with e1 e2
     subst e1 e2
     go_enter Tryd.func90,Tryd.ntmps90
     go_wp2_with fail
     refine (impl_readAmount.good a0 HS.out v HV.out _).mono ?_
     rintro e w' ⟨rfl,hb⟩
     have HB:=ζa hb
     clear hb
     go_wp2_with fail
     refine (impl_isAmount.calls v τ _ HA.out).mono ?_
     rintro e w2 ⟨rfl,⟨m,rfl⟩⟩
     go_wp2_with fail
     refine (impl_amountText.calls v t _ (HT.out.below (δi HB.out m)) HI.out).mono ?_
     rintro e w3 ⟨rfl,hb3⟩
     have HB3:=ζa (δr (δi HB.out m) hb3)
     clear hb3
     go_wp2
     go_ret2
     exact ⟨rfl,HB3.out⟩
   ·
    have e:(some ((0:Int),φ):Option (Int × Bool))=some (r1,r2):=by
     by_cases h1:0≤v
     · rw [if_pos h1,if_neg (fun h2=>h0 ⟨h1,h2⟩)] at h;exact h
     ·
      rw [if_neg h1] at h;exact h
    clear h
    injection e with h
    injection h with e1 e2
    subst e1 e2
    have HA:Aside0 (impl_isAmount.f v=some φ):=⟨by
     unfold impl_isAmount.f impl_within.f
     by_cases h1:0≤v
     · rw [if_pos h1,decide_eq_false (fun h2=>h0 ⟨h1,h2⟩)];rfl
     ·
      rw [if_neg h1];rfl⟩
    clear h0
    go_enter Tryd.func90,Tryd.ntmps90
    go_wp2_with fail
    refine (impl_readAmount.good a0 HS.out v HV.out _).mono ?_
    rintro e w' ⟨rfl,hb⟩
    have HB:=ζa hb
    clear hb
    go_wp2_with fail
    refine (impl_isAmount.calls v φ _ HA.out).mono ?_
    rintro e w2 ⟨rfl,⟨m,rfl⟩⟩
    go_wp2
    go_ret2
    exact ⟨rfl,δi HB.out m⟩
  ·
   have hn : ∀ v,Lib.atoiAll a0.data.toList ≠ .ok v:=fun v hv=>hg ⟨v,hv⟩
   have e:(some ((0:Int),φ):Option (Int × Bool))=some (r1,r2):=by
    cases hh:Lib.atoiAll a0.data.toList with
    | ok v=>exact absurd hh (hn v)
    | «syntax» => rw [hh] at h;exact h
    | range=>rw [hh] at h;exact h
   clear h
   injection e with h
   injection h with e1 e2
   subst e1 e2
   have HN:=ζa (impl_readAmount.bad a0 hs hn w hT0)
   clear hs hn hg hT0
   go_enter Tryd.func90,Tryd.ntmps90
   go_wp2_with fail
   refine HN.out.mono ?_
   rintro e w' ⟨n,te,N,rfl,hb⟩
   have HB:=ζa hb
   clear hb
   go_wp2
   go_ret2
   exact ⟨rfl,HB.out⟩
 · rw [if_neg hs] at h;cases h



/-! ### impl_isSome: function 67 -/
def impl_isSome.f (a0:Int):Option (Bool):=(impl_within.f a0 1 1000000000000000000).bind fun t127=>(some t127)
set_option maxHeartbeats 8000000 in
set_option maxRecDepth 100000 in
theorem impl_isSome.calls (a0:Int) (r:Bool) (w:World) (h:impl_isSome.f a0=some r) :
  Calls Tryd.prog 67 #[.int .i64 a0] w fun e w'=>e = .returned (.bool r)∧Drawn0 w w':=by
 have H:((impl_within.f a0 1 1000000000000000000).bind fun t127=>(some t127))=some r:=h
 clear h
 replace H:=Option.bind_eq_some_iff.mp H
 obtain ⟨t127,A20,H⟩:=H
 replace H:(some t127)=some r:=H
 have A2:=ζa A20
 clear A20
 obtain rfl:=Option.some.inj H
 go_enter Tryd.func67,Tryd.ntmps67
 go_wp2_with (first|((with_reducible refine δv (f:=102) rfl ?_);refine goesL_ (some 4) rfl rfl Tryd.func102 (by kernel_rfl) rfl #[.int .i64 a0,.int .i64 1,.int .i64 1000000000000000000] rfl (by (try simp only [δd,δe,δf]);first|done|rfl|(simp only [δg,δh];rfl)) ?_;(with_reducible refine (impl_within.calls a0 1 1000000000000000000 t127 _ A2.out).mono ?_);rintro e w' ⟨rfl,⟨nd,rfl⟩⟩;refine ⟨_,rfl,?_⟩))
 go_ret
 exact ⟨by first|rfl|(simp;done)|(simp [*];done),by repeat (first|exact Drawn0.refl _|apply Drawn0.step)⟩


open List renaming map_toArray → δd, map_cons → δe, map_nil → δf

/-! ### impl_NameOK: function 131 -/
def impl_NameOK.l0:Nat→ByteArray→Int→Int→Option (Bool)
 | 0,_,_,_=>none
 | k+1,x0,x7,x8=>if x8<x7 then (if 0≤x8 then (if x8<(x0.size:Int) then (if (bt x0 x8) ≥ 97 then (if (bt x0 x8)≤122 then (impl_NameOK.l0 k x0 x7 (ζm (x8+1))) else (if (bt x0 x8) ≥ 65 then (if (bt x0 x8)≤90 then (impl_NameOK.l0 k x0 x7 (ζm (x8+1))) else (if ((bt x0 x8)=95) then (impl_NameOK.l0 k x0 x7 (ζm (x8+1))) else (if x8=0 then (some φ) else (if (bt x0 x8)<48 then (some φ) else (if (bt x0 x8) > 57 then (some φ) else (impl_NameOK.l0 k x0 x7 (ζm (x8+1)))))))) else (if ((bt x0 x8)=95) then (impl_NameOK.l0 k x0 x7 (ζm (x8+1))) else (if x8=0 then (some φ) else (if (bt x0 x8)<48 then (some φ) else (if (bt x0 x8) > 57 then (some φ) else (impl_NameOK.l0 k x0 x7 (ζm (x8+1))))))))) else (if (bt x0 x8) ≥ 65 then (if (bt x0 x8)≤90 then (impl_NameOK.l0 k x0 x7 (ζm (x8+1))) else (if ((bt x0 x8)=95) then (impl_NameOK.l0 k x0 x7 (ζm (x8+1))) else (if x8=0 then (some φ) else (if (bt x0 x8)<48 then (some φ) else (if (bt x0 x8) > 57 then (some φ) else (impl_NameOK.l0 k x0 x7 (ζm (x8+1)))))))) else (if ((bt x0 x8)=95) then (impl_NameOK.l0 k x0 x7 (ζm (x8+1))) else (if x8=0 then (some φ) else (if (bt x0 x8)<48 then (some φ) else (if (bt x0 x8) > 57 then (some φ) else (impl_NameOK.l0 k x0 x7 (ζm (x8+1))))))))) else (none)) else (none)) else ((impl_within.f (x0.size:Int) 1 40).bind fun t128=>(some t128))
def impl_NameOK.f (k:Nat) (a0:ByteArray):Option (Bool):=impl_NameOK.l0 k a0 (a0.size:Int) 0
set_option maxHeartbeats 8000000 in
set_option maxRecDepth 100000 in
theorem impl_NameOK.calls (k:Nat) (a0:ByteArray) (r:Bool) (w:World) (h:impl_NameOK.f k a0=some r) :
  Calls Tryd.prog 131 #[.string a0] w fun e w'=>e = .returned (.bool r)∧Drawn0 w w':=by
 have H:(impl_NameOK.l0 k a0 (a0.size:Int) 0)=some r:=h
 clear h
 have H':=ζa H
 clear H
 go_enter Tryd.func131,Tryd.ntmps131
 go_wp2
 go_loopg [8] k (fun kq v8 w' => ∃ (x8_1:Int),v8 = .int .i64 x8_1∧Aside0 (impl_NameOK.l0 kq a0 (a0.size:Int) x8_1=some r)∧Aside0 (kq≤k)∧Drawn0 w w')
 case atStart=>exact ⟨(0),(by rfl),H',⟨Nat.le_refl _⟩,by repeat (exact Drawn0.refl _)⟩
 case round =>
  clear H'
  try clear c1
  obtain ⟨x8_1,rfl,HA,HK1,⟨m1,rfl⟩⟩:=hrel
  cases gk with
  | zero=>exact absurd HA.out (by simp [impl_NameOK.l0])
  | succ k1 =>
   have H:=HA.out
   clear HA
   simp only [impl_NameOK.l0] at H
   by_cases c2:x8_1<(a0.size:Int)
   ·
    rw [if_pos c2] at H
    have c2b0:decide (x8_1<(a0.size:Int))=τ:=decide_eq_true c2
    clear c2
    by_cases c3:0≤x8_1
    ·
     rw [if_pos c3] at H
     have c3b0:decide (0≤x8_1)=τ:=decide_eq_true c3
     clear c3
     by_cases c4:x8_1<(a0.size:Int)
     ·
      rw [if_pos c4] at H
      have c4b0:decide (x8_1<(a0.size:Int))=τ:=decide_eq_true c4
      clear c4
      by_cases c6:(bt a0 x8_1) ≥ 97
      ·
       rw [if_pos c6] at H
       have c6b0:decide (97≤(bt a0 x8_1))=τ:=decide_eq_true c6
       clear c6
       by_cases c7:(bt a0 x8_1)≤122
       ·
        rw [if_pos c7] at H
        have c7b0:decide ((bt a0 x8_1)≤122)=τ:=decide_eq_true c7
        clear c7
        have H':=ζa H
        clear H
        have p5:0≤(x8_1:Int):=of_decide_eq_true (by (with_reducible assumption))
        have q5:x8_1<(a0.size:Int):=of_decide_eq_true (by (with_reducible assumption))
        have hx5:=bt_at a0 x8_1
        replace p5:=eq_true p5
        replace q5:=eq_true q5
        go_wp2
        go_roundg k1
        case measure=>have:=HK1.out;omega
        case rel=>exact ⟨(ζm (x8_1+1)),(by rfl),H',⟨by have:=HK1.out;omega⟩,by repeat (first|exact Drawn0.refl _|apply Drawn0.step)⟩
       ·
        rw [if_neg c7] at H
        have c7b0:decide ((bt a0 x8_1)≤122)=φ:=decide_eq_false c7
        clear c7
        by_cases c8:(bt a0 x8_1) ≥ 65
        ·
         rw [if_pos c8] at H
         have c8b0:decide (65≤(bt a0 x8_1))=τ:=decide_eq_true c8
         clear c8
         by_cases c9:(bt a0 x8_1)≤90
         ·
          rw [if_pos c9] at H
          have c9b0:decide ((bt a0 x8_1)≤90)=τ:=decide_eq_true c9
          clear c9
          have H':=ζa H
          clear H
          have p5:0≤(x8_1:Int):=of_decide_eq_true (by (with_reducible assumption))
          have q5:x8_1<(a0.size:Int):=of_decide_eq_true (by (with_reducible assumption))
          have hx5:=bt_at a0 x8_1
          replace p5:=eq_true p5
          replace q5:=eq_true q5
          go_wp2
          go_roundg k1
          case measure=>have:=HK1.out;omega
          case rel=>exact ⟨(ζm (x8_1+1)),(by rfl),H',⟨by have:=HK1.out;omega⟩,by repeat (first|exact Drawn0.refl _|apply Drawn0.step)⟩
         ·
          rw [if_neg c9] at H
          have c9b0:decide ((bt a0 x8_1)≤90)=φ:=decide_eq_false c9
          clear c9
          by_cases c10:((bt a0 x8_1)=95)
          ·
           rw [if_pos c10] at H
           have c10b0:((bt a0 x8_1) == 95)=τ:=beq_iff_eq.mpr c10
           have c10b1:((bt a0 x8_1) != 95)=φ:=bne_eq_false_iff_eq.mpr c10
           clear c10
           have H':=ζa H
           clear H
           have p5:0≤(x8_1:Int):=of_decide_eq_true (by (with_reducible assumption))
           have q5:x8_1<(a0.size:Int):=of_decide_eq_true (by (with_reducible assumption))
           have hx5:=bt_at a0 x8_1
           replace p5:=eq_true p5
           replace q5:=eq_true q5
           go_wp2
           go_roundg k1
           case measure=>have:=HK1.out;omega
           case rel=>exact ⟨(ζm (x8_1+1)),(by rfl),H',⟨by have:=HK1.out;omega⟩,by repeat (first|exact Drawn0.refl _|apply Drawn0.step)⟩
          ·
           rw [if_neg c10] at H
           have c10b0:((bt a0 x8_1) == 95)=φ:=beq_eq_false_iff_ne.mpr c10
           have c10b1:((bt a0 x8_1) != 95)=τ:=bne_iff_ne.mpr c10
           by_cases c11:x8_1=0
           ·
            rw [if_pos c11] at H
            have c11b0:(x8_1 == 0)=τ:=beq_iff_eq.mpr c11
            have c11b1:(x8_1 != 0)=φ:=bne_eq_false_iff_eq.mpr c11
            clear c11
            obtain rfl:=Option.some.inj H
            have p5:0≤(x8_1:Int):=of_decide_eq_true (by (with_reducible assumption))
            have q5:x8_1<(a0.size:Int):=of_decide_eq_true (by (with_reducible assumption))
            have hx5:=bt_at a0 x8_1
            replace p5:=eq_true p5
            replace q5:=eq_true q5
            go_wp2
            go_ret
            exact ⟨by rfl,by repeat (first|exact Drawn0.refl _|apply Drawn0.step)⟩
           ·
            rw [if_neg c11] at H
            have c11b0:(x8_1 == 0)=φ:=beq_eq_false_iff_ne.mpr c11
            have c11b1:(x8_1 != 0)=τ:=bne_iff_ne.mpr c11
            by_cases c12:(bt a0 x8_1)<48
            ·
             rw [if_pos c12] at H
             have c12b0:decide ((bt a0 x8_1)<48)=τ:=decide_eq_true c12
             clear c12
             obtain rfl:=Option.some.inj H
             have p5:0≤(x8_1:Int):=of_decide_eq_true (by (with_reducible assumption))
             have q5:x8_1<(a0.size:Int):=of_decide_eq_true (by (with_reducible assumption))
             have hx5:=bt_at a0 x8_1
             replace p5:=eq_true p5
             replace q5:=eq_true q5
             go_wp2
             go_ret
             exact ⟨by rfl,by repeat (first|exact Drawn0.refl _|apply Drawn0.step)⟩
            ·
             rw [if_neg c12] at H
             have c12b0:decide ((bt a0 x8_1)<48)=φ:=decide_eq_false c12
             clear c12
             by_cases c13:(bt a0 x8_1) > 57
             ·
              rw [if_pos c13] at H
              have c13b0:decide (57<(bt a0 x8_1))=τ:=decide_eq_true c13
              clear c13
              obtain rfl:=Option.some.inj H
              have p5:0≤(x8_1:Int):=of_decide_eq_true (by (with_reducible assumption))
              have q5:x8_1<(a0.size:Int):=of_decide_eq_true (by (with_reducible assumption))
              have hx5:=bt_at a0 x8_1
              replace p5:=eq_true p5
              replace q5:=eq_true q5
              go_wp2
              go_ret
              exact ⟨by rfl,by repeat (first|exact Drawn0.refl _|apply Drawn0.step)⟩
             ·
              rw [if_neg c13] at H
              have c13b0:decide (57<(bt a0 x8_1))=φ:=decide_eq_false c13
              clear c13
              have H':=ζa H
              clear H
              have p5:0≤(x8_1:Int):=of_decide_eq_true (by (with_reducible assumption))
              have q5:x8_1<(a0.size:Int):=of_decide_eq_true (by (with_reducible assumption))
              have hx5:=bt_at a0 x8_1
              replace p5:=eq_true p5
              replace q5:=eq_true q5
              go_wp2
              go_roundg k1
              case measure=>have:=HK1.out;omega
              case rel=>exact ⟨(ζm (x8_1+1)),(by rfl),H',⟨by have:=HK1.out;omega⟩,by repeat (first|exact Drawn0.refl _|apply Drawn0.step)⟩
        ·
         rw [if_neg c8] at H
         have c8b0:decide (65≤(bt a0 x8_1))=φ:=decide_eq_false c8
         clear c8
         by_cases c14:((bt a0 x8_1)=95)
         ·
          rw [if_pos c14] at H
          have c14b0:((bt a0 x8_1) == 95)=τ:=beq_iff_eq.mpr c14
          have c14b1:((bt a0 x8_1) != 95)=φ:=bne_eq_false_iff_eq.mpr c14
          clear c14
          have H':=ζa H
          clear H
          have p5:0≤(x8_1:Int):=of_decide_eq_true (by (with_reducible assumption))
          have q5:x8_1<(a0.size:Int):=of_decide_eq_true (by (with_reducible assumption))
          have hx5:=bt_at a0 x8_1
          replace p5:=eq_true p5
          replace q5:=eq_true q5
          go_wp2
          go_roundg k1
          case measure=>have:=HK1.out;omega
          case rel=>exact ⟨(ζm (x8_1+1)),(by rfl),H',⟨by have:=HK1.out;omega⟩,by repeat (first|exact Drawn0.refl _|apply Drawn0.step)⟩
         ·
          rw [if_neg c14] at H
          have c14b0:((bt a0 x8_1) == 95)=φ:=beq_eq_false_iff_ne.mpr c14
          have c14b1:((bt a0 x8_1) != 95)=τ:=bne_iff_ne.mpr c14
          by_cases c15:x8_1=0
          ·
           rw [if_pos c15] at H
           have c15b0:(x8_1 == 0)=τ:=beq_iff_eq.mpr c15
           have c15b1:(x8_1 != 0)=φ:=bne_eq_false_iff_eq.mpr c15
           clear c15
           obtain rfl:=Option.some.inj H
           have p5:0≤(x8_1:Int):=of_decide_eq_true (by (with_reducible assumption))
           have q5:x8_1<(a0.size:Int):=of_decide_eq_true (by (with_reducible assumption))
           have hx5:=bt_at a0 x8_1
           replace p5:=eq_true p5
           replace q5:=eq_true q5
           go_wp2
           go_ret
           exact ⟨by rfl,by repeat (first|exact Drawn0.refl _|apply Drawn0.step)⟩
          ·
           rw [if_neg c15] at H
           have c15b0:(x8_1 == 0)=φ:=beq_eq_false_iff_ne.mpr c15
           have c15b1:(x8_1 != 0)=τ:=bne_iff_ne.mpr c15
           by_cases c16:(bt a0 x8_1)<48
           ·
            rw [if_pos c16] at H
            have c16b0:decide ((bt a0 x8_1)<48)=τ:=decide_eq_true c16
            clear c16
            obtain rfl:=Option.some.inj H
            have p5:0≤(x8_1:Int):=of_decide_eq_true (by (with_reducible assumption))
            have q5:x8_1<(a0.size:Int):=of_decide_eq_true (by (with_reducible assumption))
            have hx5:=bt_at a0 x8_1
            replace p5:=eq_true p5
            replace q5:=eq_true q5
            go_wp2
            go_ret
            exact ⟨by rfl,by repeat (first|exact Drawn0.refl _|apply Drawn0.step)⟩
           ·
            rw [if_neg c16] at H
            have c16b0:decide ((bt a0 x8_1)<48)=φ:=decide_eq_false c16
            clear c16
            by_cases c17:(bt a0 x8_1) > 57
            ·
             rw [if_pos c17] at H
             have c17b0:decide (57<(bt a0 x8_1))=τ:=decide_eq_true c17
             clear c17
             obtain rfl:=Option.some.inj H
             have p5:0≤(x8_1:Int):=of_decide_eq_true (by (with_reducible assumption))
             have q5:x8_1<(a0.size:Int):=of_decide_eq_true (by (with_reducible assumption))
             have hx5:=bt_at a0 x8_1
             replace p5:=eq_true p5
             replace q5:=eq_true q5
             go_wp2
             go_ret
             exact ⟨by rfl,by repeat (first|exact Drawn0.refl _|apply Drawn0.step)⟩
            ·
             rw [if_neg c17] at H
             have c17b0:decide (57<(bt a0 x8_1))=φ:=decide_eq_false c17
             clear c17
             have H':=ζa H
             clear H
             have p5:0≤(x8_1:Int):=of_decide_eq_true (by (with_reducible assumption))
             have q5:x8_1<(a0.size:Int):=of_decide_eq_true (by (with_reducible assumption))
             have hx5:=bt_at a0 x8_1
             replace p5:=eq_true p5
             replace q5:=eq_true q5
             go_wp2
             go_roundg k1
             case measure=>have:=HK1.out;omega
             case rel=>exact ⟨(ζm (x8_1+1)),(by rfl),H',⟨by have:=HK1.out;omega⟩,by repeat (first|exact Drawn0.refl _|apply Drawn0.step)⟩
      ·
       rw [if_neg c6] at H
       have c6b0:decide (97≤(bt a0 x8_1))=φ:=decide_eq_false c6
       clear c6
       by_cases c18:(bt a0 x8_1) ≥ 65
       ·
        rw [if_pos c18] at H
        have c18b0:decide (65≤(bt a0 x8_1))=τ:=decide_eq_true c18
        clear c18
        by_cases c19:(bt a0 x8_1)≤90
        ·
         rw [if_pos c19] at H
         have c19b0:decide ((bt a0 x8_1)≤90)=τ:=decide_eq_true c19
         clear c19
         have H':=ζa H
         clear H
         have p5:0≤(x8_1:Int):=of_decide_eq_true (by (with_reducible assumption))
         have q5:x8_1<(a0.size:Int):=of_decide_eq_true (by (with_reducible assumption))
         have hx5:=bt_at a0 x8_1
         replace p5:=eq_true p5
         replace q5:=eq_true q5
         go_wp2
         go_roundg k1
         case measure=>have:=HK1.out;omega
         case rel=>exact ⟨(ζm (x8_1+1)),(by rfl),H',⟨by have:=HK1.out;omega⟩,by repeat (first|exact Drawn0.refl _|apply Drawn0.step)⟩
        ·
         rw [if_neg c19] at H
         have c19b0:decide ((bt a0 x8_1)≤90)=φ:=decide_eq_false c19
         clear c19
         by_cases c20:((bt a0 x8_1)=95)
         ·
          rw [if_pos c20] at H
          have c20b0:((bt a0 x8_1) == 95)=τ:=beq_iff_eq.mpr c20
          have c20b1:((bt a0 x8_1) != 95)=φ:=bne_eq_false_iff_eq.mpr c20
          clear c20
          have H':=ζa H
          clear H
          have p5:0≤(x8_1:Int):=of_decide_eq_true (by (with_reducible assumption))
          have q5:x8_1<(a0.size:Int):=of_decide_eq_true (by (with_reducible assumption))
          have hx5:=bt_at a0 x8_1
          replace p5:=eq_true p5
          replace q5:=eq_true q5
          go_wp2
          go_roundg k1
          case measure=>have:=HK1.out;omega
          case rel=>exact ⟨(ζm (x8_1+1)),(by rfl),H',⟨by have:=HK1.out;omega⟩,by repeat (first|exact Drawn0.refl _|apply Drawn0.step)⟩
         ·
          rw [if_neg c20] at H
          have c20b0:((bt a0 x8_1) == 95)=φ:=beq_eq_false_iff_ne.mpr c20
          have c20b1:((bt a0 x8_1) != 95)=τ:=bne_iff_ne.mpr c20
          by_cases c21:x8_1=0
          ·
           rw [if_pos c21] at H
           have c21b0:(x8_1 == 0)=τ:=beq_iff_eq.mpr c21
           have c21b1:(x8_1 != 0)=φ:=bne_eq_false_iff_eq.mpr c21
           clear c21
           obtain rfl:=Option.some.inj H
           have p5:0≤(x8_1:Int):=of_decide_eq_true (by (with_reducible assumption))
           have q5:x8_1<(a0.size:Int):=of_decide_eq_true (by (with_reducible assumption))
           have hx5:=bt_at a0 x8_1
           replace p5:=eq_true p5
           replace q5:=eq_true q5
           go_wp2
           go_ret
           exact ⟨by rfl,by repeat (first|exact Drawn0.refl _|apply Drawn0.step)⟩
          ·
           rw [if_neg c21] at H
           have c21b0:(x8_1 == 0)=φ:=beq_eq_false_iff_ne.mpr c21
           have c21b1:(x8_1 != 0)=τ:=bne_iff_ne.mpr c21
           by_cases c22:(bt a0 x8_1)<48
           ·
            rw [if_pos c22] at H
            have c22b0:decide ((bt a0 x8_1)<48)=τ:=decide_eq_true c22
            clear c22
            obtain rfl:=Option.some.inj H
            have p5:0≤(x8_1:Int):=of_decide_eq_true (by (with_reducible assumption))
            have q5:x8_1<(a0.size:Int):=of_decide_eq_true (by (with_reducible assumption))
            have hx5:=bt_at a0 x8_1
            replace p5:=eq_true p5
            replace q5:=eq_true q5
            go_wp2
            go_ret
            exact ⟨by rfl,by repeat (first|exact Drawn0.refl _|apply Drawn0.step)⟩
           ·
            rw [if_neg c22] at H
            have c22b0:decide ((bt a0 x8_1)<48)=φ:=decide_eq_false c22
            clear c22
            by_cases c23:(bt a0 x8_1) > 57
            ·
             rw [if_pos c23] at H
             have c23b0:decide (57<(bt a0 x8_1))=τ:=decide_eq_true c23
             clear c23
             obtain rfl:=Option.some.inj H
             have p5:0≤(x8_1:Int):=of_decide_eq_true (by (with_reducible assumption))
             have q5:x8_1<(a0.size:Int):=of_decide_eq_true (by (with_reducible assumption))
             have hx5:=bt_at a0 x8_1
             replace p5:=eq_true p5
             replace q5:=eq_true q5
             go_wp2
             go_ret
             exact ⟨by rfl,by repeat (first|exact Drawn0.refl _|apply Drawn0.step)⟩
            ·
             rw [if_neg c23] at H
             have c23b0:decide (57<(bt a0 x8_1))=φ:=decide_eq_false c23
             clear c23
             have H':=ζa H
             clear H
             have p5:0≤(x8_1:Int):=of_decide_eq_true (by (with_reducible assumption))
             have q5:x8_1<(a0.size:Int):=of_decide_eq_true (by (with_reducible assumption))
             have hx5:=bt_at a0 x8_1
             replace p5:=eq_true p5
             replace q5:=eq_true q5
             go_wp2
             go_roundg k1
             case measure=>have:=HK1.out;omega
             case rel=>exact ⟨(ζm (x8_1+1)),(by rfl),H',⟨by have:=HK1.out;omega⟩,by repeat (first|exact Drawn0.refl _|apply Drawn0.step)⟩
       ·
        rw [if_neg c18] at H
        have c18b0:decide (65≤(bt a0 x8_1))=φ:=decide_eq_false c18
        clear c18
        by_cases c24:((bt a0 x8_1)=95)
        ·
         rw [if_pos c24] at H
         have c24b0:((bt a0 x8_1) == 95)=τ:=beq_iff_eq.mpr c24
         have c24b1:((bt a0 x8_1) != 95)=φ:=bne_eq_false_iff_eq.mpr c24
         clear c24
         have H':=ζa H
         clear H
         have p5:0≤(x8_1:Int):=of_decide_eq_true (by (with_reducible assumption))
         have q5:x8_1<(a0.size:Int):=of_decide_eq_true (by (with_reducible assumption))
         have hx5:=bt_at a0 x8_1
         replace p5:=eq_true p5
         replace q5:=eq_true q5
         go_wp2
         go_roundg k1
         case measure=>have:=HK1.out;omega
         case rel=>exact ⟨(ζm (x8_1+1)),(by rfl),H',⟨by have:=HK1.out;omega⟩,by repeat (first|exact Drawn0.refl _|apply Drawn0.step)⟩
        ·
         rw [if_neg c24] at H
         have c24b0:((bt a0 x8_1) == 95)=φ:=beq_eq_false_iff_ne.mpr c24
         have c24b1:((bt a0 x8_1) != 95)=τ:=bne_iff_ne.mpr c24
         by_cases c25:x8_1=0
         ·
          rw [if_pos c25] at H
          have c25b0:(x8_1 == 0)=τ:=beq_iff_eq.mpr c25
          have c25b1:(x8_1 != 0)=φ:=bne_eq_false_iff_eq.mpr c25
          clear c25
          obtain rfl:=Option.some.inj H
          have p5:0≤(x8_1:Int):=of_decide_eq_true (by (with_reducible assumption))
          have q5:x8_1<(a0.size:Int):=of_decide_eq_true (by (with_reducible assumption))
          have hx5:=bt_at a0 x8_1
          replace p5:=eq_true p5
          replace q5:=eq_true q5
          go_wp2
          go_ret
          exact ⟨by rfl,by repeat (first|exact Drawn0.refl _|apply Drawn0.step)⟩
         ·
          rw [if_neg c25] at H
          have c25b0:(x8_1 == 0)=φ:=beq_eq_false_iff_ne.mpr c25
          have c25b1:(x8_1 != 0)=τ:=bne_iff_ne.mpr c25
          by_cases c26:(bt a0 x8_1)<48
          ·
           rw [if_pos c26] at H
           have c26b0:decide ((bt a0 x8_1)<48)=τ:=decide_eq_true c26
           clear c26
           obtain rfl:=Option.some.inj H
           have p5:0≤(x8_1:Int):=of_decide_eq_true (by (with_reducible assumption))
           have q5:x8_1<(a0.size:Int):=of_decide_eq_true (by (with_reducible assumption))
           have hx5:=bt_at a0 x8_1
           replace p5:=eq_true p5
           replace q5:=eq_true q5
           go_wp2
           go_ret
           exact ⟨by rfl,by repeat (first|exact Drawn0.refl _|apply Drawn0.step)⟩
          ·
           rw [if_neg c26] at H
           have c26b0:decide ((bt a0 x8_1)<48)=φ:=decide_eq_false c26
           clear c26
           by_cases c27:(bt a0 x8_1) > 57
           ·
            rw [if_pos c27] at H
            have c27b0:decide (57<(bt a0 x8_1))=τ:=decide_eq_true c27
            clear c27
            obtain rfl:=Option.some.inj H
            have p5:0≤(x8_1:Int):=of_decide_eq_true (by (with_reducible assumption))
            have q5:x8_1<(a0.size:Int):=of_decide_eq_true (by (with_reducible assumption))
            have hx5:=bt_at a0 x8_1
            replace p5:=eq_true p5
            replace q5:=eq_true q5
            go_wp2
            go_ret
            exact ⟨by rfl,by repeat (first|exact Drawn0.refl _|apply Drawn0.step)⟩
           ·
            rw [if_neg c27] at H
            have c27b0:decide (57<(bt a0 x8_1))=φ:=decide_eq_false c27
            clear c27
            have H':=ζa H
            clear H
            have p5:0≤(x8_1:Int):=of_decide_eq_true (by (with_reducible assumption))
            have q5:x8_1<(a0.size:Int):=of_decide_eq_true (by (with_reducible assumption))
            have hx5:=bt_at a0 x8_1
            replace p5:=eq_true p5
            replace q5:=eq_true q5
            go_wp2
            go_roundg k1
            case measure=>have:=HK1.out;omega
            case rel=>exact ⟨(ζm (x8_1+1)),(by rfl),H',⟨by have:=HK1.out;omega⟩,by repeat (first|exact Drawn0.refl _|apply Drawn0.step)⟩
     ·
      rw [if_neg c4] at H
      exact absurd H (by simp)
    ·
     rw [if_neg c3] at H
     exact absurd H (by simp)
   ·
    rw [if_neg c2] at H
    have c2b0:decide (x8_1<(a0.size:Int))=φ:=decide_eq_false c2
    clear c2
    replace H:=Option.bind_eq_some_iff.mp H
    obtain ⟨t128,A280,H⟩:=H
    replace H:(some t128)=some r:=H
    have A28:=ζa A280
    clear A280
    obtain rfl:=Option.some.inj H
    go_wp2_with (((with_reducible refine δv (f:=102) rfl ?_);refine goesL_ (some 49) rfl rfl Tryd.func102 (by kernel_rfl) rfl #[.int .i64 (a0.size:Int),.int .i64 1,.int .i64 40] rfl (by (try simp only [δd,δe,δf]);rfl) ?_;(with_reducible refine (impl_within.calls (a0.size:Int) 1 40 t128 _ A28.out).mono ?_);rintro e w' ⟨rfl,⟨nd,rfl⟩⟩;refine ⟨_,rfl,?_⟩))
    go_ret
    exact ⟨by rfl,by repeat (first|exact Drawn0.refl _|apply Drawn0.step)⟩



/-! ### impl_DenomOK: function 95 -/
def impl_DenomOK.f (k:Nat) (a0:ByteArray):Option (Bool):=(impl_NameOK.f k a0).bind fun t129=>(if t129=τ then (some (decide ((a0.size:Int)≤12))) else (some φ))
set_option maxHeartbeats 8000000 in
set_option maxRecDepth 100000 in
theorem impl_DenomOK.calls (k:Nat) (a0:ByteArray) (r:Bool) (w:World) (h:impl_DenomOK.f k a0=some r) :
  Calls Tryd.prog 95 #[.string a0] w fun e w'=>e = .returned (.bool r)∧Drawn0 w w':=by
 have H:((impl_NameOK.f k a0).bind fun t129=>(if t129=τ then (some (decide ((a0.size:Int)≤12))) else (some φ)))=some r:=h
 clear h
 replace H:=Option.bind_eq_some_iff.mp H
 obtain ⟨t129,A20,H⟩:=H
 replace H:(if t129=τ then (some (decide ((a0.size:Int)≤12))) else (some φ))=some r:=H
 have A2:=ζa A20
 clear A20
 by_cases c3:t129=τ
 ·
  subst c3
  have H1:(some (decide ((a0.size:Int)≤12)))=some r:=by rw [if_pos rfl] at H;exact H
  clear H
  have H:=H1
  clear H1
  obtain rfl:=Option.some.inj H
  go_enter Tryd.func95,Tryd.ntmps95
  go_wp2_with (first|((with_reducible refine δv (f:=131) rfl ?_);refine goesL_ (some 4) rfl rfl Tryd.func131 (by kernel_rfl) rfl #[.string a0] rfl (by (try simp only [δd,δe,δf]);first|done|rfl|(simp only [δg,δh];rfl)) ?_;(with_reducible refine (impl_NameOK.calls k a0 τ _ A2.out).mono ?_);rintro e w' ⟨rfl,⟨nd,rfl⟩⟩;refine ⟨_,rfl,?_⟩))
  go_ret
  exact ⟨by first|rfl|(simp;done)|(simp [*];done),by repeat (first|exact Drawn0.refl _|apply Drawn0.step)⟩
 ·
  replace c3:=Bool.eq_false_iff.mpr c3
  subst c3
  have H1:(some φ)=some r:=by rw [if_neg (show ¬ (φ=τ) by decide)] at H;exact H
  clear H
  have H:=H1
  clear H1
  obtain rfl:=Option.some.inj H
  go_enter Tryd.func95,Tryd.ntmps95
  go_wp2_with (first|((with_reducible refine δv (f:=131) rfl ?_);refine goesL_ (some 4) rfl rfl Tryd.func131 (by kernel_rfl) rfl #[.string a0] rfl (by (try simp only [δd,δe,δf]);first|done|rfl|(simp only [δg,δh];rfl)) ?_;(with_reducible refine (impl_NameOK.calls k a0 φ _ A2.out).mono ?_);rintro e w' ⟨rfl,⟨nd,rfl⟩⟩;refine ⟨_,rfl,?_⟩))
  go_ret
  exact ⟨by first|rfl|(simp;done)|(simp [*];done),by repeat (first|exact Drawn0.refl _|apply Drawn0.step)⟩



/-! ### impl_areNames: function 56 -/
def impl_areNames.l0:Nat→List ByteArray→Int→Int→Option (Bool)
 | 0,_,_,_=>none
 | k+1,x5,x6,x7=>if x7<x6 then (if 0≤x7 then (if x7<(x5.length:Int) then ((impl_DenomOK.f k (rdOf ByteArray.empty x5 x7)).bind fun t131=>(if t131=τ then (impl_areNames.l0 k x5 x6 (ζm (x7+1))) else (some φ))) else (none)) else (none)) else (some τ)
def impl_areNames.f (k:Nat) (l0:List ByteArray):Option (Bool):=impl_areNames.l0 k l0 (l0.length:Int) 0
set_option maxHeartbeats 8000000 in
set_option maxRecDepth 100000 in
theorem impl_areNames.calls (k:Nat) (A0:Option Addr) (c0:Nat) (l0:List ByteArray) (r:Bool) (w:World) (hr0:Kd.C Kd.string w A0 l0.length l0) (hc0:l0.length≤c0) (h:impl_areNames.f k l0=some r) :
  Calls Tryd.prog 56 #[.slice A0 l0.length c0] w fun e w'=>e = .returned (.bool r)∧Drawn0 w w':=by
 have HR0:=ζa hr0
 have HC0:=ζa hc0
 clear hr0 hc0
 have H:(impl_areNames.l0 k l0 (l0.length:Int) 0)=some r:=h
 clear h
 have H':=ζa H
 clear H
 go_enter Tryd.func56,Tryd.ntmps56
 go_wp2
 go_loopg [7] k (fun kq v7 w' => ∃ (x7_1:Int),v7 = .int .i64 x7_1∧Aside0 (impl_areNames.l0 kq l0 (l0.length:Int) x7_1=some r)∧Aside0 (kq≤k)∧Drawn0 w w')
 case atStart=>exact ⟨(0),(by first|rfl|(simp;done)|(simp [*];done)),H',⟨Nat.le_refl _⟩,by repeat (first|exact Drawn0.refl _|apply Drawn0.step)⟩
 case round =>
  clear H'
  obtain ⟨x7_1,rfl,HA,HK1,⟨m1,rfl⟩⟩:=hrel
  cases gk with
  | zero=>exact absurd HA.out (by simp [impl_areNames.l0])
  | succ k1 =>
   have H:=HA.out
   clear HA
   simp only [impl_areNames.l0] at H
   by_cases c2:x7_1<(l0.length:Int)
   ·
    rw [if_pos c2] at H
    have c2b0:decide (x7_1<(l0.length:Int))=τ:=decide_eq_true c2
    clear c2
    by_cases c3:0≤x7_1
    ·
     rw [if_pos c3] at H
     have c3b0:decide (0≤x7_1)=τ:=decide_eq_true c3
     clear c3
     by_cases c4:x7_1<(l0.length:Int)
     ·
      rw [if_pos c4] at H
      have c4b0:decide (x7_1<(l0.length:Int))=τ:=decide_eq_true c4
      clear c4
      replace H:=Option.bind_eq_some_iff.mp H
      obtain ⟨t131,A50,H⟩:=H
      replace H:(if t131=τ then (impl_areNames.l0 k1 l0 (l0.length:Int) (ζm (x7_1+1))) else (some φ))=some r:=H
      have A5:=ζa A50
      clear A50
      by_cases c6:t131=τ
      ·
       subst c6
       have H1:(impl_areNames.l0 k1 l0 (l0.length:Int) (ζm (x7_1+1)))=some r:=by rw [if_pos rfl] at H;exact H
       clear H
       have H:=H1
       clear H1
       have H':=ζa H
       clear H
       have p130:0≤(x7_1:Int):=of_decide_eq_true (by first|(with_reducible assumption)|assumption)
       have q130:x7_1<(l0.length:Int):=of_decide_eq_true (by first|(with_reducible assumption)|assumption)
       obtain ⟨ad130,e130,hx130_0⟩:=Kd.at_string HR0.out x7_1 p130 q130
       cases e130
       replace p130:=eq_true p130
       replace q130:=eq_true q130
       go_wp2_with (first|((with_reducible refine δv (f:=95) rfl ?_);refine goesL_ (some 12) rfl rfl Tryd.func95 (by kernel_rfl) rfl #[.string (rdOf ByteArray.empty l0 x7_1)] rfl (by (try simp only [δd,δe,δf]);first|done|rfl|(simp only [δg,δh];rfl)) ?_;(with_reducible refine (impl_DenomOK.calls k1 (rdOf ByteArray.empty l0 x7_1) τ _ A5.out).mono ?_);rintro e w' ⟨rfl,⟨nd,rfl⟩⟩;refine ⟨_,rfl,?_⟩))
       go_roundg k1
       case measure=>have:=HK1.out;omega
       case rel=>exact ⟨(ζm (x7_1+1)),(by first|rfl|(simp;done)|(simp [*];done)),H',⟨by have:=HK1.out;omega⟩,by repeat (first|exact Drawn0.refl _|apply Drawn0.step)⟩
      ·
       replace c6:=Bool.eq_false_iff.mpr c6
       subst c6
       have H1:(some φ)=some r:=by rw [if_neg (show ¬ (φ=τ) by decide)] at H;exact H
       clear H
       have H:=H1
       clear H1
       obtain rfl:=Option.some.inj H
       have p130:0≤(x7_1:Int):=of_decide_eq_true (by first|(with_reducible assumption)|assumption)
       have q130:x7_1<(l0.length:Int):=of_decide_eq_true (by first|(with_reducible assumption)|assumption)
       obtain ⟨ad130,e130,hx130_0⟩:=Kd.at_string HR0.out x7_1 p130 q130
       cases e130
       replace p130:=eq_true p130
       replace q130:=eq_true q130
       go_wp2_with (first|((with_reducible refine δv (f:=95) rfl ?_);refine goesL_ (some 12) rfl rfl Tryd.func95 (by kernel_rfl) rfl #[.string (rdOf ByteArray.empty l0 x7_1)] rfl (by (try simp only [δd,δe,δf]);first|done|rfl|(simp only [δg,δh];rfl)) ?_;(with_reducible refine (impl_DenomOK.calls k1 (rdOf ByteArray.empty l0 x7_1) φ _ A5.out).mono ?_);rintro e w' ⟨rfl,⟨nd,rfl⟩⟩;refine ⟨_,rfl,?_⟩))
       go_ret
       exact ⟨by first|rfl|(simp;done)|(simp [*];done),by repeat (first|exact Drawn0.refl _|apply Drawn0.step)⟩
     ·
      rw [if_neg c4] at H
      exact absurd H (by simp)
    ·
     rw [if_neg c3] at H
     exact absurd H (by simp)
   ·
    rw [if_neg c2] at H
    have c2b0:decide (x7_1<(l0.length:Int))=φ:=decide_eq_false c2
    clear c2
    obtain rfl:=Option.some.inj H
    go_wp2
    go_ret
    exact ⟨by first|rfl|(simp;done)|(simp [*];done),by repeat (first|exact Drawn0.refl _|apply Drawn0.step)⟩



/-! ### impl_isPeople: function 68 -/
def impl_isPeople.bad (t:ByteArray):Bool:=t.toList == ([101,115,99,114,111,119]:List UInt8) || (t.toList == ([111,114,100,101,114,115]:List UInt8) || (t.toList == ([116,97,107,101,115]:List UInt8) || t.toList == ([112,111,111,108]:List UInt8)))
def impl_isPeople.f (k:Nat) (l0:List ByteArray):Option Bool:=(impl_areNames.f k l0).bind fun t=>if t=τ then some (!(l0.any impl_isPeople.bad)) else some φ
theorem impl_isPeople.lit (a0:ByteArray) (w:World) :
  Calls Tryd.prog 103 #[.string a0] w fun e w'=>e = .returned (.bool (impl_isPeople.bad a0))∧Drawn0 w w':=by
 unfold impl_isPeople.bad
 cases h1:(a0.toList == ([101,115,99,114,111,119]:List UInt8)) <;> cases h2:(a0.toList == ([111,114,100,101,114,115]:List UInt8)) <;> cases h3:(a0.toList == ([116,97,107,101,115]:List UInt8)) <;>
 ·
  go_enter Tryd.func103,Tryd.ntmps103
  go_wp2
  go_ret
  exact ⟨by first|rfl|(simp;done)|(simp [*];done),by repeat (first|exact Drawn0.refl _|apply Drawn0.step)⟩
theorem impl_isPeople.calls (k:Nat) (A0:Option Addr) (c0:Nat) (l0:List ByteArray) (r:Bool) (w:World) (hr0:Kd.C Kd.string w A0 l0.length l0) (hc0:l0.length≤c0) (h:impl_isPeople.f k l0=some r) :
  Calls Tryd.prog 68 #[.slice A0 l0.length c0] w fun e w'=>e = .returned (.bool r)∧Drawn0 w w':=by
 obtain ⟨t,ht,h⟩:=Option.bind_eq_some_iff.mp h
 have HA:=ζa ht
 clear ht
 cases t with
 | true =>
  rw [if_pos rfl] at h
  obtain rfl:=Option.some.inj h
  go_enter Tryd.func68,Tryd.ntmps68
  go_wp2_with (first
   | (go_at_call 56;refine (impl_areNames.calls k A0 c0 l0 _ _ hr0 hc0 HA.out).mono ?_;rintro e w' ⟨rfl,⟨q',rfl⟩⟩)
   | (go_at_call 64;refine (slices_ContainsFunc_string_string.at_ 103 (enters_of Tryd.func103 (by kernel_rfl) rfl) _ impl_isPeople.lit A0 c0 l0 _ (by exact Kd.C_drewN hr0 _)).mono ?_;rintro e w' ⟨rfl,⟨q',rfl⟩⟩))
  go_ret
  exact ⟨rfl,by repeat (first|exact Drawn0.refl _|apply Drawn0.step)⟩
 | false =>
  rw [if_neg (by decide)] at h
  obtain rfl:=Option.some.inj h
  go_enter Tryd.func68,Tryd.ntmps68
  go_wp2_with (first
   | (go_at_call 56;refine (impl_areNames.calls k A0 c0 l0 _ _ hr0 hc0 HA.out).mono ?_;rintro e w' ⟨rfl,⟨q',rfl⟩⟩))
  go_ret
  exact ⟨rfl,by repeat (first|exact Drawn0.refl _|apply Drawn0.step)⟩


open Go.Proofs.YteghpdmlpefnfaaDoorW.PrintWords renaming gate_dst → δx, box_event → δz, below_step → δr, below_size → δs, blk_cell → δl, blk_frozen → δm, gate_callee → δv, pw_below_drewN → δi, blk_drewN → δn
open Go.Proofs.YteghpdmlpefnfaaDoorW.PrintWords.Kd renaming R_reads' → ζg, R_drewN → ζc

/-! ### impl_OrderOK: function 132 -/
def impl_OrderOK.f (k:Nat) (a0_0:ByteArray) (a0_1:ByteArray) (a0_2:Int) (a0_3:Int) (a0_4:Int) (a0_5:Bool):Option (Bool):=(impl_areNames.f k (([a0_0]:List ByteArray))).bind fun t404=>(if t404=τ then ((impl_isPeople.f k (([a0_1]:List ByteArray))).bind fun t408=>(if t408=τ then ((impl_isSome.f a0_2).bind fun t409=>(if t409=τ then ((impl_isSome.f a0_3).bind fun t410=>(if t410=τ then ((impl_within.f a0_4 0 a0_2).bind fun t411=>(if t411=τ then (some ((decide (a0_4 > 0)) == a0_5)) else (some φ))) else (some φ))) else (some φ))) else (some φ))) else (some φ))
set_option maxHeartbeats 8000000 in
set_option maxRecDepth 100000 in
theorem impl_OrderOK.calls (k:Nat) (a0_0:ByteArray) (a0_1:ByteArray) (a0_2:Int) (a0_3:Int) (a0_4:Int) (a0_5:Bool) (r:Bool) (w:World) (h:impl_OrderOK.f k a0_0 a0_1 a0_2 a0_3 a0_4 a0_5=some r) :
  Calls Tryd.prog 132 #[.agg #[.string a0_0,.string a0_1,.int .i64 a0_2,.int .i64 a0_3,.int .i64 a0_4,.bool a0_5]] w fun e w'=>e = .returned (.bool r)∧Below w.heap.size w w':=by
 have hu42:=Tryd.underlying42
 have HB:=ζa (Below.refl w.heap.size w)
 have H:((impl_areNames.f k (([a0_0]:List ByteArray))).bind fun t404=>(if t404=τ then ((impl_isPeople.f k (([a0_1]:List ByteArray))).bind fun t408=>(if t408=τ then ((impl_isSome.f a0_2).bind fun t409=>(if t409=τ then ((impl_isSome.f a0_3).bind fun t410=>(if t410=τ then ((impl_within.f a0_4 0 a0_2).bind fun t411=>(if t411=τ then (some ((decide (a0_4 > 0)) == a0_5)) else (some φ))) else (some φ))) else (some φ))) else (some φ))) else (some φ)))=some r:=h
 clear h
 obtain ⟨y401,hy401⟩ : ∃ y_:List ByteArray,y_=(([a0_0]:List ByteArray)):=⟨_,rfl⟩
 replace H:((impl_areNames.f k y401).bind fun t404=>(if t404=τ then ((impl_isPeople.f k (([a0_1]:List ByteArray))).bind fun t408=>(if t408=τ then ((impl_isSome.f a0_2).bind fun t409=>(if t409=τ then ((impl_isSome.f a0_3).bind fun t410=>(if t410=τ then ((impl_within.f a0_4 0 a0_2).bind fun t411=>(if t411=τ then (some ((decide (a0_4 > 0)) == a0_5)) else (some φ))) else (some φ))) else (some φ))) else (some φ))) else (some φ)))=some r:=by (rw [hy401];with_reducible exact H)
 have Ny401:=ζa hy401
 clear hy401
 replace H:=Option.bind_eq_some_iff.mp H
 obtain ⟨t404,A20,H⟩:=H
 replace H:(if t404=τ then ((impl_isPeople.f k (([a0_1]:List ByteArray))).bind fun t408=>(if t408=τ then ((impl_isSome.f a0_2).bind fun t409=>(if t409=τ then ((impl_isSome.f a0_3).bind fun t410=>(if t410=τ then ((impl_within.f a0_4 0 a0_2).bind fun t411=>(if t411=τ then (some ((decide (a0_4 > 0)) == a0_5)) else (some φ))) else (some φ))) else (some φ))) else (some φ))) else (some φ))=some r:=H
 have A2:=ζa A20
 clear A20
 by_cases c3:t404=τ
 ·
  subst c3
  have H1:((impl_isPeople.f k (([a0_1]:List ByteArray))).bind fun t408=>(if t408=τ then ((impl_isSome.f a0_2).bind fun t409=>(if t409=τ then ((impl_isSome.f a0_3).bind fun t410=>(if t410=τ then ((impl_within.f a0_4 0 a0_2).bind fun t411=>(if t411=τ then (some ((decide (a0_4 > 0)) == a0_5)) else (some φ))) else (some φ))) else (some φ))) else (some φ)))=some r:=by rw [if_pos rfl] at H;exact H
  clear H
  have H:=H1
  clear H1
  obtain ⟨y405,hy405⟩ : ∃ y_:List ByteArray,y_=(([a0_1]:List ByteArray)):=⟨_,rfl⟩
  replace H:((impl_isPeople.f k y405).bind fun t408=>(if t408=τ then ((impl_isSome.f a0_2).bind fun t409=>(if t409=τ then ((impl_isSome.f a0_3).bind fun t410=>(if t410=τ then ((impl_within.f a0_4 0 a0_2).bind fun t411=>(if t411=τ then (some ((decide (a0_4 > 0)) == a0_5)) else (some φ))) else (some φ))) else (some φ))) else (some φ)))=some r:=by (rw [hy405];with_reducible exact H)
  have Ny405:=ζa hy405
  clear hy405
  replace H:=Option.bind_eq_some_iff.mp H
  obtain ⟨t408,A40,H⟩:=H
  replace H:(if t408=τ then ((impl_isSome.f a0_2).bind fun t409=>(if t409=τ then ((impl_isSome.f a0_3).bind fun t410=>(if t410=τ then ((impl_within.f a0_4 0 a0_2).bind fun t411=>(if t411=τ then (some ((decide (a0_4 > 0)) == a0_5)) else (some φ))) else (some φ))) else (some φ))) else (some φ))=some r:=H
  have A4:=ζa A40
  clear A40
  by_cases c5:t408=τ
  ·
   subst c5
   have H1:((impl_isSome.f a0_2).bind fun t409=>(if t409=τ then ((impl_isSome.f a0_3).bind fun t410=>(if t410=τ then ((impl_within.f a0_4 0 a0_2).bind fun t411=>(if t411=τ then (some ((decide (a0_4 > 0)) == a0_5)) else (some φ))) else (some φ))) else (some φ)))=some r:=by rw [if_pos rfl] at H;exact H
   clear H
   have H:=H1
   clear H1
   replace H:=Option.bind_eq_some_iff.mp H
   obtain ⟨t409,A60,H⟩:=H
   replace H:(if t409=τ then ((impl_isSome.f a0_3).bind fun t410=>(if t410=τ then ((impl_within.f a0_4 0 a0_2).bind fun t411=>(if t411=τ then (some ((decide (a0_4 > 0)) == a0_5)) else (some φ))) else (some φ))) else (some φ))=some r:=H
   have A6:=ζa A60
   clear A60
   by_cases c7:t409=τ
   ·
    subst c7
    have H1:((impl_isSome.f a0_3).bind fun t410=>(if t410=τ then ((impl_within.f a0_4 0 a0_2).bind fun t411=>(if t411=τ then (some ((decide (a0_4 > 0)) == a0_5)) else (some φ))) else (some φ)))=some r:=by rw [if_pos rfl] at H;exact H
    clear H
    have H:=H1
    clear H1
    replace H:=Option.bind_eq_some_iff.mp H
    obtain ⟨t410,A80,H⟩:=H
    replace H:(if t410=τ then ((impl_within.f a0_4 0 a0_2).bind fun t411=>(if t411=τ then (some ((decide (a0_4 > 0)) == a0_5)) else (some φ))) else (some φ))=some r:=H
    have A8:=ζa A80
    clear A80
    by_cases c9:t410=τ
    ·
     subst c9
     have H1:((impl_within.f a0_4 0 a0_2).bind fun t411=>(if t411=τ then (some ((decide (a0_4 > 0)) == a0_5)) else (some φ)))=some r:=by rw [if_pos rfl] at H;exact H
     clear H
     have H:=H1
     clear H1
     replace H:=Option.bind_eq_some_iff.mp H
     obtain ⟨t411,A100,H⟩:=H
     replace H:(if t411=τ then (some ((decide (a0_4 > 0)) == a0_5)) else (some φ))=some r:=H
     have A10:=ζa A100
     clear A100
     by_cases c11:t411=τ
     ·
      subst c11
      have H1:(some ((decide (a0_4 > 0)) == a0_5))=some r:=by rw [if_pos rfl] at H;exact H
      clear H
      have H:=H1
      clear H1
      obtain rfl:=Option.some.inj H
      go_enter Tryd.func132,Tryd.ntmps132
      go_wp2_with (first|((with_reducible refine δx (N:=1) rfl ?_);(try (refine gate_guard (by rfl) ?_;dsimp only));refine δz ?hg (N:=1) ?hd (cs:=#[.string a0_0,.string a0_1,.int .i64 a0_2,.int .i64 a0_3,.int .i64 a0_4,.bool a0_5]) (t:=42) ?hr ?_;(case hd=>rfl);(case hg=>rfl);(case hr=>(go_simp;done));intro gb400 hg w12 hbox hb;have n0_:=ζa (δr (by exact HB.out) hb);have n1_:=ζa (hbox);have n2_:=ζa ((by rw [hg];exact (δs (by exact HB.out)):w.heap.size≤gb400));have n3_:=ζa ((by rw [hg];exact (δs (by exact HB.out)):w.heap.size≤gb400));clear HB;have HB:=n0_;have BK400:=n1_;have GW400:=n2_;have GE400:=n3_;clear n0_ n1_ n2_ n3_;clear hb hbox hg;have hcz13_0:w12.cell? ⟨gb400,0,none⟩=some (.string a0_0):=(δl BK400.out 0).trans rfl;have hcz13_1:w12.cell? ⟨gb400,1,none⟩=some (.string a0_1):=(δl BK400.out 1).trans rfl;have hcz13_2:w12.cell? ⟨gb400,2,none⟩=some (.int .i64 a0_2):=(δl BK400.out 2).trans rfl;have hcz13_3:w12.cell? ⟨gb400,3,none⟩=some (.int .i64 a0_3):=(δl BK400.out 3).trans rfl;have hcz13_4:w12.cell? ⟨gb400,4,none⟩=some (.int .i64 a0_4):=(δl BK400.out 4).trans rfl;have hcz13_5:w12.cell? ⟨gb400,5,none⟩=some (.bool a0_5):=(δl BK400.out 5).trans rfl;have hfz13_0:=δm BK400.out 0;have hfz13_1:=δm BK400.out 1;have hfz13_2:=δm BK400.out 2;have hfz13_3:=δm BK400.out 3;have hfz13_4:=δm BK400.out 4;have hfz13_5:=δm BK400.out 5)|((with_reducible refine δx (N:=5) rfl ?_);(try (refine gate_guard (by rfl) ?_;dsimp only));refine Kd.R_lit Kd.string _ 9 ?hg (N:=5) ?hd (xs:=([a0_0]:List ByteArray)) (inner:=[.string a0_0]) (ok:=fun _=>True) (okp:=fun _=>True) ?hr ?hp (fun _ hk=>hk) trivial (Below.refl _ _) (Nat.le_refl _) (by simp) ?_;(case hd=>rfl);(case hg=>rfl);(case hr=>(go_simp;done));(case hp=>exact (Reps.one (show Kd.M Kd.string _ _ _ a0_0 [.string a0_0] from rfl) (Reps.none _ _)));intro v402 w14 ho15 hb hg_ hnew_;clear hg_ hnew_;(rw [← Ny401.out] at ho15);have n0_:=ζa (Kd.R_lower ho15 (δs (by exact HB.out)));have n1_:=ζa (blk_below (g:=gb400) (o:=.cells #[.string a0_0,.string a0_1,.int .i64 a0_2,.int .i64 a0_3,.int .i64 a0_4,.bool a0_5] 42 (0,0)) (by exact BK400.out) hb);have n2_:=ζa (δr (by exact HB.out) hb);clear BK400;clear HB;have HO403:=n0_;have BK400:=n1_;have HB:=n2_;clear n0_ n1_ n2_;clear hb ho15;obtain ⟨Ao16,co16,eo16⟩:=Kd.R_slice HO403.out;subst eo16)|((with_reducible refine δv (f:=56) rfl ?_);refine goesL_ (some 6) rfl rfl Tryd.func56 (by kernel_rfl) rfl #[.slice Ao16 y401.length co16] rfl (by (try simp only [δd,δe,δf]);rfl) ?_;(with_reducible refine (impl_areNames.calls k _ _ y401 τ _ ?side1 ?side2 A2.out).mono ?_);(case side1=>repeat (exact (ζg HO403.out).2.2));(case side2=>exact (ζg HO403.out).2.1);rintro e w' ⟨rfl,⟨nd,rfl⟩⟩;refine ⟨_,rfl,?_⟩;have hcz17_0:w14.cell? ⟨gb400,0,none⟩=some (.string a0_0):=(δl BK400.out 0).trans rfl;have hcz17_1:w14.cell? ⟨gb400,1,none⟩=some (.string a0_1):=(δl BK400.out 1).trans rfl;have hcz17_2:w14.cell? ⟨gb400,2,none⟩=some (.int .i64 a0_2):=(δl BK400.out 2).trans rfl;have hcz17_3:w14.cell? ⟨gb400,3,none⟩=some (.int .i64 a0_3):=(δl BK400.out 3).trans rfl;have hcz17_4:w14.cell? ⟨gb400,4,none⟩=some (.int .i64 a0_4):=(δl BK400.out 4).trans rfl;have hcz17_5:w14.cell? ⟨gb400,5,none⟩=some (.bool a0_5):=(δl BK400.out 5).trans rfl;have hfz17_0:=δm BK400.out 0;have hfz17_1:=δm BK400.out 1;have hfz17_2:=δm BK400.out 2;have hfz17_3:=δm BK400.out 3;have hfz17_4:=δm BK400.out 4;have hfz17_5:=δm BK400.out 5)|((with_reducible refine δx (N:=10) rfl ?_);(try (refine gate_guard (by rfl) ?_;dsimp only));refine Kd.R_lit Kd.string _ 9 ?hg (N:=10) ?hd (xs:=([a0_1]:List ByteArray)) (inner:=[.string a0_1]) (ok:=fun _=>True) (okp:=fun _=>True) ?hr ?hp (fun _ hk=>hk) trivial (Below.refl _ _) (Nat.le_refl _) (by simp) ?_;(case hd=>rfl);(case hg=>rfl);(case hr=>(go_simp;done));(case hp=>exact (Reps.one (show Kd.M Kd.string _ _ _ a0_1 [.string a0_1] from rfl) (Reps.none _ _)));intro v406 w18 ho19 hb hg_ hnew_;clear hg_ hnew_;(rw [← Ny405.out] at ho19);have n0_:=ζa (Kd.R_elder' (by (with_reducible repeat (apply ζc));exact HO403.out) (Kd.R_base ho19) hb);have n1_:=ζa (Kd.R_lower (Kd.R_new' ho19 (Kd.R_lt (by (with_reducible repeat (apply ζc));exact HO403.out))) (δs (by repeat ((with_reducible first|exact HB.out|apply δi)))));have n2_:=ζa (blk_below (g:=gb400) (o:=.cells #[.string a0_0,.string a0_1,.int .i64 a0_2,.int .i64 a0_3,.int .i64 a0_4,.bool a0_5] 42 (0,0)) (by (with_reducible repeat (refine δn ?_ _));exact BK400.out) hb);have n3_:=ζa (δr (by repeat ((with_reducible first|exact HB.out|apply δi))) hb);clear HO403;clear BK400;clear HB;have HO403:=n0_;have HO407:=n1_;have BK400:=n2_;have HB:=n3_;clear n0_ n1_ n2_ n3_;clear hb ho19;obtain ⟨Ao20,co20,eo20⟩:=Kd.R_slice HO407.out;subst eo20)|(go_at_call 68;(with_reducible refine (impl_isPeople.calls k _ _ y405 τ _ ?side1 ?side2 A4.out).mono ?_);(case side1=>repeat (exact (ζg HO407.out).2.2));(case side2=>exact (ζg HO407.out).2.1);rintro e w' ⟨rfl,⟨nd,rfl⟩⟩;have hcz21_0:w18.cell? ⟨gb400,0,none⟩=some (.string a0_0):=(δl BK400.out 0).trans rfl;have hcz21_1:w18.cell? ⟨gb400,1,none⟩=some (.string a0_1):=(δl BK400.out 1).trans rfl;have hcz21_2:w18.cell? ⟨gb400,2,none⟩=some (.int .i64 a0_2):=(δl BK400.out 2).trans rfl;have hcz21_3:w18.cell? ⟨gb400,3,none⟩=some (.int .i64 a0_3):=(δl BK400.out 3).trans rfl;have hcz21_4:w18.cell? ⟨gb400,4,none⟩=some (.int .i64 a0_4):=(δl BK400.out 4).trans rfl;have hcz21_5:w18.cell? ⟨gb400,5,none⟩=some (.bool a0_5):=(δl BK400.out 5).trans rfl;have hfz21_0:=δm BK400.out 0;have hfz21_1:=δm BK400.out 1;have hfz21_2:=δm BK400.out 2;have hfz21_3:=δm BK400.out 3;have hfz21_4:=δm BK400.out 4;have hfz21_5:=δm BK400.out 5)|(go_at_call 67;(with_reducible refine (impl_isSome.calls a0_2 τ _ A6.out).mono ?_);rintro e w' ⟨rfl,⟨nd,rfl⟩⟩)|(go_at_call 67;(with_reducible refine (impl_isSome.calls a0_3 τ _ A8.out).mono ?_);rintro e w' ⟨rfl,⟨nd,rfl⟩⟩)|(go_at_call 102;(with_reducible refine (impl_within.calls a0_4 0 a0_2 τ _ A10.out).mono ?_);rintro e w' ⟨rfl,⟨nd,rfl⟩⟩))
      go_ret
      exact ⟨by rfl,by repeat ((with_reducible first|exact HB.out|apply δi))⟩
     ·
      replace c11:=Bool.eq_false_iff.mpr c11
      subst c11
      have H1:(some φ)=some r:=by rw [if_neg (show ¬ (φ=τ) by decide)] at H;exact H
      clear H
      have H:=H1
      clear H1
      obtain rfl:=Option.some.inj H
      go_enter Tryd.func132,Tryd.ntmps132
      go_wp2_with (first|((with_reducible refine δx (N:=1) rfl ?_);(try (refine gate_guard (by rfl) ?_;dsimp only));refine δz ?hg (N:=1) ?hd (cs:=#[.string a0_0,.string a0_1,.int .i64 a0_2,.int .i64 a0_3,.int .i64 a0_4,.bool a0_5]) (t:=42) ?hr ?_;(case hd=>rfl);(case hg=>rfl);(case hr=>(go_simp;done));intro gb400 hg w22 hbox hb;have n0_:=ζa (δr (by exact HB.out) hb);have n1_:=ζa (hbox);have n2_:=ζa ((by rw [hg];exact (δs (by exact HB.out)):w.heap.size≤gb400));have n3_:=ζa ((by rw [hg];exact (δs (by exact HB.out)):w.heap.size≤gb400));clear HB;have HB:=n0_;have BK400:=n1_;have GW400:=n2_;have GE400:=n3_;clear n0_ n1_ n2_ n3_;clear hb hbox hg;have hcz23_0:w22.cell? ⟨gb400,0,none⟩=some (.string a0_0):=(δl BK400.out 0).trans rfl;have hcz23_1:w22.cell? ⟨gb400,1,none⟩=some (.string a0_1):=(δl BK400.out 1).trans rfl;have hcz23_2:w22.cell? ⟨gb400,2,none⟩=some (.int .i64 a0_2):=(δl BK400.out 2).trans rfl;have hcz23_3:w22.cell? ⟨gb400,3,none⟩=some (.int .i64 a0_3):=(δl BK400.out 3).trans rfl;have hcz23_4:w22.cell? ⟨gb400,4,none⟩=some (.int .i64 a0_4):=(δl BK400.out 4).trans rfl;have hcz23_5:w22.cell? ⟨gb400,5,none⟩=some (.bool a0_5):=(δl BK400.out 5).trans rfl;have hfz23_0:=δm BK400.out 0;have hfz23_1:=δm BK400.out 1;have hfz23_2:=δm BK400.out 2;have hfz23_3:=δm BK400.out 3;have hfz23_4:=δm BK400.out 4;have hfz23_5:=δm BK400.out 5)|((with_reducible refine δx (N:=5) rfl ?_);(try (refine gate_guard (by rfl) ?_;dsimp only));refine Kd.R_lit Kd.string _ 9 ?hg (N:=5) ?hd (xs:=([a0_0]:List ByteArray)) (inner:=[.string a0_0]) (ok:=fun _=>True) (okp:=fun _=>True) ?hr ?hp (fun _ hk=>hk) trivial (Below.refl _ _) (Nat.le_refl _) (by simp) ?_;(case hd=>rfl);(case hg=>rfl);(case hr=>(go_simp;done));(case hp=>exact (Reps.one (show Kd.M Kd.string _ _ _ a0_0 [.string a0_0] from rfl) (Reps.none _ _)));intro v402 w24 ho25 hb hg_ hnew_;clear hg_ hnew_;(rw [← Ny401.out] at ho25);have n0_:=ζa (Kd.R_lower ho25 (δs (by exact HB.out)));have n1_:=ζa (blk_below (g:=gb400) (o:=.cells #[.string a0_0,.string a0_1,.int .i64 a0_2,.int .i64 a0_3,.int .i64 a0_4,.bool a0_5] 42 (0,0)) (by exact BK400.out) hb);have n2_:=ζa (δr (by exact HB.out) hb);clear BK400;clear HB;have HO403:=n0_;have BK400:=n1_;have HB:=n2_;clear n0_ n1_ n2_;clear hb ho25;obtain ⟨Ao26,co26,eo26⟩:=Kd.R_slice HO403.out;subst eo26)|((with_reducible refine δv (f:=56) rfl ?_);refine goesL_ (some 6) rfl rfl Tryd.func56 (by kernel_rfl) rfl #[.slice Ao26 y401.length co26] rfl (by (try simp only [δd,δe,δf]);rfl) ?_;(with_reducible refine (impl_areNames.calls k _ _ y401 τ _ ?side1 ?side2 A2.out).mono ?_);(case side1=>repeat (exact (ζg HO403.out).2.2));(case side2=>exact (ζg HO403.out).2.1);rintro e w' ⟨rfl,⟨nd,rfl⟩⟩;refine ⟨_,rfl,?_⟩;have hcz27_0:w24.cell? ⟨gb400,0,none⟩=some (.string a0_0):=(δl BK400.out 0).trans rfl;have hcz27_1:w24.cell? ⟨gb400,1,none⟩=some (.string a0_1):=(δl BK400.out 1).trans rfl;have hcz27_2:w24.cell? ⟨gb400,2,none⟩=some (.int .i64 a0_2):=(δl BK400.out 2).trans rfl;have hcz27_3:w24.cell? ⟨gb400,3,none⟩=some (.int .i64 a0_3):=(δl BK400.out 3).trans rfl;have hcz27_4:w24.cell? ⟨gb400,4,none⟩=some (.int .i64 a0_4):=(δl BK400.out 4).trans rfl;have hcz27_5:w24.cell? ⟨gb400,5,none⟩=some (.bool a0_5):=(δl BK400.out 5).trans rfl;have hfz27_0:=δm BK400.out 0;have hfz27_1:=δm BK400.out 1;have hfz27_2:=δm BK400.out 2;have hfz27_3:=δm BK400.out 3;have hfz27_4:=δm BK400.out 4;have hfz27_5:=δm BK400.out 5)|((with_reducible refine δx (N:=10) rfl ?_);(try (refine gate_guard (by rfl) ?_;dsimp only));refine Kd.R_lit Kd.string _ 9 ?hg (N:=10) ?hd (xs:=([a0_1]:List ByteArray)) (inner:=[.string a0_1]) (ok:=fun _=>True) (okp:=fun _=>True) ?hr ?hp (fun _ hk=>hk) trivial (Below.refl _ _) (Nat.le_refl _) (by simp) ?_;(case hd=>rfl);(case hg=>rfl);(case hr=>(go_simp;done));(case hp=>exact (Reps.one (show Kd.M Kd.string _ _ _ a0_1 [.string a0_1] from rfl) (Reps.none _ _)));intro v406 w28 ho29 hb hg_ hnew_;clear hg_ hnew_;(rw [← Ny405.out] at ho29);have n0_:=ζa (Kd.R_elder' (by (with_reducible repeat (apply ζc));exact HO403.out) (Kd.R_base ho29) hb);have n1_:=ζa (Kd.R_lower (Kd.R_new' ho29 (Kd.R_lt (by (with_reducible repeat (apply ζc));exact HO403.out))) (δs (by repeat ((with_reducible first|exact HB.out|apply δi)))));have n2_:=ζa (blk_below (g:=gb400) (o:=.cells #[.string a0_0,.string a0_1,.int .i64 a0_2,.int .i64 a0_3,.int .i64 a0_4,.bool a0_5] 42 (0,0)) (by (with_reducible repeat (refine δn ?_ _));exact BK400.out) hb);have n3_:=ζa (δr (by repeat ((with_reducible first|exact HB.out|apply δi))) hb);clear HO403;clear BK400;clear HB;have HO403:=n0_;have HO407:=n1_;have BK400:=n2_;have HB:=n3_;clear n0_ n1_ n2_ n3_;clear hb ho29;obtain ⟨Ao30,co30,eo30⟩:=Kd.R_slice HO407.out;subst eo30)|(go_at_call 68;(with_reducible refine (impl_isPeople.calls k _ _ y405 τ _ ?side1 ?side2 A4.out).mono ?_);(case side1=>repeat (exact (ζg HO407.out).2.2));(case side2=>exact (ζg HO407.out).2.1);rintro e w' ⟨rfl,⟨nd,rfl⟩⟩;have hcz31_0:w28.cell? ⟨gb400,0,none⟩=some (.string a0_0):=(δl BK400.out 0).trans rfl;have hcz31_1:w28.cell? ⟨gb400,1,none⟩=some (.string a0_1):=(δl BK400.out 1).trans rfl;have hcz31_2:w28.cell? ⟨gb400,2,none⟩=some (.int .i64 a0_2):=(δl BK400.out 2).trans rfl;have hcz31_3:w28.cell? ⟨gb400,3,none⟩=some (.int .i64 a0_3):=(δl BK400.out 3).trans rfl;have hcz31_4:w28.cell? ⟨gb400,4,none⟩=some (.int .i64 a0_4):=(δl BK400.out 4).trans rfl;have hcz31_5:w28.cell? ⟨gb400,5,none⟩=some (.bool a0_5):=(δl BK400.out 5).trans rfl;have hfz31_0:=δm BK400.out 0;have hfz31_1:=δm BK400.out 1;have hfz31_2:=δm BK400.out 2;have hfz31_3:=δm BK400.out 3;have hfz31_4:=δm BK400.out 4;have hfz31_5:=δm BK400.out 5)|(go_at_call 67;(with_reducible refine (impl_isSome.calls a0_2 τ _ A6.out).mono ?_);rintro e w' ⟨rfl,⟨nd,rfl⟩⟩)|(go_at_call 67;(with_reducible refine (impl_isSome.calls a0_3 τ _ A8.out).mono ?_);rintro e w' ⟨rfl,⟨nd,rfl⟩⟩)|(go_at_call 102;(with_reducible refine (impl_within.calls a0_4 0 a0_2 φ _ A10.out).mono ?_);rintro e w' ⟨rfl,⟨nd,rfl⟩⟩))
      go_ret
      exact ⟨by rfl,by repeat ((with_reducible first|exact HB.out|apply δi))⟩
    ·
     replace c9:=Bool.eq_false_iff.mpr c9
     subst c9
     have H1:(some φ)=some r:=by rw [if_neg (show ¬ (φ=τ) by decide)] at H;exact H
     clear H
     have H:=H1
     clear H1
     obtain rfl:=Option.some.inj H
     go_enter Tryd.func132,Tryd.ntmps132
     go_wp2_with (first|((with_reducible refine δx (N:=1) rfl ?_);(try (refine gate_guard (by rfl) ?_;dsimp only));refine δz ?hg (N:=1) ?hd (cs:=#[.string a0_0,.string a0_1,.int .i64 a0_2,.int .i64 a0_3,.int .i64 a0_4,.bool a0_5]) (t:=42) ?hr ?_;(case hd=>rfl);(case hg=>rfl);(case hr=>(go_simp;done));intro gb400 hg w32 hbox hb;have n0_:=ζa (δr (by exact HB.out) hb);have n1_:=ζa (hbox);have n2_:=ζa ((by rw [hg];exact (δs (by exact HB.out)):w.heap.size≤gb400));have n3_:=ζa ((by rw [hg];exact (δs (by exact HB.out)):w.heap.size≤gb400));clear HB;have HB:=n0_;have BK400:=n1_;have GW400:=n2_;have GE400:=n3_;clear n0_ n1_ n2_ n3_;clear hb hbox hg;have hcz33_0:w32.cell? ⟨gb400,0,none⟩=some (.string a0_0):=(δl BK400.out 0).trans rfl;have hcz33_1:w32.cell? ⟨gb400,1,none⟩=some (.string a0_1):=(δl BK400.out 1).trans rfl;have hcz33_2:w32.cell? ⟨gb400,2,none⟩=some (.int .i64 a0_2):=(δl BK400.out 2).trans rfl;have hcz33_3:w32.cell? ⟨gb400,3,none⟩=some (.int .i64 a0_3):=(δl BK400.out 3).trans rfl;have hcz33_4:w32.cell? ⟨gb400,4,none⟩=some (.int .i64 a0_4):=(δl BK400.out 4).trans rfl;have hcz33_5:w32.cell? ⟨gb400,5,none⟩=some (.bool a0_5):=(δl BK400.out 5).trans rfl;have hfz33_0:=δm BK400.out 0;have hfz33_1:=δm BK400.out 1;have hfz33_2:=δm BK400.out 2;have hfz33_3:=δm BK400.out 3;have hfz33_4:=δm BK400.out 4;have hfz33_5:=δm BK400.out 5)|((with_reducible refine δx (N:=5) rfl ?_);(try (refine gate_guard (by rfl) ?_;dsimp only));refine Kd.R_lit Kd.string _ 9 ?hg (N:=5) ?hd (xs:=([a0_0]:List ByteArray)) (inner:=[.string a0_0]) (ok:=fun _=>True) (okp:=fun _=>True) ?hr ?hp (fun _ hk=>hk) trivial (Below.refl _ _) (Nat.le_refl _) (by simp) ?_;(case hd=>rfl);(case hg=>rfl);(case hr=>(go_simp;done));(case hp=>exact (Reps.one (show Kd.M Kd.string _ _ _ a0_0 [.string a0_0] from rfl) (Reps.none _ _)));intro v402 w34 ho35 hb hg_ hnew_;clear hg_ hnew_;(rw [← Ny401.out] at ho35);have n0_:=ζa (Kd.R_lower ho35 (δs (by exact HB.out)));have n1_:=ζa (blk_below (g:=gb400) (o:=.cells #[.string a0_0,.string a0_1,.int .i64 a0_2,.int .i64 a0_3,.int .i64 a0_4,.bool a0_5] 42 (0,0)) (by exact BK400.out) hb);have n2_:=ζa (δr (by exact HB.out) hb);clear BK400;clear HB;have HO403:=n0_;have BK400:=n1_;have HB:=n2_;clear n0_ n1_ n2_;clear hb ho35;obtain ⟨Ao36,co36,eo36⟩:=Kd.R_slice HO403.out;subst eo36)|((with_reducible refine δv (f:=56) rfl ?_);refine goesL_ (some 6) rfl rfl Tryd.func56 (by kernel_rfl) rfl #[.slice Ao36 y401.length co36] rfl (by (try simp only [δd,δe,δf]);rfl) ?_;(with_reducible refine (impl_areNames.calls k _ _ y401 τ _ ?side1 ?side2 A2.out).mono ?_);(case side1=>repeat (exact (ζg HO403.out).2.2));(case side2=>exact (ζg HO403.out).2.1);rintro e w' ⟨rfl,⟨nd,rfl⟩⟩;refine ⟨_,rfl,?_⟩;have hcz37_0:w34.cell? ⟨gb400,0,none⟩=some (.string a0_0):=(δl BK400.out 0).trans rfl;have hcz37_1:w34.cell? ⟨gb400,1,none⟩=some (.string a0_1):=(δl BK400.out 1).trans rfl;have hcz37_2:w34.cell? ⟨gb400,2,none⟩=some (.int .i64 a0_2):=(δl BK400.out 2).trans rfl;have hcz37_3:w34.cell? ⟨gb400,3,none⟩=some (.int .i64 a0_3):=(δl BK400.out 3).trans rfl;have hcz37_4:w34.cell? ⟨gb400,4,none⟩=some (.int .i64 a0_4):=(δl BK400.out 4).trans rfl;have hcz37_5:w34.cell? ⟨gb400,5,none⟩=some (.bool a0_5):=(δl BK400.out 5).trans rfl;have hfz37_0:=δm BK400.out 0;have hfz37_1:=δm BK400.out 1;have hfz37_2:=δm BK400.out 2;have hfz37_3:=δm BK400.out 3;have hfz37_4:=δm BK400.out 4;have hfz37_5:=δm BK400.out 5)|((with_reducible refine δx (N:=10) rfl ?_);(try (refine gate_guard (by rfl) ?_;dsimp only));refine Kd.R_lit Kd.string _ 9 ?hg (N:=10) ?hd (xs:=([a0_1]:List ByteArray)) (inner:=[.string a0_1]) (ok:=fun _=>True) (okp:=fun _=>True) ?hr ?hp (fun _ hk=>hk) trivial (Below.refl _ _) (Nat.le_refl _) (by simp) ?_;(case hd=>rfl);(case hg=>rfl);(case hr=>(go_simp;done));(case hp=>exact (Reps.one (show Kd.M Kd.string _ _ _ a0_1 [.string a0_1] from rfl) (Reps.none _ _)));intro v406 w38 ho39 hb hg_ hnew_;clear hg_ hnew_;(rw [← Ny405.out] at ho39);have n0_:=ζa (Kd.R_elder' (by (with_reducible repeat (apply ζc));exact HO403.out) (Kd.R_base ho39) hb);have n1_:=ζa (Kd.R_lower (Kd.R_new' ho39 (Kd.R_lt (by (with_reducible repeat (apply ζc));exact HO403.out))) (δs (by repeat ((with_reducible first|exact HB.out|apply δi)))));have n2_:=ζa (blk_below (g:=gb400) (o:=.cells #[.string a0_0,.string a0_1,.int .i64 a0_2,.int .i64 a0_3,.int .i64 a0_4,.bool a0_5] 42 (0,0)) (by (with_reducible repeat (refine δn ?_ _));exact BK400.out) hb);have n3_:=ζa (δr (by repeat ((with_reducible first|exact HB.out|apply δi))) hb);clear HO403;clear BK400;clear HB;have HO403:=n0_;have HO407:=n1_;have BK400:=n2_;have HB:=n3_;clear n0_ n1_ n2_ n3_;clear hb ho39;obtain ⟨Ao40,co40,eo40⟩:=Kd.R_slice HO407.out;subst eo40)|(go_at_call 68;(with_reducible refine (impl_isPeople.calls k _ _ y405 τ _ ?side1 ?side2 A4.out).mono ?_);(case side1=>repeat (exact (ζg HO407.out).2.2));(case side2=>exact (ζg HO407.out).2.1);rintro e w' ⟨rfl,⟨nd,rfl⟩⟩;have hcz41_0:w38.cell? ⟨gb400,0,none⟩=some (.string a0_0):=(δl BK400.out 0).trans rfl;have hcz41_1:w38.cell? ⟨gb400,1,none⟩=some (.string a0_1):=(δl BK400.out 1).trans rfl;have hcz41_2:w38.cell? ⟨gb400,2,none⟩=some (.int .i64 a0_2):=(δl BK400.out 2).trans rfl;have hcz41_3:w38.cell? ⟨gb400,3,none⟩=some (.int .i64 a0_3):=(δl BK400.out 3).trans rfl;have hcz41_4:w38.cell? ⟨gb400,4,none⟩=some (.int .i64 a0_4):=(δl BK400.out 4).trans rfl;have hcz41_5:w38.cell? ⟨gb400,5,none⟩=some (.bool a0_5):=(δl BK400.out 5).trans rfl;have hfz41_0:=δm BK400.out 0;have hfz41_1:=δm BK400.out 1;have hfz41_2:=δm BK400.out 2;have hfz41_3:=δm BK400.out 3;have hfz41_4:=δm BK400.out 4;have hfz41_5:=δm BK400.out 5)|(go_at_call 67;(with_reducible refine (impl_isSome.calls a0_2 τ _ A6.out).mono ?_);rintro e w' ⟨rfl,⟨nd,rfl⟩⟩)|(go_at_call 67;(with_reducible refine (impl_isSome.calls a0_3 φ _ A8.out).mono ?_);rintro e w' ⟨rfl,⟨nd,rfl⟩⟩))
     go_ret
     exact ⟨by rfl,by repeat ((with_reducible first|exact HB.out|apply δi))⟩
   ·
    replace c7:=Bool.eq_false_iff.mpr c7
    subst c7
    have H1:(some φ)=some r:=by rw [if_neg (show ¬ (φ=τ) by decide)] at H;exact H
    clear H
    have H:=H1
    clear H1
    obtain rfl:=Option.some.inj H
    go_enter Tryd.func132,Tryd.ntmps132
    go_wp2_with (first|((with_reducible refine δx (N:=1) rfl ?_);(try (refine gate_guard (by rfl) ?_;dsimp only));refine δz ?hg (N:=1) ?hd (cs:=#[.string a0_0,.string a0_1,.int .i64 a0_2,.int .i64 a0_3,.int .i64 a0_4,.bool a0_5]) (t:=42) ?hr ?_;(case hd=>rfl);(case hg=>rfl);(case hr=>(go_simp;done));intro gb400 hg w42 hbox hb;have n0_:=ζa (δr (by exact HB.out) hb);have n1_:=ζa (hbox);have n2_:=ζa ((by rw [hg];exact (δs (by exact HB.out)):w.heap.size≤gb400));have n3_:=ζa ((by rw [hg];exact (δs (by exact HB.out)):w.heap.size≤gb400));clear HB;have HB:=n0_;have BK400:=n1_;have GW400:=n2_;have GE400:=n3_;clear n0_ n1_ n2_ n3_;clear hb hbox hg;have hcz43_0:w42.cell? ⟨gb400,0,none⟩=some (.string a0_0):=(δl BK400.out 0).trans rfl;have hcz43_1:w42.cell? ⟨gb400,1,none⟩=some (.string a0_1):=(δl BK400.out 1).trans rfl;have hcz43_2:w42.cell? ⟨gb400,2,none⟩=some (.int .i64 a0_2):=(δl BK400.out 2).trans rfl;have hcz43_3:w42.cell? ⟨gb400,3,none⟩=some (.int .i64 a0_3):=(δl BK400.out 3).trans rfl;have hcz43_4:w42.cell? ⟨gb400,4,none⟩=some (.int .i64 a0_4):=(δl BK400.out 4).trans rfl;have hcz43_5:w42.cell? ⟨gb400,5,none⟩=some (.bool a0_5):=(δl BK400.out 5).trans rfl;have hfz43_0:=δm BK400.out 0;have hfz43_1:=δm BK400.out 1;have hfz43_2:=δm BK400.out 2;have hfz43_3:=δm BK400.out 3;have hfz43_4:=δm BK400.out 4;have hfz43_5:=δm BK400.out 5)|((with_reducible refine δx (N:=5) rfl ?_);(try (refine gate_guard (by rfl) ?_;dsimp only));refine Kd.R_lit Kd.string _ 9 ?hg (N:=5) ?hd (xs:=([a0_0]:List ByteArray)) (inner:=[.string a0_0]) (ok:=fun _=>True) (okp:=fun _=>True) ?hr ?hp (fun _ hk=>hk) trivial (Below.refl _ _) (Nat.le_refl _) (by simp) ?_;(case hd=>rfl);(case hg=>rfl);(case hr=>(go_simp;done));(case hp=>exact (Reps.one (show Kd.M Kd.string _ _ _ a0_0 [.string a0_0] from rfl) (Reps.none _ _)));intro v402 w44 ho45 hb hg_ hnew_;clear hg_ hnew_;(rw [← Ny401.out] at ho45);have n0_:=ζa (Kd.R_lower ho45 (δs (by exact HB.out)));have n1_:=ζa (blk_below (g:=gb400) (o:=.cells #[.string a0_0,.string a0_1,.int .i64 a0_2,.int .i64 a0_3,.int .i64 a0_4,.bool a0_5] 42 (0,0)) (by exact BK400.out) hb);have n2_:=ζa (δr (by exact HB.out) hb);clear BK400;clear HB;have HO403:=n0_;have BK400:=n1_;have HB:=n2_;clear n0_ n1_ n2_;clear hb ho45;obtain ⟨Ao46,co46,eo46⟩:=Kd.R_slice HO403.out;subst eo46)|((with_reducible refine δv (f:=56) rfl ?_);refine goesL_ (some 6) rfl rfl Tryd.func56 (by kernel_rfl) rfl #[.slice Ao46 y401.length co46] rfl (by (try simp only [δd,δe,δf]);rfl) ?_;(with_reducible refine (impl_areNames.calls k _ _ y401 τ _ ?side1 ?side2 A2.out).mono ?_);(case side1=>repeat (exact (ζg HO403.out).2.2));(case side2=>exact (ζg HO403.out).2.1);rintro e w' ⟨rfl,⟨nd,rfl⟩⟩;refine ⟨_,rfl,?_⟩;have hcz47_0:w44.cell? ⟨gb400,0,none⟩=some (.string a0_0):=(δl BK400.out 0).trans rfl;have hcz47_1:w44.cell? ⟨gb400,1,none⟩=some (.string a0_1):=(δl BK400.out 1).trans rfl;have hcz47_2:w44.cell? ⟨gb400,2,none⟩=some (.int .i64 a0_2):=(δl BK400.out 2).trans rfl;have hcz47_3:w44.cell? ⟨gb400,3,none⟩=some (.int .i64 a0_3):=(δl BK400.out 3).trans rfl;have hcz47_4:w44.cell? ⟨gb400,4,none⟩=some (.int .i64 a0_4):=(δl BK400.out 4).trans rfl;have hcz47_5:w44.cell? ⟨gb400,5,none⟩=some (.bool a0_5):=(δl BK400.out 5).trans rfl;have hfz47_0:=δm BK400.out 0;have hfz47_1:=δm BK400.out 1;have hfz47_2:=δm BK400.out 2;have hfz47_3:=δm BK400.out 3;have hfz47_4:=δm BK400.out 4;have hfz47_5:=δm BK400.out 5)|((with_reducible refine δx (N:=10) rfl ?_);(try (refine gate_guard (by rfl) ?_;dsimp only));refine Kd.R_lit Kd.string _ 9 ?hg (N:=10) ?hd (xs:=([a0_1]:List ByteArray)) (inner:=[.string a0_1]) (ok:=fun _=>True) (okp:=fun _=>True) ?hr ?hp (fun _ hk=>hk) trivial (Below.refl _ _) (Nat.le_refl _) (by simp) ?_;(case hd=>rfl);(case hg=>rfl);(case hr=>(go_simp;done));(case hp=>exact (Reps.one (show Kd.M Kd.string _ _ _ a0_1 [.string a0_1] from rfl) (Reps.none _ _)));intro v406 w48 ho49 hb hg_ hnew_;clear hg_ hnew_;(rw [← Ny405.out] at ho49);have n0_:=ζa (Kd.R_elder' (by (with_reducible repeat (apply ζc));exact HO403.out) (Kd.R_base ho49) hb);have n1_:=ζa (Kd.R_lower (Kd.R_new' ho49 (Kd.R_lt (by (with_reducible repeat (apply ζc));exact HO403.out))) (δs (by repeat ((with_reducible first|exact HB.out|apply δi)))));have n2_:=ζa (blk_below (g:=gb400) (o:=.cells #[.string a0_0,.string a0_1,.int .i64 a0_2,.int .i64 a0_3,.int .i64 a0_4,.bool a0_5] 42 (0,0)) (by (with_reducible repeat (refine δn ?_ _));exact BK400.out) hb);have n3_:=ζa (δr (by repeat ((with_reducible first|exact HB.out|apply δi))) hb);clear HO403;clear BK400;clear HB;have HO403:=n0_;have HO407:=n1_;have BK400:=n2_;have HB:=n3_;clear n0_ n1_ n2_ n3_;clear hb ho49;obtain ⟨Ao50,co50,eo50⟩:=Kd.R_slice HO407.out;subst eo50)|(go_at_call 68;(with_reducible refine (impl_isPeople.calls k _ _ y405 τ _ ?side1 ?side2 A4.out).mono ?_);(case side1=>repeat (exact (ζg HO407.out).2.2));(case side2=>exact (ζg HO407.out).2.1);rintro e w' ⟨rfl,⟨nd,rfl⟩⟩;have hcz51_0:w48.cell? ⟨gb400,0,none⟩=some (.string a0_0):=(δl BK400.out 0).trans rfl;have hcz51_1:w48.cell? ⟨gb400,1,none⟩=some (.string a0_1):=(δl BK400.out 1).trans rfl;have hcz51_2:w48.cell? ⟨gb400,2,none⟩=some (.int .i64 a0_2):=(δl BK400.out 2).trans rfl;have hcz51_3:w48.cell? ⟨gb400,3,none⟩=some (.int .i64 a0_3):=(δl BK400.out 3).trans rfl;have hcz51_4:w48.cell? ⟨gb400,4,none⟩=some (.int .i64 a0_4):=(δl BK400.out 4).trans rfl;have hcz51_5:w48.cell? ⟨gb400,5,none⟩=some (.bool a0_5):=(δl BK400.out 5).trans rfl;have hfz51_0:=δm BK400.out 0;have hfz51_1:=δm BK400.out 1;have hfz51_2:=δm BK400.out 2;have hfz51_3:=δm BK400.out 3;have hfz51_4:=δm BK400.out 4;have hfz51_5:=δm BK400.out 5)|(go_at_call 67;(with_reducible refine (impl_isSome.calls a0_2 φ _ A6.out).mono ?_);rintro e w' ⟨rfl,⟨nd,rfl⟩⟩))
    go_ret
    exact ⟨by rfl,by repeat ((with_reducible first|exact HB.out|apply δi))⟩
  ·
   replace c5:=Bool.eq_false_iff.mpr c5
   subst c5
   have H1:(some φ)=some r:=by rw [if_neg (show ¬ (φ=τ) by decide)] at H;exact H
   clear H
   have H:=H1
   clear H1
   obtain rfl:=Option.some.inj H
   go_enter Tryd.func132,Tryd.ntmps132
   go_wp2_with (first|((with_reducible refine δx (N:=1) rfl ?_);(try (refine gate_guard (by rfl) ?_;dsimp only));refine δz ?hg (N:=1) ?hd (cs:=#[.string a0_0,.string a0_1,.int .i64 a0_2,.int .i64 a0_3,.int .i64 a0_4,.bool a0_5]) (t:=42) ?hr ?_;(case hd=>rfl);(case hg=>rfl);(case hr=>(go_simp;done));intro gb400 hg w52 hbox hb;have n0_:=ζa (δr (by exact HB.out) hb);have n1_:=ζa (hbox);have n2_:=ζa ((by rw [hg];exact (δs (by exact HB.out)):w.heap.size≤gb400));have n3_:=ζa ((by rw [hg];exact (δs (by exact HB.out)):w.heap.size≤gb400));clear HB;have HB:=n0_;have BK400:=n1_;have GW400:=n2_;have GE400:=n3_;clear n0_ n1_ n2_ n3_;clear hb hbox hg;have hcz53_0:w52.cell? ⟨gb400,0,none⟩=some (.string a0_0):=(δl BK400.out 0).trans rfl;have hcz53_1:w52.cell? ⟨gb400,1,none⟩=some (.string a0_1):=(δl BK400.out 1).trans rfl;have hcz53_2:w52.cell? ⟨gb400,2,none⟩=some (.int .i64 a0_2):=(δl BK400.out 2).trans rfl;have hcz53_3:w52.cell? ⟨gb400,3,none⟩=some (.int .i64 a0_3):=(δl BK400.out 3).trans rfl;have hcz53_4:w52.cell? ⟨gb400,4,none⟩=some (.int .i64 a0_4):=(δl BK400.out 4).trans rfl;have hcz53_5:w52.cell? ⟨gb400,5,none⟩=some (.bool a0_5):=(δl BK400.out 5).trans rfl;have hfz53_0:=δm BK400.out 0;have hfz53_1:=δm BK400.out 1;have hfz53_2:=δm BK400.out 2;have hfz53_3:=δm BK400.out 3;have hfz53_4:=δm BK400.out 4;have hfz53_5:=δm BK400.out 5)|((with_reducible refine δx (N:=5) rfl ?_);(try (refine gate_guard (by rfl) ?_;dsimp only));refine Kd.R_lit Kd.string _ 9 ?hg (N:=5) ?hd (xs:=([a0_0]:List ByteArray)) (inner:=[.string a0_0]) (ok:=fun _=>True) (okp:=fun _=>True) ?hr ?hp (fun _ hk=>hk) trivial (Below.refl _ _) (Nat.le_refl _) (by simp) ?_;(case hd=>rfl);(case hg=>rfl);(case hr=>(go_simp;done));(case hp=>exact (Reps.one (show Kd.M Kd.string _ _ _ a0_0 [.string a0_0] from rfl) (Reps.none _ _)));intro v402 w54 ho55 hb hg_ hnew_;clear hg_ hnew_;(rw [← Ny401.out] at ho55);have n0_:=ζa (Kd.R_lower ho55 (δs (by exact HB.out)));have n1_:=ζa (blk_below (g:=gb400) (o:=.cells #[.string a0_0,.string a0_1,.int .i64 a0_2,.int .i64 a0_3,.int .i64 a0_4,.bool a0_5] 42 (0,0)) (by exact BK400.out) hb);have n2_:=ζa (δr (by exact HB.out) hb);clear BK400;clear HB;have HO403:=n0_;have BK400:=n1_;have HB:=n2_;clear n0_ n1_ n2_;clear hb ho55;obtain ⟨Ao56,co56,eo56⟩:=Kd.R_slice HO403.out;subst eo56)|((with_reducible refine δv (f:=56) rfl ?_);refine goesL_ (some 6) rfl rfl Tryd.func56 (by kernel_rfl) rfl #[.slice Ao56 y401.length co56] rfl (by (try simp only [δd,δe,δf]);rfl) ?_;(with_reducible refine (impl_areNames.calls k _ _ y401 τ _ ?side1 ?side2 A2.out).mono ?_);(case side1=>repeat (exact (ζg HO403.out).2.2));(case side2=>exact (ζg HO403.out).2.1);rintro e w' ⟨rfl,⟨nd,rfl⟩⟩;refine ⟨_,rfl,?_⟩;have hcz57_0:w54.cell? ⟨gb400,0,none⟩=some (.string a0_0):=(δl BK400.out 0).trans rfl;have hcz57_1:w54.cell? ⟨gb400,1,none⟩=some (.string a0_1):=(δl BK400.out 1).trans rfl;have hcz57_2:w54.cell? ⟨gb400,2,none⟩=some (.int .i64 a0_2):=(δl BK400.out 2).trans rfl;have hcz57_3:w54.cell? ⟨gb400,3,none⟩=some (.int .i64 a0_3):=(δl BK400.out 3).trans rfl;have hcz57_4:w54.cell? ⟨gb400,4,none⟩=some (.int .i64 a0_4):=(δl BK400.out 4).trans rfl;have hcz57_5:w54.cell? ⟨gb400,5,none⟩=some (.bool a0_5):=(δl BK400.out 5).trans rfl;have hfz57_0:=δm BK400.out 0;have hfz57_1:=δm BK400.out 1;have hfz57_2:=δm BK400.out 2;have hfz57_3:=δm BK400.out 3;have hfz57_4:=δm BK400.out 4;have hfz57_5:=δm BK400.out 5)|((with_reducible refine δx (N:=10) rfl ?_);(try (refine gate_guard (by rfl) ?_;dsimp only));refine Kd.R_lit Kd.string _ 9 ?hg (N:=10) ?hd (xs:=([a0_1]:List ByteArray)) (inner:=[.string a0_1]) (ok:=fun _=>True) (okp:=fun _=>True) ?hr ?hp (fun _ hk=>hk) trivial (Below.refl _ _) (Nat.le_refl _) (by simp) ?_;(case hd=>rfl);(case hg=>rfl);(case hr=>(go_simp;done));(case hp=>exact (Reps.one (show Kd.M Kd.string _ _ _ a0_1 [.string a0_1] from rfl) (Reps.none _ _)));intro v406 w58 ho59 hb hg_ hnew_;clear hg_ hnew_;(rw [← Ny405.out] at ho59);have n0_:=ζa (Kd.R_elder' (by (with_reducible repeat (apply ζc));exact HO403.out) (Kd.R_base ho59) hb);have n1_:=ζa (Kd.R_lower (Kd.R_new' ho59 (Kd.R_lt (by (with_reducible repeat (apply ζc));exact HO403.out))) (δs (by repeat ((with_reducible first|exact HB.out|apply δi)))));have n2_:=ζa (blk_below (g:=gb400) (o:=.cells #[.string a0_0,.string a0_1,.int .i64 a0_2,.int .i64 a0_3,.int .i64 a0_4,.bool a0_5] 42 (0,0)) (by (with_reducible repeat (refine δn ?_ _));exact BK400.out) hb);have n3_:=ζa (δr (by repeat ((with_reducible first|exact HB.out|apply δi))) hb);clear HO403;clear BK400;clear HB;have HO403:=n0_;have HO407:=n1_;have BK400:=n2_;have HB:=n3_;clear n0_ n1_ n2_ n3_;clear hb ho59;obtain ⟨Ao60,co60,eo60⟩:=Kd.R_slice HO407.out;subst eo60)|(go_at_call 68;(with_reducible refine (impl_isPeople.calls k _ _ y405 φ _ ?side1 ?side2 A4.out).mono ?_);(case side1=>repeat (exact (ζg HO407.out).2.2));(case side2=>exact (ζg HO407.out).2.1);rintro e w' ⟨rfl,⟨nd,rfl⟩⟩))
   go_ret
   exact ⟨by rfl,by repeat ((with_reducible first|exact HB.out|apply δi))⟩
 ·
  replace c3:=Bool.eq_false_iff.mpr c3
  subst c3
  have H1:(some φ)=some r:=by rw [if_neg (show ¬ (φ=τ) by decide)] at H;exact H
  clear H
  have H:=H1
  clear H1
  obtain rfl:=Option.some.inj H
  go_enter Tryd.func132,Tryd.ntmps132
  go_wp2_with (first|((with_reducible refine δx (N:=1) rfl ?_);(try (refine gate_guard (by rfl) ?_;dsimp only));refine δz ?hg (N:=1) ?hd (cs:=#[.string a0_0,.string a0_1,.int .i64 a0_2,.int .i64 a0_3,.int .i64 a0_4,.bool a0_5]) (t:=42) ?hr ?_;(case hd=>rfl);(case hg=>rfl);(case hr=>(go_simp;done));intro gb400 hg w61 hbox hb;have n0_:=ζa (δr (by exact HB.out) hb);have n1_:=ζa (hbox);have n2_:=ζa ((by rw [hg];exact (δs (by exact HB.out)):w.heap.size≤gb400));have n3_:=ζa ((by rw [hg];exact (δs (by exact HB.out)):w.heap.size≤gb400));clear HB;have HB:=n0_;have BK400:=n1_;have GW400:=n2_;have GE400:=n3_;clear n0_ n1_ n2_ n3_;clear hb hbox hg;have hcz62_0:w61.cell? ⟨gb400,0,none⟩=some (.string a0_0):=(δl BK400.out 0).trans rfl;have hcz62_1:w61.cell? ⟨gb400,1,none⟩=some (.string a0_1):=(δl BK400.out 1).trans rfl;have hcz62_2:w61.cell? ⟨gb400,2,none⟩=some (.int .i64 a0_2):=(δl BK400.out 2).trans rfl;have hcz62_3:w61.cell? ⟨gb400,3,none⟩=some (.int .i64 a0_3):=(δl BK400.out 3).trans rfl;have hcz62_4:w61.cell? ⟨gb400,4,none⟩=some (.int .i64 a0_4):=(δl BK400.out 4).trans rfl;have hcz62_5:w61.cell? ⟨gb400,5,none⟩=some (.bool a0_5):=(δl BK400.out 5).trans rfl;have hfz62_0:=δm BK400.out 0;have hfz62_1:=δm BK400.out 1;have hfz62_2:=δm BK400.out 2;have hfz62_3:=δm BK400.out 3;have hfz62_4:=δm BK400.out 4;have hfz62_5:=δm BK400.out 5)|((with_reducible refine δx (N:=5) rfl ?_);(try (refine gate_guard (by rfl) ?_;dsimp only));refine Kd.R_lit Kd.string _ 9 ?hg (N:=5) ?hd (xs:=([a0_0]:List ByteArray)) (inner:=[.string a0_0]) (ok:=fun _=>True) (okp:=fun _=>True) ?hr ?hp (fun _ hk=>hk) trivial (Below.refl _ _) (Nat.le_refl _) (by simp) ?_;(case hd=>rfl);(case hg=>rfl);(case hr=>(go_simp;done));(case hp=>exact (Reps.one (show Kd.M Kd.string _ _ _ a0_0 [.string a0_0] from rfl) (Reps.none _ _)));intro v402 w63 ho64 hb hg_ hnew_;clear hg_ hnew_;(rw [← Ny401.out] at ho64);have n0_:=ζa (Kd.R_lower ho64 (δs (by exact HB.out)));have n1_:=ζa (blk_below (g:=gb400) (o:=.cells #[.string a0_0,.string a0_1,.int .i64 a0_2,.int .i64 a0_3,.int .i64 a0_4,.bool a0_5] 42 (0,0)) (by exact BK400.out) hb);have n2_:=ζa (δr (by exact HB.out) hb);clear BK400;clear HB;have HO403:=n0_;have BK400:=n1_;have HB:=n2_;clear n0_ n1_ n2_;clear hb ho64;obtain ⟨Ao65,co65,eo65⟩:=Kd.R_slice HO403.out;subst eo65)|((with_reducible refine δv (f:=56) rfl ?_);refine goesL_ (some 6) rfl rfl Tryd.func56 (by kernel_rfl) rfl #[.slice Ao65 y401.length co65] rfl (by (try simp only [δd,δe,δf]);rfl) ?_;(with_reducible refine (impl_areNames.calls k _ _ y401 φ _ ?side1 ?side2 A2.out).mono ?_);(case side1=>repeat (exact (ζg HO403.out).2.2));(case side2=>exact (ζg HO403.out).2.1);rintro e w' ⟨rfl,⟨nd,rfl⟩⟩;refine ⟨_,rfl,?_⟩))
  go_ret
  exact ⟨by rfl,by repeat ((with_reducible first|exact HB.out|apply δi))⟩


open Go.Proofs.YteghpdmlpefnfaaDoorW.PrintWords renaming gate_dst → δx, below_size → δs, below_alloc → δk, pw_below_drewN → δi, below_drew1 → δj, below_step → δr, below_set → δq
open Go.Proofs.YteghpdmlpefnfaaDoorW.PrintWords.Kd renaming R_alloc → ζd, R_drewN → ζc, R_drew → ζe

/-! ### impl_number: function 72 -/
def impl_number.l0:Nat→Int→List Int→Int→Option (ByteArray)
 | 0,_,_,_=>none
 | k+1,x0,x5,x6=>if x6 ≥ 0 then (if 0≤x6 then (if x6<(x5.length:Int) then (impl_number.l0 k (x0 / 256) (x5.set (x6:Int).toNat ((x0) % 256)) (ζm (x6 - 1))) else (none)) else (none)) else (some (strOfNums x5))
def impl_number.f (k:Nat) (a0:Int) (a1:Int):Option (ByteArray):=if 0≤a1 then (if (a1:Int).toNat≤281474976710656 then (impl_number.l0 k a0 (List.replicate (a1:Int).toNat 0) (ζm (a1 - 1))) else (none)) else (none)
set_option maxHeartbeats 8000000 in
set_option maxRecDepth 100000 in
theorem impl_number.calls (k:Nat) (a0:Int) (a1:Int) (r:ByteArray) (w:World) (h:impl_number.f k a0 a1=some r) :
  Calls Tryd.prog 72 #[.int .i64 a0,.int .i64 a1] w fun e w'=>e = .returned (.string r)∧Below w.heap.size w w':=by
 have HB:=ζa (Below.refl w.heap.size w)
 have H:(if 0≤a1 then (if (a1:Int).toNat≤281474976710656 then (impl_number.l0 k a0 (List.replicate (a1:Int).toNat 0) (ζm (a1 - 1))) else (none)) else (none))=some r:=h
 clear h
 by_cases c3:0≤a1
 ·
  rw [if_pos c3] at H
  have c3b0:=eq_true c3
  have c3b1:decide (0≤a1)=τ:=decide_eq_true c3
  clear c3
  by_cases c4:(a1:Int).toNat≤281474976710656
  ·
   rw [if_pos c4] at H
   have c4b0:=eq_true c4
   have c4b1:decide ((a1:Int).toNat≤281474976710656)=τ:=decide_eq_true c4
   clear c4
   obtain ⟨y149,hy149⟩ : ∃ y_:List Int,y_=(List.replicate (a1:Int).toNat 0):=⟨_,rfl⟩
   replace H:(impl_number.l0 k a0 y149 (ζm (a1 - 1)))=some r:=by first|(rw [hy149];with_reducible exact H)|(have H2_:=(Option.bind_some _ _).symm.trans H;rw [hy149];with_reducible exact H2_)|(have H2_:=(Option.bind_some _ _).symm.trans H;with_reducible exact H2_)|with_reducible exact H|(rw [hy149];exact H)|exact H
   have Ny149:=ζa hy149
   clear hy149
   have H':=ζa H
   clear H
   go_enter Tryd.func72,Tryd.ntmps72
   go_wp2_with (first|((with_reducible refine δx (N:=8) rfl ?_);refine Kd.R_make (Kd.int .u8) _ 5 rfl (N:=8) rfl 25 _ _ rfl a1 rfl rfl Tryd.underlying25 (.int .u8 0) 1 info5 rfl (by decide) (by omega) 0 (ok:=fun _=>True) (okp:=fun _=>True) rfl (fun _ hk=>hk) trivial (of_decide_eq_true (by first|(with_reducible assumption)|assumption)) (Nat.le_trans (Nat.mul_le_mul_right _ (of_decide_eq_true (by first|(with_reducible assumption)|assumption):a1.toNat≤281474976710656)) (by omega)) (Below.refl _ _) (Nat.le_refl _) ?_;intro v150 w5 ho6 hb hg_ hnew_;clear hg_ hnew_;(first|rw [← Ny149.out] at ho6|(simp only [Int.reduceToNat] at ho6;rw [← Ny149.out] at ho6));have n0_:=ζa (Kd.R_lower ho6 (δs (by repeat (first|(with_reducible first|exact HB.out|apply δk|apply δi|apply δj)|exact HB.out))));have n1_:=ζa (δr (by repeat (first|(with_reducible first|exact HB.out|apply δk|apply δi|apply δj)|exact HB.out)) hb);clear HB;have HO151:=n0_;have HB:=n1_;clear n0_ n1_;clear hb ho6))
   go_loopg [0,6] k (fun kq v0 v6 w' => ∃ (x0_1:Int) (x5_1:List Int) (x6_1:Int),v0 = .int .i64 x0_1∧v6 = .int .i64 x6_1∧Aside0 (impl_number.l0 kq x0_1 x5_1 x6_1=some r)∧Aside0 (kq≤k)∧Aside0 (Kd.R (Kd.int .u8) 5 w' w.heap.size (fun _=>True) v150 x5_1)∧Aside0 (Below w.heap.size w w'))
   case atStart=>exact ⟨(a0),(y149),(ζm (a1 - 1)),(by first|rfl|(simp;done)|(simp [*];done)),(by first|rfl|(simp;done)|(simp [*];done)),H',⟨Nat.le_refl _⟩,⟨by (with_reducible repeat (first|apply ζd|apply ζc|apply ζe));exact HO151.out⟩,⟨by repeat (first|(with_reducible first|exact HB.out|apply δk|apply δi|apply δj)|exact HB.out)⟩⟩
   case round =>
    clear H'
    try clear p2
    try clear c3
    try clear c3b0
    try clear c3b1
    try clear c4
    try clear c4b0
    try clear c4b1
    try clear p6
    obtain ⟨x0_1,x5_1,x6_1,rfl,rfl,HA,HK1,HO_5,HB⟩:=hrel
    cases gk with
    | zero=>exact absurd HA.out (by simp [impl_number.l0])
    | succ k1 =>
     have H:=HA.out
     clear HA
     simp only [impl_number.l0] at H
     by_cases c7:x6_1 ≥ 0
     ·
      rw [if_pos c7] at H
      have c7b0:decide (0≤x6_1)=τ:=decide_eq_true c7
      clear c7
      by_cases c8:0≤x6_1
      ·
       rw [if_pos c8] at H
       have c8b0:decide (0≤x6_1)=τ:=decide_eq_true c8
       clear c8
       by_cases c9:x6_1<(x5_1.length:Int)
       ·
        rw [if_pos c9] at H
        have c9b0:decide (x6_1<(x5_1.length:Int))=τ:=decide_eq_true c9
        clear c9
        obtain ⟨y152,hy152⟩ : ∃ y_:List Int,y_=(x5_1.set (x6_1:Int).toNat ((x0_1) % 256)):=⟨_,rfl⟩
        replace H:(impl_number.l0 k1 (x0_1 / 256) y152 (ζm (x6_1 - 1)))=some r:=by first|(rw [hy152];with_reducible exact H)|(have H2_:=(Option.bind_some _ _).symm.trans H;rw [hy152];with_reducible exact H2_)|(have H2_:=(Option.bind_some _ _).symm.trans H;with_reducible exact H2_)|with_reducible exact H|(rw [hy152];exact H)|exact H
        have Ny152:=ζa hy152
        clear hy152
        have H':=ζa H
        clear H
        have p10:0≤(x6_1:Int):=of_decide_eq_true (by first|(with_reducible assumption)|assumption)
        have q10:(x6_1:Int)<((x5_1.length:Int):Int):=of_decide_eq_true (by first|(with_reducible assumption)|assumption)
        obtain ⟨go10,co10,eo10,gb10,gl10,cl10,HG10⟩:=Kd.R_form HO_5.out (by omega)
        (first|cases eo10|(injection eo10 with ea_ en_ ec_;(first|subst ea_|(injection ea_ with ea_;subst ea_));subst ec_;clear en_))
        have GB10:=ζa gb10
        have GG10:=ζa HG10
        clear gb10 gl10 HG10
        obtain ⟨hx10_0,hf10_0⟩:=Kd.R_celln 0 HO_5.out (x6_1:Int) p10 q10
        replace p10:=eq_true p10
        replace q10:=eq_true q10
        have HP11:=Kd.R_putg HO_5.out (x6_1:Int) ((x0_1) % 256)
        go_wp2_with (first|((with_reducible refine gate_store (t:=5) (p:=19) rfl ?_);refine store_event (t:=5) (p:=19) (v:=?vo_w12) (w1:=(wr.setCell ⟨go10,(x6_1:Int).toNat,none⟩ (.int .u8 ((x0_1) % 256)))) ?hg ?ho ?hn ?hr ?_;(case ho=>rfl);(case hg=>rfl);(case hn=>rfl);(case hr=>first|(go_simp;done)|(go_simp;rfl));intro w12 hw;have hg:wr.grownBy w12 (some go10):=(by rw [hw];exact HP11.2);have hp_:Kd.R (Kd.int .u8) 5 w12 w.heap.size (fun _=>True) (.slice (some ⟨go10,0,none⟩) x5_1.length co10) y152:=(by rw [hw,Ny152.out];exact HP11.1);clear HP11;have n0_:=ζa (hp_);have n1_:=ζa ((by rw [hw];exact δq (HB.out) GB10.out:Below w.heap.size w w12));clear HO_5;clear HB;have HO_5:=n0_;have HB:=n1_;clear n0_ n1_;clear hg hw hp_))
        go_roundg k1
        case measure=>have:=HK1.out;omega
        case rel=>exact ⟨(x0_1 / 256),(y152),(ζm (x6_1 - 1)),(by first|rfl|(simp;done)|(simp [*];done)),(by first|rfl|(simp;done)|(simp [*];done)),H',⟨by have:=HK1.out;omega⟩,⟨by (with_reducible repeat (first|apply ζd|apply ζc|apply ζe));exact HO_5.out⟩,⟨by repeat (first|(with_reducible first|exact HB.out|apply δk|apply δi|apply δj)|exact HB.out)⟩⟩
       ·
        rw [if_neg c9] at H
        exact absurd H (by simp)
      ·
       rw [if_neg c8] at H
       exact absurd H (by simp)
     ·
      rw [if_neg c7] at H
      have c7b0:decide (0≤x6_1)=φ:=decide_eq_false c7
      clear c7
      obtain rfl:=Option.some.inj H
      have hcv13:=own_string (P:=Tryd.prog) Tryd.underlying25 Tryd.underlying5 Tryd.underlying9 (Kd.own_of_R HO_5.out)
      go_wp2
      go_ret
      exact ⟨by first|rfl|(simp [errW_none,errW_some] <;> rfl)|(simp [*,errW_none,errW_some] <;> rfl),by repeat (first|(with_reducible first|exact HB.out|apply δk|apply δi|apply δj)|exact HB.out)⟩
  ·
   rw [if_neg c4] at H
   exact absurd H (by simp)
 ·
  rw [if_neg c3] at H
  exact absurd H (by simp)


open Go.Proofs.YteghpdmlpefnfaaDoorW.PrintWords renaming gate_callee → δv, below_step → δr, below_alloc → δk, pw_below_drewN → δi, below_drew1 → δj

/-! ### impl_fields: function 69 -/
def impl_fields.l0:Nat→ByteArray→List ByteArray→Int→Int→Option (ByteArray)
 | 0,_,_,_,_=>none
 | k+1,x3,x9,x10,x11=>if x11<x10 then (if 0≤x11 then (if x11<(x9.length:Int) then ((impl_number.f k ((rdOf ByteArray.empty x9 x11).size:Int) 2).bind fun t155=>(if t155.size+(rdOf ByteArray.empty x9 x11).size≤9223372036854775807 then (if x3.size+(t155 ++ (rdOf ByteArray.empty x9 x11)).size≤9223372036854775807 then (impl_fields.l0 k (x3 ++ (t155 ++ (rdOf ByteArray.empty x9 x11))) x9 x10 (ζm (x11+1))) else (none)) else (none))) else (none)) else (none)) else (some x3)
def impl_fields.f (k:Nat) (l0:List ByteArray):Option (ByteArray):=(impl_number.f k (l0.length:Int) 1).bind fun t153=>(impl_fields.l0 k t153 l0 (l0.length:Int) 0)
set_option maxHeartbeats 8000000 in
set_option maxRecDepth 100000 in
theorem impl_fields.calls (k:Nat) (A0:Option Addr) (c0:Nat) (l0:List ByteArray) (r:ByteArray) (w:World) (hr0:Kd.C Kd.string w A0 l0.length l0) (hc0:l0.length≤c0) (h:impl_fields.f k l0=some r) :
  Calls Tryd.prog 69 #[.slice A0 l0.length c0] w fun e w'=>e = .returned (.string r)∧Below w.heap.size w w':=by
 have HR0:=ζa hr0
 have HC0:=ζa hc0
 clear hr0 hc0
 have HB:=ζa (Below.refl w.heap.size w)
 have H:((impl_number.f k (l0.length:Int) 1).bind fun t153=>(impl_fields.l0 k t153 l0 (l0.length:Int) 0))=some r:=h
 clear h
 replace H:=Option.bind_eq_some_iff.mp H
 obtain ⟨t153,A20,H⟩:=H
 replace H:(impl_fields.l0 k t153 l0 (l0.length:Int) 0)=some r:=H
 have A2:=ζa A20
 clear A20
 have H':=ζa H
 clear H
 go_enter Tryd.func69,Tryd.ntmps69
 go_wp2_with (first|((with_reducible refine δv (f:=72) rfl ?_);refine goesL_ (some 8) rfl rfl Tryd.func72 (by kernel_rfl) rfl #[.int .i64 (l0.length:Int),.int .i64 1] rfl (by (try simp only [δd,δe,δf]);first|done|rfl|(simp only [δg,δh];rfl)) ?_;(with_reducible refine (impl_number.calls k (l0.length:Int) 1 t153 _ A2.out).mono ?_);rintro e w3 ⟨rfl,hb⟩;refine ⟨_,rfl,?_⟩;have n0_:=ζa (δr (by repeat (first|(with_reducible first|exact HB.out|apply δk|apply δi|apply δj)|exact HB.out)) hb);clear HB;have HB:=n0_;clear n0_;(try clear hb);(try clear hb2);(try clear hk);(try clear hi)))
 go_loopg [3,11] k (fun kq v3 v11 w' => ∃ (x3_1:ByteArray) (x11_1:Int),v3 = .string x3_1∧v11 = .int .i64 x11_1∧Aside0 (impl_fields.l0 kq x3_1 l0 (l0.length:Int) x11_1=some r)∧Aside0 (kq≤k)∧Aside0 (Below w.heap.size w w'))
 case atStart=>exact ⟨(t153),(0),(by first|rfl|(simp;done)|(simp [*];done)),(by first|rfl|(simp;done)|(simp [*];done)),H',⟨Nat.le_refl _⟩,⟨by repeat (first|(with_reducible first|exact HB.out|apply δk|apply δi|apply δj)|exact HB.out)⟩⟩
 case round =>
  clear H'
  try clear p2
  obtain ⟨x3_1,x11_1,rfl,rfl,HA,HK1,HB⟩:=hrel
  cases gk with
  | zero=>exact absurd HA.out (by simp [impl_fields.l0])
  | succ k1 =>
   have H:=HA.out
   clear HA
   simp only [impl_fields.l0] at H
   by_cases c4:x11_1<(l0.length:Int)
   ·
    rw [if_pos c4] at H
    have c4b0:decide (x11_1<(l0.length:Int))=τ:=decide_eq_true c4
    clear c4
    by_cases c5:0≤x11_1
    ·
     rw [if_pos c5] at H
     have c5b0:decide (0≤x11_1)=τ:=decide_eq_true c5
     clear c5
     by_cases c6:x11_1<(l0.length:Int)
     ·
      rw [if_pos c6] at H
      have c6b0:decide (x11_1<(l0.length:Int))=τ:=decide_eq_true c6
      clear c6
      replace H:=Option.bind_eq_some_iff.mp H
      obtain ⟨t155,A70,H⟩:=H
      replace H:(if t155.size+(rdOf ByteArray.empty l0 x11_1).size≤9223372036854775807 then (if x3_1.size+(t155 ++ (rdOf ByteArray.empty l0 x11_1)).size≤9223372036854775807 then (impl_fields.l0 k1 (x3_1 ++ (t155 ++ (rdOf ByteArray.empty l0 x11_1))) l0 (l0.length:Int) (ζm (x11_1+1))) else (none)) else (none))=some r:=H
      have A7:=ζa A70
      clear A70
      by_cases c8:t155.size+(rdOf ByteArray.empty l0 x11_1).size≤9223372036854775807
      ·
       rw [if_pos c8] at H
       have c8b0:=eq_true c8
       have c8b1:decide (t155.size+(rdOf ByteArray.empty l0 x11_1).size≤9223372036854775807)=τ:=decide_eq_true c8
       try have c8b2:(9223372036854775807<t155.size+(rdOf ByteArray.empty l0 x11_1).size)=False:=eq_false (Nat.not_lt.2 c8)
       by_cases c9:x3_1.size+(t155 ++ (rdOf ByteArray.empty l0 x11_1)).size≤9223372036854775807
       ·
        rw [if_pos c9] at H
        have c9b0:=eq_true c9
        have c9b1:decide (x3_1.size+(t155 ++ (rdOf ByteArray.empty l0 x11_1)).size≤9223372036854775807)=τ:=decide_eq_true c9
        try have c9b2:(9223372036854775807<x3_1.size+(t155 ++ (rdOf ByteArray.empty l0 x11_1)).size)=False:=eq_false (Nat.not_lt.2 c9)
        have H':=ζa H
        clear H
        have p154:0≤(x11_1:Int):=of_decide_eq_true (by first|(with_reducible assumption)|assumption)
        have q154:x11_1<(l0.length:Int):=of_decide_eq_true (by first|(with_reducible assumption)|assumption)
        obtain ⟨ad154,e154,hx154_0⟩:=Kd.at_string HR0.out x11_1 p154 q154
        cases e154
        replace hx154_0:=(HB.out.cell (World.block_lt_of_cell? w _ hx154_0)).trans hx154_0
        replace p154:=eq_true p154
        replace q154:=eq_true q154
        go_wp2_with (first|((with_reducible refine δv (f:=72) rfl ?_);refine goesL_ (some 18) rfl rfl Tryd.func72 (by kernel_rfl) rfl #[.int .i64 ((rdOf ByteArray.empty l0 x11_1).size:Int),.int .i64 2] rfl (by (try simp only [δd,δe,δf]);first|done|rfl|(simp only [δg,δh];rfl)) ?_;(with_reducible refine (impl_number.calls k1 ((rdOf ByteArray.empty l0 x11_1).size:Int) 2 t155 _ A7.out).mono ?_);rintro e w10 ⟨rfl,hb⟩;refine ⟨_,rfl,?_⟩;have n0_:=ζa (δr (by repeat (first|(with_reducible first|exact HB.out|apply δk|apply δi|apply δj)|exact HB.out)) hb);clear HB;have HB:=n0_;clear n0_;(try clear hb);(try clear hb2);(try clear hk);(try clear hi)))
        go_roundg k1
        case measure=>have:=HK1.out;omega
        case rel=>exact ⟨(x3_1 ++ (t155 ++ (rdOf ByteArray.empty l0 x11_1))),(ζm (x11_1+1)),(by first|rfl|(simp;done)|(simp [*];done)),(by first|rfl|(simp;done)|(simp [*];done)),H',⟨by have:=HK1.out;omega⟩,⟨by repeat (first|(with_reducible first|exact HB.out|apply δk|apply δi|apply δj)|exact HB.out)⟩⟩
       ·
        rw [if_neg c9] at H
        exact absurd H (by simp)
      ·
       rw [if_neg c8] at H
       exact absurd H (by simp)
     ·
      rw [if_neg c6] at H
      exact absurd H (by simp)
    ·
     rw [if_neg c5] at H
     exact absurd H (by simp)
   ·
    rw [if_neg c4] at H
    have c4b0:decide (x11_1<(l0.length:Int))=φ:=decide_eq_false c4
    clear c4
    obtain rfl:=Option.some.inj H
    go_wp2
    go_ret
    exact ⟨by first|rfl|(simp [errW_none,errW_some] <;> rfl)|(simp [*,errW_none,errW_some] <;> rfl),by repeat (first|(with_reducible first|exact HB.out|apply δk|apply δi|apply δj)|exact HB.out)⟩


open Go.Proofs.YteghpdmlpefnfaaDoorW.PrintWords renaming gate_dst → δx, box_event → δz, below_step → δr, below_size → δs, blk_cell → δl, blk_frozen → δm, blk_drew → δp, below_drew1 → δj
open Go.Proofs.YteghpdmlpefnfaaDoorW.PrintWords.Kd renaming R_reads' → ζg, R_below → ζh

/-! ### impl_Order_value: function 133 -/
def impl_Order_value.j0:Nat→ByteArray→ByteArray→ByteArray→Int→Int→Int→Bool→Option (ByteArray)
 | 0,_,_,_,_,_,_,_=>none
 | k+1,x3,x413000,x413001,x413002,x413003,x413004,x413005=>(impl_amountText.f x413002).bind fun t413=>((impl_amountText.f x413003).bind fun t414=>((impl_amountText.f x413004).bind fun t415=>((impl_fields.f k (([x413001,t413,t414,t415,x3]:List ByteArray))).bind fun t419=>(some t419))))
def impl_Order_value.f (k:Nat) (a0_0:ByteArray) (a0_1:ByteArray) (a0_2:Int) (a0_3:Int) (a0_4:Int) (a0_5:Bool):Option (ByteArray):=if a0_5=τ then (impl_Order_value.j0 k (⟨#[111,112,101,110]⟩:ByteArray) a0_0 a0_1 a0_2 a0_3 a0_4 a0_5) else (impl_Order_value.j0 k (⟨#[99,108,111,115,101,100]⟩:ByteArray) a0_0 a0_1 a0_2 a0_3 a0_4 a0_5)
def impl_Order_value.T4:Bool × List (List Nat × List Nat):=(τ,[([],[]),([0],[0]),([],[]),([2],[2]),([3],[3]),([],[]),([5],[5]),([6,4],[6]),([],[]),([8],[8]),([9,7],[9]),([],[]),([1,4,7,10,11],[1,4,7,10,11]),([12,10],[12]),([13,13,0,1,2,3,4,5,6,7,8,9,10,11,12,13],[13])])
def impl_Order_value.B4:List Nat:=[0,1,0,4,12,0,32,124,0,256,1020,0,4095,8191,16383]
theorem impl_Order_value.tab4:rtab .any (opsOf Tryd.f133 4)=impl_Order_value.T4:=by kernel_rfl
theorem impl_Order_value.bits4:waitsOk impl_Order_value.T4.2 impl_Order_value.B4=τ:=by kernel_rfl
set_option maxHeartbeats 8000000 in
set_option maxRecDepth 100000 in
theorem impl_Order_value.calls (k:Nat) (a0_0:ByteArray) (a0_1:ByteArray) (a0_2:Int) (a0_3:Int) (a0_4:Int) (a0_5:Bool) (r:ByteArray) (w:World) (hT0:TabsOK w) (h:impl_Order_value.f k a0_0 a0_1 a0_2 a0_3 a0_4 a0_5=some r) :
  Calls Tryd.prog 133 #[.agg #[.string a0_0,.string a0_1,.int .i64 a0_2,.int .i64 a0_3,.int .i64 a0_4,.bool a0_5]] w fun e w'=>e = .returned (.string r)∧Below w.heap.size w w':=by
 have HT0:=ζa hT0
 clear hT0
 have hu42:=Tryd.underlying42
 have HB:=ζa (Below.refl w.heap.size w)
 have H:(if a0_5=τ then (impl_Order_value.j0 k (⟨#[111,112,101,110]⟩:ByteArray) a0_0 a0_1 a0_2 a0_3 a0_4 a0_5) else (impl_Order_value.j0 k (⟨#[99,108,111,115,101,100]⟩:ByteArray) a0_0 a0_1 a0_2 a0_3 a0_4 a0_5))=some r:=h
 clear h
 have HC2:=ζa H
 clear H
 go_enter Tryd.func133,Tryd.ntmps133
 go_upto_if 5 with (((with_reducible refine δx (N:=1) rfl ?_);refine δz ?hg (N:=1) ?hd (cs:=#[.string a0_0,.string a0_1,.int .i64 a0_2,.int .i64 a0_3,.int .i64 a0_4,.bool a0_5]) (t:=42) ?hr ?_;(case hd=>rfl);(case hg=>rfl);(case hr=>(go_simp;done));intro gb412 hg w3 hbox hb;have n0_:=ζa (δr (by exact HB.out) hb);have n1_:=ζa (hbox);have n2_:=ζa ((by rw [hg];exact (δs (by exact HB.out)):w.heap.size≤gb412));have n3_:=ζa ((by rw [hg];exact (δs (by exact HB.out)):w.heap.size≤gb412));clear HB;have HB:=n0_;have BK412:=n1_;have GW412:=n2_;have GE412:=n3_;clear n0_ n1_ n2_ n3_;clear hb hbox hg;have hcz4_0:w3.cell? ⟨gb412,0,none⟩=some (.string a0_0):=(δl BK412.out 0).trans rfl;have hcz4_1:w3.cell? ⟨gb412,1,none⟩=some (.string a0_1):=(δl BK412.out 1).trans rfl;have hcz4_2:w3.cell? ⟨gb412,2,none⟩=some (.int .i64 a0_2):=(δl BK412.out 2).trans rfl;have hcz4_3:w3.cell? ⟨gb412,3,none⟩=some (.int .i64 a0_3):=(δl BK412.out 3).trans rfl;have hcz4_4:w3.cell? ⟨gb412,4,none⟩=some (.int .i64 a0_4):=(δl BK412.out 4).trans rfl;have hcz4_5:w3.cell? ⟨gb412,5,none⟩=some (.bool a0_5):=(δl BK412.out 5).trans rfl;have hfz4_0:=δm BK412.out 0;have hfz4_1:=δm BK412.out 1;have hfz4_2:=δm BK412.out 2;have hfz4_3:=δm BK412.out 3;have hfz4_4:=δm BK412.out 4;have hfz4_5:=δm BK412.out 5))
 (try simp only [ζl,δa,δb,δc])
 go_cut [3] (fun v3 wc => ∃ (kq:Nat) (x3_1:ByteArray),v3 = .string x3_1∧Aside0 (impl_Order_value.j0 kq x3_1 a0_0 a0_1 a0_2 a0_3 a0_4 a0_5=some r)∧Aside0 (kq≤k)∧Aside0 (wc.heap[gb412]? = some (.cells #[.string a0_0,.string a0_1,.int .i64 a0_2,.int .i64 a0_3,.int .i64 a0_4,.bool a0_5] 42 (0,0)))∧Aside0 (Below w.heap.size w wc))
 case first =>
  have H:=HC2.out
  clear HC2
  by_cases c5:a0_5=τ
  ·
   subst c5
   have H1:(impl_Order_value.j0 k (⟨#[111,112,101,110]⟩:ByteArray) a0_0 a0_1 a0_2 a0_3 a0_4 τ)=some r:=by rw [if_pos rfl] at H;exact H
   clear H
   have H:=H1
   clear H1
   have H':=ζa H
   clear H
   go_wp2
   go_meet
   case rel=>exact ⟨_,((⟨#[111,112,101,110]⟩:ByteArray)),(by rfl),H',⟨by omega⟩,⟨by exact BK412.out⟩,⟨by repeat ((with_reducible exact HB.out))⟩⟩
  ·
   replace c5:=Bool.eq_false_iff.mpr c5
   subst c5
   have H1:(impl_Order_value.j0 k (⟨#[99,108,111,115,101,100]⟩:ByteArray) a0_0 a0_1 a0_2 a0_3 a0_4 φ)=some r:=by rw [if_neg (show ¬ (φ=τ) by decide)] at H;exact H
   clear H
   have H:=H1
   clear H1
   have H':=ζa H
   clear H
   go_wp2
   go_meet
   case rel=>exact ⟨_,((⟨#[99,108,111,115,101,100]⟩:ByteArray)),(by rfl),H',⟨by omega⟩,⟨by exact BK412.out⟩,⟨by repeat ((with_reducible exact HB.out))⟩⟩
 case rest =>
  clear HC2
  try clear c1
  try clear p2
  try clear c5
  try clear hcz4_0
  try clear hcz4_1
  try clear hcz4_2
  try clear hcz4_3
  try clear hcz4_4
  try clear hcz4_5
  try clear hfz4_0
  try clear hfz4_1
  try clear hfz4_2
  try clear hfz4_3
  try clear hfz4_4
  try clear hfz4_5
  obtain ⟨kq,x3_1,rfl,HA,HJ1,BK412,HB⟩:=hcut
  cases kq with
  | zero=>exact absurd HA.out (by simp [impl_Order_value.j0])
  | succ kj1 =>
   have H:=HA.out
   clear HA
   simp only [impl_Order_value.j0] at H
   replace H:=Option.bind_eq_some_iff.mp H
   obtain ⟨t413,A60,H⟩:=H
   replace H:((impl_amountText.f a0_3).bind fun t414=>((impl_amountText.f a0_4).bind fun t415=>((impl_fields.f kj1 (([a0_1,t413,t414,t415,x3_1]:List ByteArray))).bind fun t419=>(some t419))))=some r:=H
   have A6:=ζa A60
   clear A60
   replace H:=Option.bind_eq_some_iff.mp H
   obtain ⟨t414,A70,H⟩:=H
   replace H:((impl_amountText.f a0_4).bind fun t415=>((impl_fields.f kj1 (([a0_1,t413,t414,t415,x3_1]:List ByteArray))).bind fun t419=>(some t419)))=some r:=H
   have A7:=ζa A70
   clear A70
   replace H:=Option.bind_eq_some_iff.mp H
   obtain ⟨t415,A80,H⟩:=H
   replace H:((impl_fields.f kj1 (([a0_1,t413,t414,t415,x3_1]:List ByteArray))).bind fun t419=>(some t419))=some r:=H
   have A8:=ζa A80
   clear A80
   obtain ⟨y416,hy416⟩ : ∃ y_:List ByteArray,y_=(([a0_1,t413,t414,t415,x3_1]:List ByteArray)):=⟨_,rfl⟩
   replace H:((impl_fields.f kj1 y416).bind fun t419=>(some t419))=some r:=by (rw [hy416];with_reducible exact H)
   have Ny416:=ζa hy416
   clear hy416
   replace H:=Option.bind_eq_some_iff.mp H
   obtain ⟨t419,A90,H⟩:=H
   replace H:(some t419)=some r:=H
   have A9:=ζa A90
   clear A90
   obtain rfl:=Option.some.inj H
   try go_wp2
   have n0_:=ζa (δp BK412.out)
   have n1_:=ζa (δj HB.out)
   clear BK412
   clear HB
   have BK412:=n0_
   have HB:=n1_
   clear n0_ n1_
   refine start_ (n:=15) (S:=fun w'=>w'.cell? ⟨gb412,0,none⟩=some (.string a0_0)∧w'.cell? ⟨gb412,1,none⟩=some (.string a0_1)∧w'.cell? ⟨gb412,2,none⟩=some (.int .i64 a0_2)∧w'.cell? ⟨gb412,3,none⟩=some (.int .i64 a0_3)∧w'.cell? ⟨gb412,4,none⟩=some (.int .i64 a0_4)∧w'.cell? ⟨gb412,5,none⟩=some (.bool a0_5)) (ds:=[]) #[φ,φ,φ,φ,φ,φ,φ,φ,φ,φ,φ,φ,φ,φ,φ] (by kernel_rfl) rfl rfl ⟨(δl BK412.out 0).trans rfl,(δl BK412.out 1).trans rfl,(δl BK412.out 2).trans rfl,(δl BK412.out 3).trans rfl,(δl BK412.out 4).trans rfl,(δl BK412.out 5).trans rfl⟩ (fun hHeld => ?_);refine with_tabW impl_Order_value.tab4 impl_Order_value.bits4 (fun HT_ HW_ => ?_)
   generalize wc.drew=w10 at BK412 HB hHeld ⊢
   refine ζk (i:=0) (N:=some 6) (v:=?_) (a':=?_) #[τ,φ,φ,φ,φ,φ,φ,φ,φ,φ,φ,φ,φ,φ,φ] rfl rfl (ζj HT_.out (by kernel_rfl)) (fun _ _ _ h=>h) (Or.inl ⟨by rfl,?_⟩) ?_ ?_
   rotate_left
   · intro w';go_simp;with_reducible rfl
   rotate_left
   · simp only [ζl,δa,δb,δc,i64_w,i32_w];rfl
   refine ζk (i:=2) (N:=some 8) (v:=?_) (a':=?_) #[τ,φ,τ,φ,φ,φ,φ,φ,φ,φ,φ,φ,φ,φ,φ] rfl rfl (ζj HT_.out (by kernel_rfl)) (fun _ _ _ h=>h) (Or.inl ⟨by rfl,?_⟩) ?_ ?_
   rotate_left
   · intro w';go_simp;with_reducible rfl
   rotate_left
   · simp only [ζl,δa,δb,δc,i64_w,i32_w];rfl
   refine ζk (i:=5) (N:=some 11) (v:=?_) (a':=?_) #[τ,φ,τ,φ,φ,τ,φ,φ,φ,φ,φ,φ,φ,φ,φ] rfl rfl (ζj HT_.out (by kernel_rfl)) (fun _ _ _ h=>h) (Or.inl ⟨by rfl,?_⟩) ?_ ?_
   rotate_left
   · intro w';go_simp;with_reducible rfl
   rotate_left
   · simp only [ζl,δa,δb,δc,i64_w,i32_w];rfl
   refine ζk (i:=8) (N:=some 14) (v:=?_) (a':=?_) #[τ,φ,τ,φ,φ,τ,φ,φ,τ,φ,φ,φ,φ,φ,φ] rfl rfl (ζj HT_.out (by kernel_rfl)) (fun _ _ _ h=>h) (Or.inl ⟨by rfl,?_⟩) ?_ ?_
   rotate_left
   · intro w';go_simp;with_reducible rfl
   rotate_left
   · simp only [ζl,δa,δb,δc,i64_w,i32_w];rfl
   refine ζk (i:=11) (N:=some 17) (v:=?_) (a':=?_) #[τ,φ,τ,φ,φ,τ,φ,φ,τ,φ,φ,τ,φ,φ,φ] rfl rfl (ζj HT_.out (by kernel_rfl)) (fun _ _ _ h=>h) (Or.inl ⟨by rfl,?_⟩) ?_ ?_
   rotate_left
   · intro w';go_simp;with_reducible rfl
   rotate_left
   · simp only [ζl,δa,δb,δc,i64_w,i32_w];rfl
   refine take_ (i:=1) (N:=some 7) (v:=?_) (a':=?_) #[τ,τ,τ,φ,φ,τ,φ,φ,τ,φ,φ,τ,φ,φ,φ] rfl rfl (take_ofW HT_.out HW_.out (by kernel_rfl)) (fun _ _ _ h=>h) (Or.inl ⟨by rfl,?_⟩) hHeld ?_ ?_
   rotate_left
   · rintro w' ⟨s0,s1,s2,s3,s4,s5⟩;go_simp;with_reducible rfl
   rotate_left
   · simp only [ζl,δa,δb,δc,i64_w,i32_w];rfl
   refine take_ (i:=3) (N:=some 9) (v:=?_) (a':=?_) #[τ,τ,τ,τ,φ,τ,φ,φ,τ,φ,φ,τ,φ,φ,φ] rfl rfl (take_ofW HT_.out HW_.out (by kernel_rfl)) (fun _ _ _ h=>h) (Or.inl ⟨by rfl,?_⟩) hHeld ?_ ?_
   rotate_left
   · rintro w' ⟨s0,s1,s2,s3,s4,s5⟩;go_simp;with_reducible rfl
   rotate_left
   · simp only [ζl,δa,δb,δc,i64_w,i32_w];rfl
   refine take_ (i:=6) (N:=some 12) (v:=?_) (a':=?_) #[τ,τ,τ,τ,φ,τ,τ,φ,τ,φ,φ,τ,φ,φ,φ] rfl rfl (take_ofW HT_.out HW_.out (by kernel_rfl)) (fun _ _ _ h=>h) (Or.inl ⟨by rfl,?_⟩) hHeld ?_ ?_
   rotate_left
   · rintro w' ⟨s0,s1,s2,s3,s4,s5⟩;go_simp;with_reducible rfl
   rotate_left
   · simp only [ζl,δa,δb,δc,i64_w,i32_w];rfl
   refine take_ (i:=9) (N:=some 15) (v:=?_) (a':=?_) #[τ,τ,τ,τ,φ,τ,τ,φ,τ,τ,φ,τ,φ,φ,φ] rfl rfl (take_ofW HT_.out HW_.out (by kernel_rfl)) (fun _ _ _ h=>h) (Or.inl ⟨by rfl,?_⟩) hHeld ?_ ?_
   rotate_left
   · rintro w' ⟨s0,s1,s2,s3,s4,s5⟩;go_simp;with_reducible rfl
   rotate_left
   · simp only [ζl,δa,δb,δc,i64_w,i32_w];rfl
   refine one_ (i:=4) (N:=some 10) #[τ,τ,τ,τ,τ,τ,τ,φ,τ,τ,φ,τ,φ,φ,φ] rfl rfl (one_of HT_.out (by kernel_rfl)) (by decide) (fun K hK => ?_)
   refine goes_ Tryd.func70 (by kernel_rfl) rfl #[.int .i64 a0_2] (by rfl) rfl rfl (by (try simp only [δd,δe,δf]);rfl) ?_
   with_reducible refine (impl_amountText.calls a0_2 t413 _ (HT0.out.below (by exact HB.out)) A6.out).mono ?_
   rintro e w11 ⟨rfl,hb⟩
   refine ⟨_,rfl,?_⟩
   have n0_:=ζa (blk_below (g:=gb412) (o:=.cells #[.string a0_0,.string a0_1,.int .i64 a0_2,.int .i64 a0_3,.int .i64 a0_4,.bool a0_5] 42 (0,0)) (by exact BK412.out) hb)
   have n1_:=ζa (δr (by exact HB.out) hb)
   clear BK412
   clear HB
   have BK412:=n0_
   have HB:=n1_
   clear n0_ n1_
   (try clear hb)
   (try clear hb2)
   (try clear hk)
   (try clear hi)
   refine hK.out _ _ ⟨(δl BK412.out 0).trans rfl,(δl BK412.out 1).trans rfl,(δl BK412.out 2).trans rfl,(δl BK412.out 3).trans rfl,(δl BK412.out 4).trans rfl,(δl BK412.out 5).trans rfl⟩ (fun hHeld => ?_)
   clear hK K
   refine norm_ (a':=?_) ?_ ?_
   rotate_left
   ·
    show ζl _ (some 10) _=_
    simp only [ζl,δa,δb,δc,i64_w,i32_w];rfl
   refine one_ (i:=7) (N:=some 13) #[τ,τ,τ,τ,τ,τ,τ,τ,τ,τ,φ,τ,φ,φ,φ] rfl rfl (one_of HT_.out (by kernel_rfl)) (by decide) (fun K hK => ?_)
   refine goes_ Tryd.func70 (by kernel_rfl) rfl #[.int .i64 a0_3] (by rfl) rfl rfl (by (try simp only [δd,δe,δf]);rfl) ?_
   with_reducible refine (impl_amountText.calls a0_3 t414 _ (HT0.out.below (by exact HB.out)) A7.out).mono ?_
   rintro e w12 ⟨rfl,hb⟩
   refine ⟨_,rfl,?_⟩
   have n0_:=ζa (blk_below (g:=gb412) (o:=.cells #[.string a0_0,.string a0_1,.int .i64 a0_2,.int .i64 a0_3,.int .i64 a0_4,.bool a0_5] 42 (0,0)) (by exact BK412.out) hb)
   have n1_:=ζa (δr (by exact HB.out) hb)
   clear BK412
   clear HB
   have BK412:=n0_
   have HB:=n1_
   clear n0_ n1_
   (try clear hb)
   (try clear hb2)
   (try clear hk)
   (try clear hi)
   refine hK.out _ _ ⟨(δl BK412.out 0).trans rfl,(δl BK412.out 1).trans rfl,(δl BK412.out 2).trans rfl,(δl BK412.out 3).trans rfl,(δl BK412.out 4).trans rfl,(δl BK412.out 5).trans rfl⟩ (fun hHeld => ?_)
   clear hK K
   refine norm_ (a':=?_) ?_ ?_
   rotate_left
   ·
    show ζl _ (some 13) _=_
    simp only [ζl,δa,δb,δc,i64_w,i32_w];rfl
   refine one_ (i:=10) (N:=some 16) #[τ,τ,τ,τ,τ,τ,τ,τ,τ,τ,τ,τ,φ,φ,φ] rfl rfl (one_of HT_.out (by kernel_rfl)) (by decide) (fun K hK => ?_)
   refine goes_ Tryd.func70 (by kernel_rfl) rfl #[.int .i64 a0_4] (by rfl) rfl rfl (by (try simp only [δd,δe,δf]);rfl) ?_
   with_reducible refine (impl_amountText.calls a0_4 t415 _ (HT0.out.below (by exact HB.out)) A8.out).mono ?_
   rintro e w13 ⟨rfl,hb⟩
   refine ⟨_,rfl,?_⟩
   have n0_:=ζa (blk_below (g:=gb412) (o:=.cells #[.string a0_0,.string a0_1,.int .i64 a0_2,.int .i64 a0_3,.int .i64 a0_4,.bool a0_5] 42 (0,0)) (by exact BK412.out) hb)
   have n1_:=ζa (δr (by exact HB.out) hb)
   clear BK412
   clear HB
   have BK412:=n0_
   have HB:=n1_
   clear n0_ n1_
   (try clear hb)
   (try clear hb2)
   (try clear hk)
   (try clear hi)
   refine hK.out _ _ ⟨(δl BK412.out 0).trans rfl,(δl BK412.out 1).trans rfl,(δl BK412.out 2).trans rfl,(δl BK412.out 3).trans rfl,(δl BK412.out 4).trans rfl,(δl BK412.out 5).trans rfl⟩ (fun hHeld => ?_)
   clear hK K
   refine norm_ (a':=?_) ?_ ?_
   rotate_left
   ·
    show ζl _ (some 16) _=_
    simp only [ζl,δa,δb,δc,i64_w,i32_w];rfl
   refine one_ (i:=12) (N:=some 18) #[τ,τ,τ,τ,τ,τ,τ,τ,τ,τ,τ,τ,τ,φ,φ] rfl rfl (one_of HT_.out (by kernel_rfl)) (by decide) (fun K hK => ?_)
   refine Kd.R_lit_step Kd.string _ 9 ?hg (N:=18) ?hd (xs:=([a0_1,t413,t414,t415,x3_1]:List ByteArray)) (inner:=[.string a0_1,.string t413,.string t414,.string t415,.string x3_1]) (ok:=fun _=>True) (okp:=fun _=>True) ?hr ?hp (fun _ hk=>hk) trivial (Below.refl _ _) (Nat.le_refl _) (by simp) ?_;(case hd=>rfl);(case hg=>rfl);(case hr=>(go_simp;done));(case hp=>exact (Reps.one (show Kd.M Kd.string _ _ _ a0_1 [.string a0_1] from rfl) (Reps.one (show Kd.M Kd.string _ _ _ t413 [.string t413] from rfl) (Reps.one (show Kd.M Kd.string _ _ _ t414 [.string t414] from rfl) (Reps.one (show Kd.M Kd.string _ _ _ t415 [.string t415] from rfl) (Reps.one (show Kd.M Kd.string _ _ _ x3_1 [.string x3_1] from rfl) (Reps.none _ _)))))))
   intro v417 w14 ho15 hb hg_ hnew_
   clear hg_ hnew_
   (rw [← Ny416.out] at ho15)
   have n0_:=ζa (Kd.R_lower ho15 (δs (by exact HB.out)))
   have n1_:=ζa (blk_below (g:=gb412) (o:=.cells #[.string a0_0,.string a0_1,.int .i64 a0_2,.int .i64 a0_3,.int .i64 a0_4,.bool a0_5] 42 (0,0)) (by exact BK412.out) hb)
   have n2_:=ζa (δr (by exact HB.out) hb)
   clear BK412
   clear HB
   have HO418:=n0_
   have BK412:=n1_
   have HB:=n2_
   clear n0_ n1_ n2_
   clear hb ho15
   obtain ⟨Ao16,co16,eo16⟩:=Kd.R_slice HO418.out
   (subst eo16)
   refine hK.out _ _ ⟨(δl BK412.out 0).trans rfl,(δl BK412.out 1).trans rfl,(δl BK412.out 2).trans rfl,(δl BK412.out 3).trans rfl,(δl BK412.out 4).trans rfl,(δl BK412.out 5).trans rfl⟩ (fun hHeld => ?_)
   clear hK K
   refine norm_ (a':=?_) ?_ ?_
   rotate_left
   ·
    show ζl _ (some 18) _=_
    simp only [ζl,δa,δb,δc,i64_w,i32_w];rfl
   refine one_ (i:=13) (N:=some 19) #[τ,τ,τ,τ,τ,τ,τ,τ,τ,τ,τ,τ,τ,τ,φ] rfl rfl (one_of HT_.out (by kernel_rfl)) (by decide) (fun K hK => ?_)
   refine goes_ Tryd.func69 (by kernel_rfl) rfl #[.slice Ao16 y416.length co16] (by rfl) rfl rfl (by (try simp only [δd,δe,δf]);rfl) ?_
   with_reducible refine (impl_fields.calls kj1 _ _ y416 t419 _ ?side1 ?side2 A9.out).mono ?_
   (case side1=>repeat (exact (ζg HO418.out).2.2))
   (case side2=>exact (ζg HO418.out).2.1)
   rintro e w17 ⟨rfl,hb⟩
   refine ⟨_,rfl,?_⟩
   have n0_:=ζa (ζh (by exact HO418.out) hb)
   have n1_:=ζa (blk_below (g:=gb412) (o:=.cells #[.string a0_0,.string a0_1,.int .i64 a0_2,.int .i64 a0_3,.int .i64 a0_4,.bool a0_5] 42 (0,0)) (by exact BK412.out) hb)
   have n2_:=ζa (δr (by exact HB.out) hb)
   clear HO418
   clear BK412
   clear HB
   have HO418:=n0_
   have BK412:=n1_
   have HB:=n2_
   clear n0_ n1_ n2_
   (try clear hb)
   (try clear hb2)
   (try clear hk)
   (try clear hi)
   refine hK.out _ _ ⟨(δl BK412.out 0).trans rfl,(δl BK412.out 1).trans rfl,(δl BK412.out 2).trans rfl,(δl BK412.out 3).trans rfl,(δl BK412.out 4).trans rfl,(δl BK412.out 5).trans rfl⟩ (fun hHeld => ?_)
   clear hK K
   refine norm_ (a':=?_) ?_ ?_
   rotate_left
   ·
    show ζl _ (some 19) _=_
    simp only [ζl,δa,δb,δc,i64_w,i32_w];rfl
   refine ζk (i:=14) (N:=some 2) (v:=?_) (a':=?_) #[τ,τ,τ,τ,τ,τ,τ,τ,τ,τ,τ,τ,τ,τ,τ] rfl rfl (ζj HT_.out (by kernel_rfl)) (fun _ _ _ h=>h) (Or.inl ⟨by rfl,?_⟩) ?_ ?_
   rotate_left
   · intro w';go_simp;with_reducible rfl
   rotate_left
   · simp only [ζl,δa,δb,δc,i64_w,i32_w];rfl
   refine done_ (done_of HT_.out (by kernel_rfl)) ?_
   try go_wp2
   go_ret
   exact ⟨by rfl,by repeat ((with_reducible exact HB.out))⟩

end Go.Proofs.YteghpdmlpefnfaaDoor.Q
