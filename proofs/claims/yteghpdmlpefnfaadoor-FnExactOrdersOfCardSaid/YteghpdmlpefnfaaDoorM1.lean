/- Parts of the proof: what single Go functions compute, each with its walk, and plain laws over these. -/
import Derived.Test.YteghpdmlpefnfaaDoorM0
namespace Go.Proofs.YteghpdmlpefnfaaDoor.Q
open Go.RowKit Go.Proofs.YteghpdmlpefnfaaDoorW.PrintWords Go.Proofs.YteghpdmlpefnfaaDoorW.PrintLast Go.Proofs.YteghpdmlpefnfaaDoorW.PrintMore
open Go.Proofs.YteghpdmlpefnfaaDoorW.PrintWords renaming cell_far → δt, gate_dst → δx, box_event → δz, below_step → δr, below_size → δs, gate_callee → δv, blk_cell → δl, blk_frozen → δm, blk_put → δw, below_set → δq, blk_drew → δp, below_drew1 → δj, blk_drewN → δn, pw_below_drewN → δi
open Go.Proofs.YteghpdmlpefnfaaDoorW.PrintWords.Aside0 renaming mk → ζa
open List renaming map_toArray → δd, map_cons → δe, map_nil → δf, setIfInBounds_toArray → δa, set_cons_zero → δb, set_cons_succ → δc
open Go.Act renaming put → ζl
open Go.Proofs.YteghpdmlpefnfaaDoorW.PrintWords.Kd renaming R_drew → ζe, R_reads' → ζg, R_below → ζh, R_drewN → ζc, R_ne → ζf, R_far → ζi
open Go.Proofs.YteghpdmlpefnfaaDoorW.PrintLast renaming pure_ → ζk, any_of → ζj
open Bool renaming true → τ, false → φ
attribute [local go_sem] max2_int min2_int max_two min_two max_three min_three max_four min_four   -- for this text's walks alone
set_option linter.unusedVariables false
set_option linter.unusedSimpArgs false

/-! ### spec_l09Read: function 94 -/
def spec_l09Read.j0:Nat→ByteArray→List ByteArray→Bool→Option (ByteArray × ByteArray × Int × Int × Int × Bool × Bool)
 | 0,_,_,_=>none
 | k+1,x0,x6,x20=>if x20=τ then (some ((⟨#[]⟩:ByteArray),(⟨#[]⟩:ByteArray),0,0,0,φ,φ)) else (if 0<(x6.length:Int) then (if 1<(x6.length:Int) then ((spec_l02Of.f k (rdOf ByteArray.empty x6 1)).bind fun t370=>(if 2<(x6.length:Int) then ((spec_l02Of.f k (rdOf ByteArray.empty x6 2)).bind fun t372=>(if 3<(x6.length:Int) then ((spec_l02Of.f k (rdOf ByteArray.empty x6 3)).bind fun t374=>(if 4<(x6.length:Int) then ((spec_OrderOK.f k x0 (rdOf ByteArray.empty x6 0) t370 t372 t374 ((rdOf ByteArray.empty x6 4).toList == ([111,112,101,110]:List UInt8))).bind fun t377=>(if t377=τ then (if (rdOf ByteArray.empty x6 4).toList=([111,112,101,110]:List UInt8) then (some (x0,rdOf ByteArray.empty x6 0,t370,t372,t374,((rdOf ByteArray.empty x6 4).toList == ([111,112,101,110]:List UInt8)),τ)) else (some (x0,rdOf ByteArray.empty x6 0,t370,t372,t374,((rdOf ByteArray.empty x6 4).toList == ([111,112,101,110]:List UInt8)),((rdOf ByteArray.empty x6 4).toList == ([99,108,111,115,101,100]:List UInt8))))) else (some (x0,rdOf ByteArray.empty x6 0,t370,t372,t374,((rdOf ByteArray.empty x6 4).toList == ([111,112,101,110]:List UInt8)),φ)))) else (none))) else (none))) else (none))) else (none)) else (none))
def spec_l09Read.f (k:Nat) (a0:ByteArray) (a1:ByteArray):Option (ByteArray × ByteArray × Int × Int × Int × Bool × Bool):=(spec_l02Read.f k a1).bind fun bt364=>(if bt364.2=τ then (spec_l09Read.j0 k a0 bt364.1 ((bt364.1.length:Int) != 5)) else (spec_l09Read.j0 k a0 bt364.1 τ))
def spec_l09Read.T4:Bool × List (List Nat × List Nat):=(τ,[([],[]),([],[]),([1],[1]),([2],[2]),([],[]),([4],[4]),([5],[5]),([6],[6]),([],[]),([8],[8]),([9],[9]),([10,7],[10]),([],[]),([12],[12]),([13],[13]),([14,11],[14]),([],[]),([16],[16]),([17],[17]),([18],[18]),([0,3,7,11,15,19],[0,3,7,11,15,19]),([],[]),([21,20,15,0,1,2,3,4,5,6,7,8,9,10,11,12,13,14,15,16,17,18,19,20,21],[20,21])])
def spec_l09Read.B4:List Nat:=[0,0,2,6,0,16,48,112,0,256,768,2032,0,4096,12288,32752,0,65536,196608,458752,1048575,0,4194303]
theorem spec_l09Read.tab4:rtab .any (opsOf Tryd.f94 4)=spec_l09Read.T4:=by kernel_rfl
theorem spec_l09Read.bits4:waitsOk spec_l09Read.T4.2 spec_l09Read.B4=τ:=by kernel_rfl
def spec_l09Read.T5:Bool × List (List Nat × List Nat):=(τ,[([],[]),([],[]),([1],[1]),([2,2],[2]),([3],[3]),([4,3],[3,4]),([5,3,3],[3,5]),([6],[6]),([7,6],[6,7]),([8,6],[6,8]),([9,6],[6,9]),([6,10,3],[3,6,10]),([3,11],[3,11]),([0,6,0],[0]),([12,13,0,1,2,3,4,5,6,7,8,9,10,11,12,13],[12])])
def spec_l09Read.B5:List Nat:=[0,0,2,6,14,30,62,126,254,510,1022,2046,4094,127,16383]
theorem spec_l09Read.tab5:rtab .any (opsOf Tryd.f94 5)=spec_l09Read.T5:=by kernel_rfl
theorem spec_l09Read.bits5:waitsOk spec_l09Read.T5.2 spec_l09Read.B5=τ:=by kernel_rfl
theorem spec_l09Read.far6 {W:World} {g:Nat} {a:Addr} {i0 i1 i2 i3 i4 i5:Nat} (h:a.block≠g) (u0 u1 u2 u3 u4 u5:Value):((((((W.setCell ⟨g,i0,none⟩ u0).setCell ⟨g,i1,none⟩ u1).setCell ⟨g,i2,none⟩ u2).setCell ⟨g,i3,none⟩ u3).setCell ⟨g,i4,none⟩ u4).setCell ⟨g,i5,none⟩ u5).cell? a=W.cell? a :=
 (δt (p:=⟨g,i5,none⟩) h _).trans ((δt (p:=⟨g,i4,none⟩) h _).trans ((δt (p:=⟨g,i3,none⟩) h _).trans ((δt (p:=⟨g,i2,none⟩) h _).trans ((δt (p:=⟨g,i1,none⟩) h _).trans (δt (p:=⟨g,i0,none⟩) h _)))))
set_option maxHeartbeats 8000000 in
set_option maxRecDepth 100000 in
theorem spec_l09Read.calls (k:Nat) (a0:ByteArray) (a1:ByteArray) (r1:ByteArray) (r2:ByteArray) (r3:Int) (r4:Int) (r5:Int) (r6:Bool) (r7:Bool) (w:World) (h:spec_l09Read.f k a0 a1=some (r1,r2,r3,r4,r5,r6,r7)) :
  Calls Tryd.prog 94 #[.string a0,.string a1] w fun e w'=>e = .returned (.tuple #[.agg #[.string r1,.string r2,.int .i64 r3,.int .i64 r4,.int .i64 r5,.bool r6],.bool r7])∧Below w.heap.size w w':=by
 have hu42:=Tryd.underlying42
 have HB:=ζa (Below.refl w.heap.size w)
 have H:((spec_l02Read.f k a1).bind fun bt364=>(if bt364.2=τ then (spec_l09Read.j0 k a0 bt364.1 ((bt364.1.length:Int) != 5)) else (spec_l09Read.j0 k a0 bt364.1 τ)))=some (r1,r2,r3,r4,r5,r6,r7):=h
 clear h
 replace H:=Option.bind_eq_some_iff.mp H
 obtain ⟨⟨t364,t365⟩,A30,H⟩:=H
 replace H:(if t365=τ then (spec_l09Read.j0 k a0 t364 ((t364.length:Int) != 5)) else (spec_l09Read.j0 k a0 t364 τ))=some (r1,r2,r3,r4,r5,r6,r7):=H
 have A3:=ζa A30
 clear A30
 have HC4:=ζa H
 clear H
 go_enter Tryd.func94,Tryd.ntmps94
 go_upto_region 2 with (first|((with_reducible refine δx (N:=4) rfl ?_);(try (refine gate_guard (by rfl) ?_;dsimp only));refine δz ?hg (N:=4) ?hd (cs:=#[.string (⟨#[]⟩:ByteArray),.string (⟨#[]⟩:ByteArray),.int .i64 0,.int .i64 0,.int .i64 0,.bool φ]) (t:=42) ?hr ?_;(case hd=>rfl);(case hg=>rfl);(case hr=>(go_simp;done));intro gb363 hg w5 hbox hb;have n0_:=ζa (δr (by exact HB.out) hb);have n1_:=ζa (hbox);have n2_:=ζa ((by rw [hg];exact (δs (by exact HB.out)):w.heap.size≤gb363));have n3_:=ζa ((by rw [hg];exact (δs (by exact HB.out)):w.heap.size≤gb363));clear HB;have HB:=n0_;have BK363:=n1_;have GW363:=n2_;have GE363:=n3_;clear n0_ n1_ n2_ n3_;clear hb hbox hg)|((with_reducible refine δv (f:=83) rfl ?_);refine goesL_ (some 11) rfl rfl Tryd.func83 (by kernel_rfl) rfl #[.string a1] rfl (by (try simp only [δd,δe,δf]);rfl) ?_;(with_reducible refine (spec_l02Read.calls k a1 t364 t365 _ A3.out).mono ?_);rintro e w6 ⟨v366,rfl,ho0,hb⟩;refine ⟨_,rfl,?_⟩;have n0_:=ζa (Kd.R_lower ho0 (δs (by exact HB.out)));have n1_:=ζa (blk_below (g:=gb363) (o:=.cells #[.string (⟨#[]⟩:ByteArray),.string (⟨#[]⟩:ByteArray),.int .i64 0,.int .i64 0,.int .i64 0,.bool φ] 42 (0,0)) (by exact BK363.out) hb);have n2_:=ζa (δr (by exact HB.out) hb);clear BK363;clear HB;have HO367:=n0_;have BK363:=n1_;have HB:=n2_;clear n0_ n1_ n2_;(try clear hb);(try clear hb2);(try clear hk);(try clear hi);(try clear ho0)))
 (try simp only [ζl,δa,δb,δc])
 go_cut [20] (fun v20 wc => ∃ (kq:Nat) (x20_3:Bool),v20 = .bool x20_3∧Aside0 (spec_l09Read.j0 kq a0 t364 x20_3=some (r1,r2,r3,r4,r5,r6,r7))∧Aside0 (kq≤k)∧Aside0 (Kd.R Kd.string 9 wc w.heap.size (fun _=>True) v366 t364)∧Aside0 (wc.heap[gb363]? = some (.cells #[.string (⟨#[]⟩:ByteArray),.string (⟨#[]⟩:ByteArray),.int .i64 0,.int .i64 0,.int .i64 0,.bool φ] 42 (0,0)))∧Aside0 (Below w.heap.size w wc))
 case first =>
  have H:=HC4.out
  clear HC4
  by_cases c7:t365=τ
  ·
   subst c7
   have H1:(spec_l09Read.j0 k a0 t364 ((t364.length:Int) != 5))=some (r1,r2,r3,r4,r5,r6,r7):=by rw [if_pos rfl] at H;exact H
   clear H
   have H:=H1
   clear H1
   have H':=ζa H
   clear H
   obtain ⟨Ao8,co8,eo8⟩:=Kd.R_slice HO367.out
   subst eo8
   go_wp2
   go_meet
   case rel=>exact ⟨_,(((t364.length:Int) != 5)),(by rfl),H',⟨by omega⟩,⟨by exact HO367.out⟩,⟨by exact BK363.out⟩,⟨by repeat ((with_reducible exact HB.out))⟩⟩
  ·
   replace c7:=Bool.eq_false_iff.mpr c7
   subst c7
   have H1:(spec_l09Read.j0 k a0 t364 τ)=some (r1,r2,r3,r4,r5,r6,r7):=by rw [if_neg (show ¬ (φ=τ) by decide)] at H;exact H
   clear H
   have H:=H1
   clear H1
   have H':=ζa H
   clear H
   go_wp2
   go_meet
   case rel=>exact ⟨_,(τ),(by rfl),H',⟨by omega⟩,⟨by exact HO367.out⟩,⟨by exact BK363.out⟩,⟨by repeat ((with_reducible exact HB.out))⟩⟩
 case rest =>
  clear HC4
  try clear p2
  try clear c7
  try clear c8
  obtain ⟨kq,x20_3,rfl,HA,HJ3,HO_6,BK363,HB⟩:=hcut
  cases kq with
  | zero=>exact absurd HA.out (by simp [spec_l09Read.j0])
  | succ kj3 =>
   have H:=HA.out
   clear HA
   simp only [spec_l09Read.j0] at H
   by_cases c9:x20_3=τ
   ·
    subst c9
    have H1:(some ((⟨#[]⟩:ByteArray),(⟨#[]⟩:ByteArray),0,0,0,φ,φ))=some (r1,r2,r3,r4,r5,r6,r7):=by rw [if_pos rfl] at H;exact H
    clear H
    have H:=H1
    clear H1
    simp only [Option.some.injEq,Prod.mk.injEq] at H
    obtain ⟨rfl,rfl,rfl,rfl,rfl,rfl,rfl⟩:=H
    have hcz10_0:wc.cell? ⟨gb363,0,none⟩=some (.string (⟨#[]⟩:ByteArray)):=(δl BK363.out 0).trans rfl
    have hcz10_1:wc.cell? ⟨gb363,1,none⟩=some (.string (⟨#[]⟩:ByteArray)):=(δl BK363.out 1).trans rfl
    have hcz10_2:wc.cell? ⟨gb363,2,none⟩=some (.int .i64 0):=(δl BK363.out 2).trans rfl
    have hcz10_3:wc.cell? ⟨gb363,3,none⟩=some (.int .i64 0):=(δl BK363.out 3).trans rfl
    have hcz10_4:wc.cell? ⟨gb363,4,none⟩=some (.int .i64 0):=(δl BK363.out 4).trans rfl
    have hcz10_5:wc.cell? ⟨gb363,5,none⟩=some (.bool φ):=(δl BK363.out 5).trans rfl
    have hfz10_0:=δm BK363.out 0
    have hfz10_1:=δm BK363.out 1
    have hfz10_2:=δm BK363.out 2
    have hfz10_3:=δm BK363.out 3
    have hfz10_4:=δm BK363.out 4
    have hfz10_5:=δm BK363.out 5
    go_wp2
    refine bodyPost_ret (results_ct rfl _ _ gb363 42 #[.string (⟨#[]⟩:ByteArray),.string (⟨#[]⟩:ByteArray),.int .i64 0,.int .i64 0,.int .i64 0,.bool φ] (0,0) _ rfl (by refine δw (cs:=#[.string (⟨#[]⟩:ByteArray),.string (⟨#[]⟩:ByteArray),.int .i64 0,.int .i64 0,.int .i64 0,.bool φ]) ?_ 5 _ (by rfl);refine δw (cs:=#[.string (⟨#[]⟩:ByteArray),.string (⟨#[]⟩:ByteArray),.int .i64 0,.int .i64 0,.int .i64 0,.bool φ]) ?_ 4 _ rfl;refine δw (cs:=#[.string (⟨#[]⟩:ByteArray),.string (⟨#[]⟩:ByteArray),.int .i64 0,.int .i64 0,.int .i64 0,.bool φ]) ?_ 3 _ rfl;refine δw (cs:=#[.string (⟨#[]⟩:ByteArray),.string (⟨#[]⟩:ByteArray),.int .i64 0,.int .i64 0,.int .i64 0,.bool φ]) ?_ 2 _ rfl;refine δw (cs:=#[.string (⟨#[]⟩:ByteArray),.string (⟨#[]⟩:ByteArray),.int .i64 0,.int .i64 0,.int .i64 0,.bool φ]) ?_ 1 _ rfl;refine δw (cs:=#[.string (⟨#[]⟩:ByteArray),.string (⟨#[]⟩:ByteArray),.int .i64 0,.int .i64 0,.int .i64 0,.bool φ]) ?_ 0 _ rfl;exact BK363.out) Tryd.underlying42 rfl (by kernel_rfl)) rfl ?_
    exact ⟨by rfl,by repeat ((with_reducible first|exact HB.out|refine δq ?_ GE363.out))⟩
   ·
    replace c9:=Bool.eq_false_iff.mpr c9
    subst c9
    have H1:(if 0<(t364.length:Int) then (if 1<(t364.length:Int) then ((spec_l02Of.f kj3 (rdOf ByteArray.empty t364 1)).bind fun t370=>(if 2<(t364.length:Int) then ((spec_l02Of.f kj3 (rdOf ByteArray.empty t364 2)).bind fun t372=>(if 3<(t364.length:Int) then ((spec_l02Of.f kj3 (rdOf ByteArray.empty t364 3)).bind fun t374=>(if 4<(t364.length:Int) then ((spec_OrderOK.f kj3 a0 (rdOf ByteArray.empty t364 0) t370 t372 t374 ((rdOf ByteArray.empty t364 4).toList == ([111,112,101,110]:List UInt8))).bind fun t377=>(if t377=τ then (if (rdOf ByteArray.empty t364 4).toList=([111,112,101,110]:List UInt8) then (some (a0,rdOf ByteArray.empty t364 0,t370,t372,t374,((rdOf ByteArray.empty t364 4).toList == ([111,112,101,110]:List UInt8)),τ)) else (some (a0,rdOf ByteArray.empty t364 0,t370,t372,t374,((rdOf ByteArray.empty t364 4).toList == ([111,112,101,110]:List UInt8)),((rdOf ByteArray.empty t364 4).toList == ([99,108,111,115,101,100]:List UInt8))))) else (some (a0,rdOf ByteArray.empty t364 0,t370,t372,t374,((rdOf ByteArray.empty t364 4).toList == ([111,112,101,110]:List UInt8)),φ)))) else (none))) else (none))) else (none))) else (none)) else (none))=some (r1,r2,r3,r4,r5,r6,r7):=by rw [if_neg (show ¬ (φ=τ) by decide)] at H;exact H
    clear H
    have H:=H1
    clear H1
    by_cases c11:0<(t364.length:Int)
    ·
     rw [if_pos c11] at H
     have c11b0:decide (0<(t364.length:Int))=τ:=decide_eq_true c11
     have c11b1:decide (0<t364.length)=τ:=decide_eq_true (by omega)
     clear c11
     by_cases c12:1<(t364.length:Int)
     ·
      rw [if_pos c12] at H
      have c12b0:decide (1<(t364.length:Int))=τ:=decide_eq_true c12
      have c12b1:decide (1<t364.length)=τ:=decide_eq_true (by omega)
      clear c12
      replace H:=Option.bind_eq_some_iff.mp H
      obtain ⟨t370,A130,H⟩:=H
      replace H:(if 2<(t364.length:Int) then ((spec_l02Of.f kj3 (rdOf ByteArray.empty t364 2)).bind fun t372=>(if 3<(t364.length:Int) then ((spec_l02Of.f kj3 (rdOf ByteArray.empty t364 3)).bind fun t374=>(if 4<(t364.length:Int) then ((spec_OrderOK.f kj3 a0 (rdOf ByteArray.empty t364 0) t370 t372 t374 ((rdOf ByteArray.empty t364 4).toList == ([111,112,101,110]:List UInt8))).bind fun t377=>(if t377=τ then (if (rdOf ByteArray.empty t364 4).toList=([111,112,101,110]:List UInt8) then (some (a0,rdOf ByteArray.empty t364 0,t370,t372,t374,((rdOf ByteArray.empty t364 4).toList == ([111,112,101,110]:List UInt8)),τ)) else (some (a0,rdOf ByteArray.empty t364 0,t370,t372,t374,((rdOf ByteArray.empty t364 4).toList == ([111,112,101,110]:List UInt8)),((rdOf ByteArray.empty t364 4).toList == ([99,108,111,115,101,100]:List UInt8))))) else (some (a0,rdOf ByteArray.empty t364 0,t370,t372,t374,((rdOf ByteArray.empty t364 4).toList == ([111,112,101,110]:List UInt8)),φ)))) else (none))) else (none))) else (none))=some (r1,r2,r3,r4,r5,r6,r7):=H
      have A13:=ζa A130
      clear A130
      by_cases c14:2<(t364.length:Int)
      ·
       rw [if_pos c14] at H
       have c14b0:decide (2<(t364.length:Int))=τ:=decide_eq_true c14
       have c14b1:decide (2<t364.length)=τ:=decide_eq_true (by omega)
       clear c14
       replace H:=Option.bind_eq_some_iff.mp H
       obtain ⟨t372,A150,H⟩:=H
       replace H:(if 3<(t364.length:Int) then ((spec_l02Of.f kj3 (rdOf ByteArray.empty t364 3)).bind fun t374=>(if 4<(t364.length:Int) then ((spec_OrderOK.f kj3 a0 (rdOf ByteArray.empty t364 0) t370 t372 t374 ((rdOf ByteArray.empty t364 4).toList == ([111,112,101,110]:List UInt8))).bind fun t377=>(if t377=τ then (if (rdOf ByteArray.empty t364 4).toList=([111,112,101,110]:List UInt8) then (some (a0,rdOf ByteArray.empty t364 0,t370,t372,t374,((rdOf ByteArray.empty t364 4).toList == ([111,112,101,110]:List UInt8)),τ)) else (some (a0,rdOf ByteArray.empty t364 0,t370,t372,t374,((rdOf ByteArray.empty t364 4).toList == ([111,112,101,110]:List UInt8)),((rdOf ByteArray.empty t364 4).toList == ([99,108,111,115,101,100]:List UInt8))))) else (some (a0,rdOf ByteArray.empty t364 0,t370,t372,t374,((rdOf ByteArray.empty t364 4).toList == ([111,112,101,110]:List UInt8)),φ)))) else (none))) else (none))=some (r1,r2,r3,r4,r5,r6,r7):=H
       have A15:=ζa A150
       clear A150
       by_cases c16:3<(t364.length:Int)
       ·
        rw [if_pos c16] at H
        have c16b0:decide (3<(t364.length:Int))=τ:=decide_eq_true c16
        have c16b1:decide (3<t364.length)=τ:=decide_eq_true (by omega)
        clear c16
        replace H:=Option.bind_eq_some_iff.mp H
        obtain ⟨t374,A170,H⟩:=H
        replace H:(if 4<(t364.length:Int) then ((spec_OrderOK.f kj3 a0 (rdOf ByteArray.empty t364 0) t370 t372 t374 ((rdOf ByteArray.empty t364 4).toList == ([111,112,101,110]:List UInt8))).bind fun t377=>(if t377=τ then (if (rdOf ByteArray.empty t364 4).toList=([111,112,101,110]:List UInt8) then (some (a0,rdOf ByteArray.empty t364 0,t370,t372,t374,((rdOf ByteArray.empty t364 4).toList == ([111,112,101,110]:List UInt8)),τ)) else (some (a0,rdOf ByteArray.empty t364 0,t370,t372,t374,((rdOf ByteArray.empty t364 4).toList == ([111,112,101,110]:List UInt8)),((rdOf ByteArray.empty t364 4).toList == ([99,108,111,115,101,100]:List UInt8))))) else (some (a0,rdOf ByteArray.empty t364 0,t370,t372,t374,((rdOf ByteArray.empty t364 4).toList == ([111,112,101,110]:List UInt8)),φ)))) else (none))=some (r1,r2,r3,r4,r5,r6,r7):=H
        have A17:=ζa A170
        clear A170
        by_cases c18:4<(t364.length:Int)
        ·
         rw [if_pos c18] at H
         have c18b0:decide (4<(t364.length:Int))=τ:=decide_eq_true c18
         have c18b1:decide (4<t364.length)=τ:=decide_eq_true (by omega)
         clear c18
         replace H:=Option.bind_eq_some_iff.mp H
         obtain ⟨t377,A190,H⟩:=H
         replace H:(if t377=τ then (if (rdOf ByteArray.empty t364 4).toList=([111,112,101,110]:List UInt8) then (some (a0,rdOf ByteArray.empty t364 0,t370,t372,t374,((rdOf ByteArray.empty t364 4).toList == ([111,112,101,110]:List UInt8)),τ)) else (some (a0,rdOf ByteArray.empty t364 0,t370,t372,t374,((rdOf ByteArray.empty t364 4).toList == ([111,112,101,110]:List UInt8)),((rdOf ByteArray.empty t364 4).toList == ([99,108,111,115,101,100]:List UInt8))))) else (some (a0,rdOf ByteArray.empty t364 0,t370,t372,t374,((rdOf ByteArray.empty t364 4).toList == ([111,112,101,110]:List UInt8)),φ)))=some (r1,r2,r3,r4,r5,r6,r7):=H
         have A19:=ζa A190
         clear A190
         try go_wp2
         have n0_:=ζa (ζe HO_6.out)
         have n1_:=ζa (δp BK363.out)
         have n2_:=ζa (δj HB.out)
         clear HO_6
         clear BK363
         clear HB
         have HO_6:=n0_
         have BK363:=n1_
         have HB:=n2_
         clear n0_ n1_ n2_
         obtain ⟨Ao42,co42,eo42⟩:=Kd.R_slice HO_6.out
         (subst eo42)
         have p368:0≤(0:Int):=(by omega)
         have q368:0<(t364.length:Int):=of_decide_eq_true (by (with_reducible assumption))
         obtain ⟨ad368,e368,hx368_0⟩:=Kd.at_string (ζg HO_6.out).2.2 0 p368 q368
         cases e368
         have qi368:(0<t364.length)=True:=eq_true (by omega)
         (try rw [show ((0:Int)).toNat=0 from rfl] at hx368_0)
         (try rw [Addr.add_zero'] at hx368_0)
         replace p368:=eq_true p368
         replace q368:=eq_true q368
         have p369:0≤(1:Int):=(by omega)
         have q369:1<(t364.length:Int):=of_decide_eq_true (by (with_reducible assumption))
         obtain ⟨ad369,e369,hx369_0⟩:=Kd.at_string (ζg HO_6.out).2.2 1 p369 q369
         obtain rfl:ad368=ad369:=(by injection e369)
         (try simp only [show (1:Int).toNat=1 from rfl,Nat.reduceMul,Nat.reduceEqDiff,Go.Addr.add,↓reduceIte] at hx369_0)
         have qi369:(1<t364.length)=True:=eq_true (by omega)
         (try rw [show ((1:Int)).toNat=1 from rfl] at hx369_0)
         replace p369:=eq_true p369
         replace q369:=eq_true q369
         have p371:0≤(2:Int):=(by omega)
         have q371:2<(t364.length:Int):=of_decide_eq_true (by (with_reducible assumption))
         obtain ⟨ad371,e371,hx371_0⟩:=Kd.at_string (ζg HO_6.out).2.2 2 p371 q371
         obtain rfl:ad368=ad371:=(by injection e371)
         (try simp only [show (2:Int).toNat=2 from rfl,Nat.reduceMul,Nat.reduceEqDiff,Go.Addr.add,↓reduceIte] at hx371_0)
         have qi371:(2<t364.length)=True:=eq_true (by omega)
         (try rw [show ((2:Int)).toNat=2 from rfl] at hx371_0)
         replace p371:=eq_true p371
         replace q371:=eq_true q371
         have p373:0≤(3:Int):=(by omega)
         have q373:3<(t364.length:Int):=of_decide_eq_true (by (with_reducible assumption))
         obtain ⟨ad373,e373,hx373_0⟩:=Kd.at_string (ζg HO_6.out).2.2 3 p373 q373
         obtain rfl:ad368=ad373:=(by injection e373)
         (try simp only [show (3:Int).toNat=3 from rfl,Nat.reduceMul,Nat.reduceEqDiff,Go.Addr.add,↓reduceIte] at hx373_0)
         have qi373:(3<t364.length)=True:=eq_true (by omega)
         (try rw [show ((3:Int)).toNat=3 from rfl] at hx373_0)
         replace p373:=eq_true p373
         replace q373:=eq_true q373
         have p375:0≤(4:Int):=(by omega)
         have q375:4<(t364.length:Int):=of_decide_eq_true (by (with_reducible assumption))
         obtain ⟨ad375,e375,hx375_0⟩:=Kd.at_string (ζg HO_6.out).2.2 4 p375 q375
         obtain rfl:ad368=ad375:=(by injection e375)
         (try simp only [show (4:Int).toNat=4 from rfl,Nat.reduceMul,Nat.reduceEqDiff,Go.Addr.add,↓reduceIte] at hx375_0)
         have qi375:(4<t364.length)=True:=eq_true (by omega)
         (try rw [show ((4:Int)).toNat=4 from rfl] at hx375_0)
         replace p375:=eq_true p375
         replace q375:=eq_true q375
         refine start_ (n:=23) (S:=fun w'=>w'.cell? ad368=some (.string (rdOf ByteArray.empty t364 0))∧w'.cell? ⟨ad368.block,ad368.off+1,none⟩=some (.string (rdOf ByteArray.empty t364 1))∧w'.cell? ⟨ad368.block,ad368.off+2,none⟩=some (.string (rdOf ByteArray.empty t364 2))∧w'.cell? ⟨ad368.block,ad368.off+3,none⟩=some (.string (rdOf ByteArray.empty t364 3))∧w'.cell? ⟨ad368.block,ad368.off+4,none⟩=some (.string (rdOf ByteArray.empty t364 4))) (ds:=[]) #[φ,φ,φ,φ,φ,φ,φ,φ,φ,φ,φ,φ,φ,φ,φ,φ,φ,φ,φ,φ,φ,φ,φ] (by kernel_rfl) rfl rfl ⟨hx368_0,hx369_0,hx371_0,hx373_0,hx375_0⟩ (fun hHeld => ?_);refine with_tabW spec_l09Read.tab4 spec_l09Read.bits4 (fun HT_ HW_ => ?_)
         generalize wc.drew=w41 at HO_6 BK363 HB hx368_0 hx369_0 hx371_0 hx373_0 hx375_0 hHeld ⊢
         refine ζk (i:=0) (N:=some 22) (v:=?_) (a':=?_) #[τ,φ,φ,φ,φ,φ,φ,φ,φ,φ,φ,φ,φ,φ,φ,φ,φ,φ,φ,φ,φ,φ,φ] rfl rfl (ζj HT_.out (by kernel_rfl)) (fun _ _ _ h=>h) (Or.inl ⟨by rfl,?_⟩) ?_ ?_
         rotate_left
         · intro w';go_simp;with_reducible rfl
         rotate_left
         · simp only [ζl,δa,δb,δc,i64_w,i32_w];rfl
         refine ζk (i:=1) (N:=some 23) (v:=?_) (a':=?_) #[τ,τ,φ,φ,φ,φ,φ,φ,φ,φ,φ,φ,φ,φ,φ,φ,φ,φ,φ,φ,φ,φ,φ] rfl rfl (ζj HT_.out (by kernel_rfl)) (fun _ _ _ h=>h) (Or.inl ⟨by rfl,?_⟩) ?_ ?_
         rotate_left
         · intro w';go_simp;with_reducible rfl
         rotate_left
         · simp only [ζl,δa,δb,δc,i64_w,i32_w];rfl
         refine ζk (i:=2) (N:=some 24) (v:=?_) (a':=?_) #[τ,τ,τ,φ,φ,φ,φ,φ,φ,φ,φ,φ,φ,φ,φ,φ,φ,φ,φ,φ,φ,φ,φ] rfl rfl (ζj HT_.out (by kernel_rfl)) (fun _ _ _ h=>h) (Or.inl ⟨by rfl,?_⟩) ?_ ?_
         rotate_left
         · intro w';go_simp;with_reducible rfl
         rotate_left
         · simp only [ζl,δa,δb,δc,i64_w,i32_w];rfl
         refine ζk (i:=4) (N:=some 26) (v:=?_) (a':=?_) #[τ,τ,τ,φ,τ,φ,φ,φ,φ,φ,φ,φ,φ,φ,φ,φ,φ,φ,φ,φ,φ,φ,φ] rfl rfl (ζj HT_.out (by kernel_rfl)) (fun _ _ _ h=>h) (Or.inl ⟨by rfl,?_⟩) ?_ ?_
         rotate_left
         · intro w';go_simp;with_reducible rfl
         rotate_left
         · simp only [ζl,δa,δb,δc,i64_w,i32_w];rfl
         refine ζk (i:=5) (N:=some 27) (v:=?_) (a':=?_) #[τ,τ,τ,φ,τ,τ,φ,φ,φ,φ,φ,φ,φ,φ,φ,φ,φ,φ,φ,φ,φ,φ,φ] rfl rfl (ζj HT_.out (by kernel_rfl)) (fun _ _ _ h=>h) (Or.inl ⟨by rfl,?_⟩) ?_ ?_
         rotate_left
         · intro w';go_simp;with_reducible rfl
         rotate_left
         · simp only [ζl,δa,δb,δc,i64_w,i32_w];rfl
         refine ζk (i:=8) (N:=some 30) (v:=?_) (a':=?_) #[τ,τ,τ,φ,τ,τ,φ,φ,τ,φ,φ,φ,φ,φ,φ,φ,φ,φ,φ,φ,φ,φ,φ] rfl rfl (ζj HT_.out (by kernel_rfl)) (fun _ _ _ h=>h) (Or.inl ⟨by rfl,?_⟩) ?_ ?_
         rotate_left
         · intro w';go_simp;with_reducible rfl
         rotate_left
         · simp only [ζl,δa,δb,δc,i64_w,i32_w];rfl
         refine ζk (i:=9) (N:=some 31) (v:=?_) (a':=?_) #[τ,τ,τ,φ,τ,τ,φ,φ,τ,τ,φ,φ,φ,φ,φ,φ,φ,φ,φ,φ,φ,φ,φ] rfl rfl (ζj HT_.out (by kernel_rfl)) (fun _ _ _ h=>h) (Or.inl ⟨by rfl,?_⟩) ?_ ?_
         rotate_left
         · intro w';go_simp;with_reducible rfl
         rotate_left
         · simp only [ζl,δa,δb,δc,i64_w,i32_w];rfl
         refine ζk (i:=12) (N:=some 34) (v:=?_) (a':=?_) #[τ,τ,τ,φ,τ,τ,φ,φ,τ,τ,φ,φ,τ,φ,φ,φ,φ,φ,φ,φ,φ,φ,φ] rfl rfl (ζj HT_.out (by kernel_rfl)) (fun _ _ _ h=>h) (Or.inl ⟨by rfl,?_⟩) ?_ ?_
         rotate_left
         · intro w';go_simp;with_reducible rfl
         rotate_left
         · simp only [ζl,δa,δb,δc,i64_w,i32_w];rfl
         refine ζk (i:=13) (N:=some 35) (v:=?_) (a':=?_) #[τ,τ,τ,φ,τ,τ,φ,φ,τ,τ,φ,φ,τ,τ,φ,φ,φ,φ,φ,φ,φ,φ,φ] rfl rfl (ζj HT_.out (by kernel_rfl)) (fun _ _ _ h=>h) (Or.inl ⟨by rfl,?_⟩) ?_ ?_
         rotate_left
         · intro w';go_simp;with_reducible rfl
         rotate_left
         · simp only [ζl,δa,δb,δc,i64_w,i32_w];rfl
         refine ζk (i:=16) (N:=some 38) (v:=?_) (a':=?_) #[τ,τ,τ,φ,τ,τ,φ,φ,τ,τ,φ,φ,τ,τ,φ,φ,τ,φ,φ,φ,φ,φ,φ] rfl rfl (ζj HT_.out (by kernel_rfl)) (fun _ _ _ h=>h) (Or.inl ⟨by rfl,?_⟩) ?_ ?_
         rotate_left
         · intro w';go_simp;with_reducible rfl
         rotate_left
         · simp only [ζl,δa,δb,δc,i64_w,i32_w];rfl
         refine ζk (i:=17) (N:=some 39) (v:=?_) (a':=?_) #[τ,τ,τ,φ,τ,τ,φ,φ,τ,τ,φ,φ,τ,τ,φ,φ,τ,τ,φ,φ,φ,φ,φ] rfl rfl (ζj HT_.out (by kernel_rfl)) (fun _ _ _ h=>h) (Or.inl ⟨by rfl,?_⟩) ?_ ?_
         rotate_left
         · intro w';go_simp;with_reducible rfl
         rotate_left
         · simp only [ζl,δa,δb,δc,i64_w,i32_w];rfl
         refine take_ (i:=3) (N:=some 25) (v:=?_) (a':=?_) #[τ,τ,τ,τ,τ,τ,φ,φ,τ,τ,φ,φ,τ,τ,φ,φ,τ,τ,φ,φ,φ,φ,φ] rfl rfl (take_ofW HT_.out HW_.out (by kernel_rfl)) (fun _ _ _ h=>h) (Or.inl ⟨by rfl,?_⟩) hHeld ?_ ?_
         rotate_left
         · rintro w' ⟨s0,s1,s2,s3,s4⟩;go_simp;with_reducible rfl
         rotate_left
         · simp only [ζl,δa,δb,δc,i64_w,i32_w];rfl
         refine take_ (i:=6) (N:=some 28) (v:=?_) (a':=?_) #[τ,τ,τ,τ,τ,τ,τ,φ,τ,τ,φ,φ,τ,τ,φ,φ,τ,τ,φ,φ,φ,φ,φ] rfl rfl (take_ofW HT_.out HW_.out (by kernel_rfl)) (fun _ _ _ h=>h) (Or.inl ⟨by rfl,?_⟩) hHeld ?_ ?_
         rotate_left
         · rintro w' ⟨s0,s1,s2,s3,s4⟩;go_simp;with_reducible rfl
         rotate_left
         · simp only [ζl,δa,δb,δc,i64_w,i32_w];rfl
         refine take_ (i:=10) (N:=some 32) (v:=?_) (a':=?_) #[τ,τ,τ,τ,τ,τ,τ,φ,τ,τ,τ,φ,τ,τ,φ,φ,τ,τ,φ,φ,φ,φ,φ] rfl rfl (take_ofW HT_.out HW_.out (by kernel_rfl)) (fun _ _ _ h=>h) (Or.inl ⟨by rfl,?_⟩) hHeld ?_ ?_
         rotate_left
         · rintro w' ⟨s0,s1,s2,s3,s4⟩;go_simp;with_reducible rfl
         rotate_left
         · simp only [ζl,δa,δb,δc,i64_w,i32_w];rfl
         refine take_ (i:=14) (N:=some 36) (v:=?_) (a':=?_) #[τ,τ,τ,τ,τ,τ,τ,φ,τ,τ,τ,φ,τ,τ,τ,φ,τ,τ,φ,φ,φ,φ,φ] rfl rfl (take_ofW HT_.out HW_.out (by kernel_rfl)) (fun _ _ _ h=>h) (Or.inl ⟨by rfl,?_⟩) hHeld ?_ ?_
         rotate_left
         · rintro w' ⟨s0,s1,s2,s3,s4⟩;go_simp;with_reducible rfl
         rotate_left
         · simp only [ζl,δa,δb,δc,i64_w,i32_w];rfl
         refine take_ (i:=18) (N:=some 40) (v:=?_) (a':=?_) #[τ,τ,τ,τ,τ,τ,τ,φ,τ,τ,τ,φ,τ,τ,τ,φ,τ,τ,τ,φ,φ,φ,φ] rfl rfl (take_ofW HT_.out HW_.out (by kernel_rfl)) (fun _ _ _ h=>h) (Or.inl ⟨by rfl,?_⟩) hHeld ?_ ?_
         rotate_left
         · rintro w' ⟨s0,s1,s2,s3,s4⟩;go_simp;with_reducible rfl
         rotate_left
         · simp only [ζl,δa,δb,δc,i64_w,i32_w];rfl
         refine ζk (i:=19) (N:=some 41) (v:=?_) (a':=?_) #[τ,τ,τ,τ,τ,τ,τ,φ,τ,τ,τ,φ,τ,τ,τ,φ,τ,τ,τ,τ,φ,φ,φ] rfl rfl (ζj HT_.out (by kernel_rfl)) (fun _ _ _ h=>h) (Or.inl ⟨by rfl,?_⟩) ?_ ?_
         rotate_left
         · intro w';go_simp;with_reducible rfl
         rotate_left
         · simp only [ζl,δa,δb,δc,i64_w,i32_w];rfl
         refine join_ (σ:=Nat) 1 #[τ,τ,τ,τ,τ,τ,τ,τ,τ,τ,τ,τ,τ,τ,τ,τ,τ,τ,τ,τ,τ,τ,φ] (fun s_ => [(29,.int .i64 t370),(33,.int .i64 t372),(37,.int .i64 t374),(8,.pointer (some ⟨s_,0,none⟩)),(42,.agg #[.string a0,.string (rdOf ByteArray.empty t364 0),.int .i64 t370,.int .i64 t372,.int .i64 t374,.bool ((rdOf ByteArray.empty t364 4).toList == ([111,112,101,110]:List UInt8))])]) (fun s_ w'=>(w'.cell? ad368=some (.string (rdOf ByteArray.empty t364 0))∧w'.cell? ⟨ad368.block,ad368.off+1,none⟩=some (.string (rdOf ByteArray.empty t364 1))∧w'.cell? ⟨ad368.block,ad368.off+2,none⟩=some (.string (rdOf ByteArray.empty t364 2))∧w'.cell? ⟨ad368.block,ad368.off+3,none⟩=some (.string (rdOf ByteArray.empty t364 3))∧w'.cell? ⟨ad368.block,ad368.off+4,none⟩=some (.string (rdOf ByteArray.empty t364 4)))∧(Kd.R Kd.string 9 w' w.heap.size (fun _=>True) (.slice (some ad368) t364.length co42) t364)∧(w'.heap[gb363]? = some (.cells #[.string (⟨#[]⟩:ByteArray),.string (⟨#[]⟩:ByteArray),.int .i64 0,.int .i64 0,.int .i64 0,.bool φ] 42 (0,0)))∧(w'.heap[s_]? = some (.cells #[.string (⟨#[]⟩:ByteArray),.string (⟨#[]⟩:ByteArray),.int .i64 0,.int .i64 0,.int .i64 0,.bool φ] 42 (0,0)))∧(w.heap.size≤s_)∧(w.heap.size≤s_)∧(gb363≠s_)∧(s_≠gb363)∧(Below w.heap.size w w')) ?_ ?_
         rotate_left
         ·
          intro hCont
          refine two_ (i:=7) (j:=21) (Ni:=some 29) (Nj:=some 8) #[τ,τ,τ,τ,τ,τ,τ,τ,τ,τ,τ,φ,τ,τ,τ,φ,τ,τ,τ,τ,φ,φ,φ] #[τ,τ,τ,τ,τ,τ,τ,φ,τ,τ,τ,φ,τ,τ,τ,φ,τ,τ,τ,τ,φ,τ,φ] rfl rfl rfl rfl (two_of HT_.out (by kernel_rfl)) (by decide) (by decide) (fun K hK => ?_) (fun K hK => ?_)
          ·
           skip
           refine goes_ Tryd.func84 (by kernel_rfl) rfl #[.string (rdOf ByteArray.empty t364 1)] (by rfl) rfl rfl (by (try simp only [δd,δe,δf]);rfl) ?_
           with_reducible refine (spec_l02Of.calls kj3 (rdOf ByteArray.empty t364 1) t370 _ A13.out).mono ?_
           rintro e w' ⟨rfl,⟨nd,rfl⟩⟩
           refine ⟨_,rfl,?_⟩
           refine hK.out _ _ ⟨hHeld.1,hHeld.2.1,hHeld.2.2.1,hHeld.2.2.2.1,hHeld.2.2.2.2⟩ (fun hHeld => ?_)
           clear hK K
           refine norm_ (a':=?_) ?_ ?_
           rotate_left
           ·
            show ζl _ (some 29) _=_
            simp only [ζl,δa,δb,δc,i64_w,i32_w];rfl
           refine two_ (i:=11) (j:=21) (Ni:=some 33) (Nj:=some 8) #[τ,τ,τ,τ,τ,τ,τ,τ,τ,τ,τ,τ,τ,τ,τ,φ,τ,τ,τ,τ,φ,φ,φ] #[τ,τ,τ,τ,τ,τ,τ,τ,τ,τ,τ,φ,τ,τ,τ,φ,τ,τ,τ,τ,φ,τ,φ] rfl rfl rfl rfl (two_of HT_.out (by kernel_rfl)) (by decide) (by decide) (fun K hK => ?_) (fun K hK => ?_)
           ·
            skip
            refine goes_ Tryd.func84 (by kernel_rfl) rfl #[.string (rdOf ByteArray.empty t364 2)] (by rfl) rfl rfl (by (try simp only [δd,δe,δf]);rfl) ?_
            with_reducible refine (spec_l02Of.calls kj3 (rdOf ByteArray.empty t364 2) t372 _ A15.out).mono ?_
            rintro e w' ⟨rfl,⟨nd,rfl⟩⟩
            refine ⟨_,rfl,?_⟩
            refine hK.out _ _ ⟨hHeld.1,hHeld.2.1,hHeld.2.2.1,hHeld.2.2.2.1,hHeld.2.2.2.2⟩ (fun hHeld => ?_)
            clear hK K
            refine norm_ (a':=?_) ?_ ?_
            rotate_left
            ·
             show ζl _ (some 33) _=_
             simp only [ζl,δa,δb,δc,i64_w,i32_w];rfl
            refine two_ (i:=15) (j:=21) (Ni:=some 37) (Nj:=some 8) #[τ,τ,τ,τ,τ,τ,τ,τ,τ,τ,τ,τ,τ,τ,τ,τ,τ,τ,τ,τ,φ,φ,φ] #[τ,τ,τ,τ,τ,τ,τ,τ,τ,τ,τ,τ,τ,τ,τ,φ,τ,τ,τ,τ,φ,τ,φ] rfl rfl rfl rfl (two_of HT_.out (by kernel_rfl)) (by decide) (by decide) (fun K hK => ?_) (fun K hK => ?_)
            ·
             skip
             refine goes_ Tryd.func84 (by kernel_rfl) rfl #[.string (rdOf ByteArray.empty t364 3)] (by rfl) rfl rfl (by (try simp only [δd,δe,δf]);rfl) ?_
             with_reducible refine (spec_l02Of.calls kj3 (rdOf ByteArray.empty t364 3) t374 _ A17.out).mono ?_
             rintro e w' ⟨rfl,⟨nd,rfl⟩⟩
             refine ⟨_,rfl,?_⟩
             refine hK.out _ _ ⟨hHeld.1,hHeld.2.1,hHeld.2.2.1,hHeld.2.2.2.1,hHeld.2.2.2.2⟩ (fun hHeld => ?_)
             clear hK K
             refine norm_ (a':=?_) ?_ ?_
             rotate_left
             ·
              show ζl _ (some 37) _=_
              simp only [ζl,δa,δb,δc,i64_w,i32_w];rfl
             refine ζk (i:=20) (N:=some 42) (v:=?_) (a':=?_) #[τ,τ,τ,τ,τ,τ,τ,τ,τ,τ,τ,τ,τ,τ,τ,τ,τ,τ,τ,τ,τ,φ,φ] rfl rfl (ζj HT_.out (by kernel_rfl)) (fun _ _ _ h=>h) (Or.inl ⟨by rfl,?_⟩) ?_ ?_
             rotate_left
             · intro w';go_simp;with_reducible rfl
             rotate_left
             · simp only [ζl,δa,δb,δc,i64_w,i32_w];rfl
             refine one_ (i:=21) (N:=some 8) #[τ,τ,τ,τ,τ,τ,τ,τ,τ,τ,τ,τ,τ,τ,τ,τ,τ,τ,τ,τ,τ,τ,φ] rfl rfl (one_of HT_.out (by kernel_rfl)) (by decide) (fun K hK => ?_)
             refine box_step ?hg (N:=8) ?hd (cs:=#[.string (⟨#[]⟩:ByteArray),.string (⟨#[]⟩:ByteArray),.int .i64 0,.int .i64 0,.int .i64 0,.bool φ]) (t:=42) ?hr ?_;(case hd=>rfl);(case hg=>rfl);(case hr=>(go_simp;done))
             intro gb376 hg w43 hbox hb
             have HS0_:=(hb.cell (World.block_lt_of_cell? _ _ (hHeld.1))).trans (hHeld.1)
             have HS1_:=(hb.cell (World.block_lt_of_cell? _ _ (hHeld.2.1))).trans (hHeld.2.1)
             have HS2_:=(hb.cell (World.block_lt_of_cell? _ _ (hHeld.2.2.1))).trans (hHeld.2.2.1)
             have HS3_:=(hb.cell (World.block_lt_of_cell? _ _ (hHeld.2.2.2.1))).trans (hHeld.2.2.2.1)
             have HS4_:=(hb.cell (World.block_lt_of_cell? _ _ (hHeld.2.2.2.2))).trans (hHeld.2.2.2.2)
             have n0_:=ζa (ζh (by (with_reducible repeat (apply ζc));exact HO_6.out) hb)
             have n1_:=ζa (blk_below (g:=gb363) (o:=.cells #[.string (⟨#[]⟩:ByteArray),.string (⟨#[]⟩:ByteArray),.int .i64 0,.int .i64 0,.int .i64 0,.bool φ] 42 (0,0)) (by (with_reducible repeat (refine δn ?_ _));exact BK363.out) hb)
             have n2_:=ζa (δr (by repeat ((with_reducible first|exact HB.out|apply δi))) hb)
             have n3_:=ζa (hbox)
             have n4_:=ζa ((by rw [hg];exact (δs (by repeat ((with_reducible first|exact HB.out|apply δi)))):w.heap.size≤gb376))
             have n5_:=ζa ((by rw [hg];exact (δs (by repeat ((with_reducible first|exact HB.out|apply δi)))):w.heap.size≤gb376))
             have n6_:=ζa ((by rw [hg];exact Nat.ne_of_lt (blk_lt (g:=gb363) (o:=.cells #[.string (⟨#[]⟩:ByteArray),.string (⟨#[]⟩:ByteArray),.int .i64 0,.int .i64 0,.int .i64 0,.bool φ] 42 (0,0)) (by (with_reducible repeat (refine δn ?_ _));exact BK363.out)):gb363≠gb376))
             have n7_:=ζa ((by rw [hg];exact Nat.ne_of_gt (blk_lt (g:=gb363) (o:=.cells #[.string (⟨#[]⟩:ByteArray),.string (⟨#[]⟩:ByteArray),.int .i64 0,.int .i64 0,.int .i64 0,.bool φ] 42 (0,0)) (by (with_reducible repeat (refine δn ?_ _));exact BK363.out)):gb376≠gb363))
             clear HO_6
             clear BK363
             clear HB
             have HO_6:=n0_
             have BK363:=n1_
             have HB:=n2_
             have BK376:=n3_
             have GW376:=n4_
             have GE376:=n5_
             have NB363_376:=n6_
             have NB376_363:=n7_
             clear n0_ n1_ n2_ n3_ n4_ n5_ n6_ n7_
             clear hb hbox hg
             refine hK.out _ _ ⟨HS0_,HS1_,HS2_,HS3_,HS4_⟩ (fun hHeld => ?_)
             clear hK K
             refine norm_ (a':=?_) ?_ ?_
             rotate_left
             ·
              show ζl _ (some 8) _=_
              simp only [ζl,δa,δb,δc,i64_w,i32_w];rfl
             exact norm_ (by simp only [putAll,ζl,δa,δb,δc]) (hCont (gb376) _ ⟨hHeld,(by exact HO_6.out),(by exact BK363.out),(by exact BK376.out),GW376.out,GE376.out,NB363_376.out,NB376_363.out,(by exact HB.out)⟩)
            ·
             skip
             refine box_step ?hg (N:=8) ?hd (cs:=#[.string (⟨#[]⟩:ByteArray),.string (⟨#[]⟩:ByteArray),.int .i64 0,.int .i64 0,.int .i64 0,.bool φ]) (t:=42) ?hr ?_;(case hd=>rfl);(case hg=>rfl);(case hr=>(go_simp;done))
             intro gb376 hg w43 hbox hb
             have HS0_:=(hb.cell (World.block_lt_of_cell? _ _ (hHeld.1))).trans (hHeld.1)
             have HS1_:=(hb.cell (World.block_lt_of_cell? _ _ (hHeld.2.1))).trans (hHeld.2.1)
             have HS2_:=(hb.cell (World.block_lt_of_cell? _ _ (hHeld.2.2.1))).trans (hHeld.2.2.1)
             have HS3_:=(hb.cell (World.block_lt_of_cell? _ _ (hHeld.2.2.2.1))).trans (hHeld.2.2.2.1)
             have HS4_:=(hb.cell (World.block_lt_of_cell? _ _ (hHeld.2.2.2.2))).trans (hHeld.2.2.2.2)
             have n0_:=ζa (ζh (by (with_reducible repeat (apply ζc));exact HO_6.out) hb)
             have n1_:=ζa (blk_below (g:=gb363) (o:=.cells #[.string (⟨#[]⟩:ByteArray),.string (⟨#[]⟩:ByteArray),.int .i64 0,.int .i64 0,.int .i64 0,.bool φ] 42 (0,0)) (by (with_reducible repeat (refine δn ?_ _));exact BK363.out) hb)
             have n2_:=ζa (δr (by repeat ((with_reducible first|exact HB.out|apply δi))) hb)
             have n3_:=ζa (hbox)
             have n4_:=ζa ((by rw [hg];exact (δs (by repeat ((with_reducible first|exact HB.out|apply δi)))):w.heap.size≤gb376))
             have n5_:=ζa ((by rw [hg];exact (δs (by repeat ((with_reducible first|exact HB.out|apply δi)))):w.heap.size≤gb376))
             have n6_:=ζa ((by rw [hg];exact Nat.ne_of_lt (blk_lt (g:=gb363) (o:=.cells #[.string (⟨#[]⟩:ByteArray),.string (⟨#[]⟩:ByteArray),.int .i64 0,.int .i64 0,.int .i64 0,.bool φ] 42 (0,0)) (by (with_reducible repeat (refine δn ?_ _));exact BK363.out)):gb363≠gb376))
             have n7_:=ζa ((by rw [hg];exact Nat.ne_of_gt (blk_lt (g:=gb363) (o:=.cells #[.string (⟨#[]⟩:ByteArray),.string (⟨#[]⟩:ByteArray),.int .i64 0,.int .i64 0,.int .i64 0,.bool φ] 42 (0,0)) (by (with_reducible repeat (refine δn ?_ _));exact BK363.out)):gb376≠gb363))
             clear HO_6
             clear BK363
             clear HB
             have HO_6:=n0_
             have BK363:=n1_
             have HB:=n2_
             have BK376:=n3_
             have GW376:=n4_
             have GE376:=n5_
             have NB363_376:=n6_
             have NB376_363:=n7_
             clear n0_ n1_ n2_ n3_ n4_ n5_ n6_ n7_
             clear hb hbox hg
             refine hK.out _ _ ⟨HS0_,HS1_,HS2_,HS3_,HS4_⟩ (fun hHeld => ?_)
             clear hK K
             refine norm_ (a':=?_) ?_ ?_
             rotate_left
             ·
              show ζl _ (some 8) _=_
              simp only [ζl,δa,δb,δc,i64_w,i32_w];rfl
             refine one_ (i:=15) (N:=some 37) #[τ,τ,τ,τ,τ,τ,τ,τ,τ,τ,τ,τ,τ,τ,τ,τ,τ,τ,τ,τ,φ,τ,φ] rfl rfl (one_of HT_.out (by kernel_rfl)) (by decide) (fun K hK => ?_)
             refine goes_ Tryd.func84 (by kernel_rfl) rfl #[.string (rdOf ByteArray.empty t364 3)] (by rfl) rfl rfl (by (try simp only [δd,δe,δf]);rfl) ?_
             with_reducible refine (spec_l02Of.calls kj3 (rdOf ByteArray.empty t364 3) t374 _ A17.out).mono ?_
             rintro e w' ⟨rfl,⟨nd,rfl⟩⟩
             refine ⟨_,rfl,?_⟩
             refine hK.out _ _ ⟨hHeld.1,hHeld.2.1,hHeld.2.2.1,hHeld.2.2.2.1,hHeld.2.2.2.2⟩ (fun hHeld => ?_)
             clear hK K
             refine norm_ (a':=?_) ?_ ?_
             rotate_left
             ·
              show ζl _ (some 37) _=_
              simp only [ζl,δa,δb,δc,i64_w,i32_w];rfl
             refine ζk (i:=20) (N:=some 42) (v:=?_) (a':=?_) #[τ,τ,τ,τ,τ,τ,τ,τ,τ,τ,τ,τ,τ,τ,τ,τ,τ,τ,τ,τ,τ,τ,φ] rfl rfl (ζj HT_.out (by kernel_rfl)) (fun _ _ _ h=>h) (Or.inl ⟨by rfl,?_⟩) ?_ ?_
             rotate_left
             · intro w';go_simp;with_reducible rfl
             rotate_left
             · simp only [ζl,δa,δb,δc,i64_w,i32_w];rfl
             exact norm_ (by simp only [putAll,ζl,δa,δb,δc]) (hCont (gb376) _ ⟨hHeld,(by (with_reducible repeat (apply ζc));exact HO_6.out),(by (with_reducible repeat (refine δn ?_ _));exact BK363.out),(by (with_reducible repeat (refine δn ?_ _));exact BK376.out),GW376.out,GE376.out,NB363_376.out,NB376_363.out,(by repeat ((with_reducible first|exact HB.out|apply δi)))⟩)
           ·
            skip
            refine box_step ?hg (N:=8) ?hd (cs:=#[.string (⟨#[]⟩:ByteArray),.string (⟨#[]⟩:ByteArray),.int .i64 0,.int .i64 0,.int .i64 0,.bool φ]) (t:=42) ?hr ?_;(case hd=>rfl);(case hg=>rfl);(case hr=>(go_simp;done))
            intro gb376 hg w43 hbox hb
            have HS0_:=(hb.cell (World.block_lt_of_cell? _ _ (hHeld.1))).trans (hHeld.1)
            have HS1_:=(hb.cell (World.block_lt_of_cell? _ _ (hHeld.2.1))).trans (hHeld.2.1)
            have HS2_:=(hb.cell (World.block_lt_of_cell? _ _ (hHeld.2.2.1))).trans (hHeld.2.2.1)
            have HS3_:=(hb.cell (World.block_lt_of_cell? _ _ (hHeld.2.2.2.1))).trans (hHeld.2.2.2.1)
            have HS4_:=(hb.cell (World.block_lt_of_cell? _ _ (hHeld.2.2.2.2))).trans (hHeld.2.2.2.2)
            have n0_:=ζa (ζh (by (with_reducible repeat (apply ζc));exact HO_6.out) hb)
            have n1_:=ζa (blk_below (g:=gb363) (o:=.cells #[.string (⟨#[]⟩:ByteArray),.string (⟨#[]⟩:ByteArray),.int .i64 0,.int .i64 0,.int .i64 0,.bool φ] 42 (0,0)) (by (with_reducible repeat (refine δn ?_ _));exact BK363.out) hb)
            have n2_:=ζa (δr (by repeat ((with_reducible first|exact HB.out|apply δi))) hb)
            have n3_:=ζa (hbox)
            have n4_:=ζa ((by rw [hg];exact (δs (by repeat ((with_reducible first|exact HB.out|apply δi)))):w.heap.size≤gb376))
            have n5_:=ζa ((by rw [hg];exact (δs (by repeat ((with_reducible first|exact HB.out|apply δi)))):w.heap.size≤gb376))
            have n6_:=ζa ((by rw [hg];exact Nat.ne_of_lt (blk_lt (g:=gb363) (o:=.cells #[.string (⟨#[]⟩:ByteArray),.string (⟨#[]⟩:ByteArray),.int .i64 0,.int .i64 0,.int .i64 0,.bool φ] 42 (0,0)) (by (with_reducible repeat (refine δn ?_ _));exact BK363.out)):gb363≠gb376))
            have n7_:=ζa ((by rw [hg];exact Nat.ne_of_gt (blk_lt (g:=gb363) (o:=.cells #[.string (⟨#[]⟩:ByteArray),.string (⟨#[]⟩:ByteArray),.int .i64 0,.int .i64 0,.int .i64 0,.bool φ] 42 (0,0)) (by (with_reducible repeat (refine δn ?_ _));exact BK363.out)):gb376≠gb363))
            clear HO_6
            clear BK363
            clear HB
            have HO_6:=n0_
            have BK363:=n1_
            have HB:=n2_
            have BK376:=n3_
            have GW376:=n4_
            have GE376:=n5_
            have NB363_376:=n6_
            have NB376_363:=n7_
            clear n0_ n1_ n2_ n3_ n4_ n5_ n6_ n7_
            clear hb hbox hg
            refine hK.out _ _ ⟨HS0_,HS1_,HS2_,HS3_,HS4_⟩ (fun hHeld => ?_)
            clear hK K
            refine norm_ (a':=?_) ?_ ?_
            rotate_left
            ·
             show ζl _ (some 8) _=_
             simp only [ζl,δa,δb,δc,i64_w,i32_w];rfl
            refine one_ (i:=11) (N:=some 33) #[τ,τ,τ,τ,τ,τ,τ,τ,τ,τ,τ,τ,τ,τ,τ,φ,τ,τ,τ,τ,φ,τ,φ] rfl rfl (one_of HT_.out (by kernel_rfl)) (by decide) (fun K hK => ?_)
            refine goes_ Tryd.func84 (by kernel_rfl) rfl #[.string (rdOf ByteArray.empty t364 2)] (by rfl) rfl rfl (by (try simp only [δd,δe,δf]);rfl) ?_
            with_reducible refine (spec_l02Of.calls kj3 (rdOf ByteArray.empty t364 2) t372 _ A15.out).mono ?_
            rintro e w' ⟨rfl,⟨nd,rfl⟩⟩
            refine ⟨_,rfl,?_⟩
            refine hK.out _ _ ⟨hHeld.1,hHeld.2.1,hHeld.2.2.1,hHeld.2.2.2.1,hHeld.2.2.2.2⟩ (fun hHeld => ?_)
            clear hK K
            refine norm_ (a':=?_) ?_ ?_
            rotate_left
            ·
             show ζl _ (some 33) _=_
             simp only [ζl,δa,δb,δc,i64_w,i32_w];rfl
            refine one_ (i:=15) (N:=some 37) #[τ,τ,τ,τ,τ,τ,τ,τ,τ,τ,τ,τ,τ,τ,τ,τ,τ,τ,τ,τ,φ,τ,φ] rfl rfl (one_of HT_.out (by kernel_rfl)) (by decide) (fun K hK => ?_)
            refine goes_ Tryd.func84 (by kernel_rfl) rfl #[.string (rdOf ByteArray.empty t364 3)] (by rfl) rfl rfl (by (try simp only [δd,δe,δf]);rfl) ?_
            with_reducible refine (spec_l02Of.calls kj3 (rdOf ByteArray.empty t364 3) t374 _ A17.out).mono ?_
            rintro e w' ⟨rfl,⟨nd,rfl⟩⟩
            refine ⟨_,rfl,?_⟩
            refine hK.out _ _ ⟨hHeld.1,hHeld.2.1,hHeld.2.2.1,hHeld.2.2.2.1,hHeld.2.2.2.2⟩ (fun hHeld => ?_)
            clear hK K
            refine norm_ (a':=?_) ?_ ?_
            rotate_left
            ·
             show ζl _ (some 37) _=_
             simp only [ζl,δa,δb,δc,i64_w,i32_w];rfl
            refine ζk (i:=20) (N:=some 42) (v:=?_) (a':=?_) #[τ,τ,τ,τ,τ,τ,τ,τ,τ,τ,τ,τ,τ,τ,τ,τ,τ,τ,τ,τ,τ,τ,φ] rfl rfl (ζj HT_.out (by kernel_rfl)) (fun _ _ _ h=>h) (Or.inl ⟨by rfl,?_⟩) ?_ ?_
            rotate_left
            · intro w';go_simp;with_reducible rfl
            rotate_left
            · simp only [ζl,δa,δb,δc,i64_w,i32_w];rfl
            exact norm_ (by simp only [putAll,ζl,δa,δb,δc]) (hCont (gb376) _ ⟨hHeld,(by (with_reducible repeat (apply ζc));exact HO_6.out),(by (with_reducible repeat (refine δn ?_ _));exact BK363.out),(by (with_reducible repeat (refine δn ?_ _));exact BK376.out),GW376.out,GE376.out,NB363_376.out,NB376_363.out,(by repeat ((with_reducible first|exact HB.out|apply δi)))⟩)
          ·
           skip
           refine box_step ?hg (N:=8) ?hd (cs:=#[.string (⟨#[]⟩:ByteArray),.string (⟨#[]⟩:ByteArray),.int .i64 0,.int .i64 0,.int .i64 0,.bool φ]) (t:=42) ?hr ?_;(case hd=>rfl);(case hg=>rfl);(case hr=>(go_simp;done))
           intro gb376 hg w43 hbox hb
           have HS0_:=(hb.cell (World.block_lt_of_cell? _ _ (hHeld.1))).trans (hHeld.1)
           have HS1_:=(hb.cell (World.block_lt_of_cell? _ _ (hHeld.2.1))).trans (hHeld.2.1)
           have HS2_:=(hb.cell (World.block_lt_of_cell? _ _ (hHeld.2.2.1))).trans (hHeld.2.2.1)
           have HS3_:=(hb.cell (World.block_lt_of_cell? _ _ (hHeld.2.2.2.1))).trans (hHeld.2.2.2.1)
           have HS4_:=(hb.cell (World.block_lt_of_cell? _ _ (hHeld.2.2.2.2))).trans (hHeld.2.2.2.2)
           have n0_:=ζa (ζh (by exact HO_6.out) hb)
           have n1_:=ζa (blk_below (g:=gb363) (o:=.cells #[.string (⟨#[]⟩:ByteArray),.string (⟨#[]⟩:ByteArray),.int .i64 0,.int .i64 0,.int .i64 0,.bool φ] 42 (0,0)) (by exact BK363.out) hb)
           have n2_:=ζa (δr (by exact HB.out) hb)
           have n3_:=ζa (hbox)
           have n4_:=ζa ((by rw [hg];exact (δs (by exact HB.out)):w.heap.size≤gb376))
           have n5_:=ζa ((by rw [hg];exact (δs (by exact HB.out)):w.heap.size≤gb376))
           have n6_:=ζa ((by rw [hg];exact Nat.ne_of_lt (blk_lt (g:=gb363) (o:=.cells #[.string (⟨#[]⟩:ByteArray),.string (⟨#[]⟩:ByteArray),.int .i64 0,.int .i64 0,.int .i64 0,.bool φ] 42 (0,0)) (by exact BK363.out)):gb363≠gb376))
           have n7_:=ζa ((by rw [hg];exact Nat.ne_of_gt (blk_lt (g:=gb363) (o:=.cells #[.string (⟨#[]⟩:ByteArray),.string (⟨#[]⟩:ByteArray),.int .i64 0,.int .i64 0,.int .i64 0,.bool φ] 42 (0,0)) (by exact BK363.out)):gb376≠gb363))
           clear HO_6
           clear BK363
           clear HB
           have HO_6:=n0_
           have BK363:=n1_
           have HB:=n2_
           have BK376:=n3_
           have GW376:=n4_
           have GE376:=n5_
           have NB363_376:=n6_
           have NB376_363:=n7_
           clear n0_ n1_ n2_ n3_ n4_ n5_ n6_ n7_
           clear hb hbox hg
           refine hK.out _ _ ⟨HS0_,HS1_,HS2_,HS3_,HS4_⟩ (fun hHeld => ?_)
           clear hK K
           refine norm_ (a':=?_) ?_ ?_
           rotate_left
           ·
            show ζl _ (some 8) _=_
            simp only [ζl,δa,δb,δc,i64_w,i32_w];rfl
           refine one_ (i:=7) (N:=some 29) #[τ,τ,τ,τ,τ,τ,τ,τ,τ,τ,τ,φ,τ,τ,τ,φ,τ,τ,τ,τ,φ,τ,φ] rfl rfl (one_of HT_.out (by kernel_rfl)) (by decide) (fun K hK => ?_)
           refine goes_ Tryd.func84 (by kernel_rfl) rfl #[.string (rdOf ByteArray.empty t364 1)] (by rfl) rfl rfl (by (try simp only [δd,δe,δf]);rfl) ?_
           with_reducible refine (spec_l02Of.calls kj3 (rdOf ByteArray.empty t364 1) t370 _ A13.out).mono ?_
           rintro e w' ⟨rfl,⟨nd,rfl⟩⟩
           refine ⟨_,rfl,?_⟩
           refine hK.out _ _ ⟨hHeld.1,hHeld.2.1,hHeld.2.2.1,hHeld.2.2.2.1,hHeld.2.2.2.2⟩ (fun hHeld => ?_)
           clear hK K
           refine norm_ (a':=?_) ?_ ?_
           rotate_left
           ·
            show ζl _ (some 29) _=_
            simp only [ζl,δa,δb,δc,i64_w,i32_w];rfl
           refine one_ (i:=11) (N:=some 33) #[τ,τ,τ,τ,τ,τ,τ,τ,τ,τ,τ,τ,τ,τ,τ,φ,τ,τ,τ,τ,φ,τ,φ] rfl rfl (one_of HT_.out (by kernel_rfl)) (by decide) (fun K hK => ?_)
           refine goes_ Tryd.func84 (by kernel_rfl) rfl #[.string (rdOf ByteArray.empty t364 2)] (by rfl) rfl rfl (by (try simp only [δd,δe,δf]);rfl) ?_
           with_reducible refine (spec_l02Of.calls kj3 (rdOf ByteArray.empty t364 2) t372 _ A15.out).mono ?_
           rintro e w' ⟨rfl,⟨nd,rfl⟩⟩
           refine ⟨_,rfl,?_⟩
           refine hK.out _ _ ⟨hHeld.1,hHeld.2.1,hHeld.2.2.1,hHeld.2.2.2.1,hHeld.2.2.2.2⟩ (fun hHeld => ?_)
           clear hK K
           refine norm_ (a':=?_) ?_ ?_
           rotate_left
           ·
            show ζl _ (some 33) _=_
            simp only [ζl,δa,δb,δc,i64_w,i32_w];rfl
           refine one_ (i:=15) (N:=some 37) #[τ,τ,τ,τ,τ,τ,τ,τ,τ,τ,τ,τ,τ,τ,τ,τ,τ,τ,τ,τ,φ,τ,φ] rfl rfl (one_of HT_.out (by kernel_rfl)) (by decide) (fun K hK => ?_)
           refine goes_ Tryd.func84 (by kernel_rfl) rfl #[.string (rdOf ByteArray.empty t364 3)] (by rfl) rfl rfl (by (try simp only [δd,δe,δf]);rfl) ?_
           with_reducible refine (spec_l02Of.calls kj3 (rdOf ByteArray.empty t364 3) t374 _ A17.out).mono ?_
           rintro e w' ⟨rfl,⟨nd,rfl⟩⟩
           refine ⟨_,rfl,?_⟩
           refine hK.out _ _ ⟨hHeld.1,hHeld.2.1,hHeld.2.2.1,hHeld.2.2.2.1,hHeld.2.2.2.2⟩ (fun hHeld => ?_)
           clear hK K
           refine norm_ (a':=?_) ?_ ?_
           rotate_left
           ·
            show ζl _ (some 37) _=_
            simp only [ζl,δa,δb,δc,i64_w,i32_w];rfl
           refine ζk (i:=20) (N:=some 42) (v:=?_) (a':=?_) #[τ,τ,τ,τ,τ,τ,τ,τ,τ,τ,τ,τ,τ,τ,τ,τ,τ,τ,τ,τ,τ,τ,φ] rfl rfl (ζj HT_.out (by kernel_rfl)) (fun _ _ _ h=>h) (Or.inl ⟨by rfl,?_⟩) ?_ ?_
           rotate_left
           · intro w';go_simp;with_reducible rfl
           rotate_left
           · simp only [ζl,δa,δb,δc,i64_w,i32_w];rfl
           exact norm_ (by simp only [putAll,ζl,δa,δb,δc]) (hCont (gb376) _ ⟨hHeld,(by (with_reducible repeat (apply ζc));exact HO_6.out),(by (with_reducible repeat (refine δn ?_ _));exact BK363.out),(by (with_reducible repeat (refine δn ?_ _));exact BK376.out),GW376.out,GE376.out,NB363_376.out,NB376_363.out,(by repeat ((with_reducible first|exact HB.out|apply δi)))⟩)
         rintro gb376 w44 ⟨hS_,h0_,h1_,h2_,h3_,h4_,h5_,h6_,h7_⟩
         have n0_:Aside0 (Kd.R Kd.string 9 w44 w.heap.size (fun _=>True) (.slice (some ad368) t364.length co42) t364):=⟨h0_⟩
         have n1_:Aside0 (w44.heap[gb363]? = some (.cells #[.string (⟨#[]⟩:ByteArray),.string (⟨#[]⟩:ByteArray),.int .i64 0,.int .i64 0,.int .i64 0,.bool φ] 42 (0,0))):=⟨h1_⟩
         have n2_:Aside0 (w44.heap[gb376]? = some (.cells #[.string (⟨#[]⟩:ByteArray),.string (⟨#[]⟩:ByteArray),.int .i64 0,.int .i64 0,.int .i64 0,.bool φ] 42 (0,0))):=⟨h2_⟩
         have n3_:Aside0 (w.heap.size≤gb376):=⟨h3_⟩
         have n4_:Aside0 (w.heap.size≤gb376):=⟨h4_⟩
         have n5_:Aside0 (gb363≠gb376):=⟨h5_⟩
         have n6_:Aside0 (gb376≠gb363):=⟨h6_⟩
         have n7_:Aside0 (Below w.heap.size w w44):=⟨h7_⟩
         clear HO_6
         clear BK363
         clear HB
         clear h0_ h1_ h2_ h3_ h4_ h5_ h6_ h7_
         have HO_6:=n0_
         have BK363:=n1_
         have BK376:=n2_
         have GW376:=n3_
         have GE376:=n4_
         have NB363_376:=n5_
         have NB376_363:=n6_
         have HB:=n7_
         clear n0_ n1_ n2_ n3_ n4_ n5_ n6_ n7_
         have hHeld:w44.cell? ad368=some (.string (rdOf ByteArray.empty t364 0))∧w44.cell? ⟨ad368.block,ad368.off+1,none⟩=some (.string (rdOf ByteArray.empty t364 1))∧w44.cell? ⟨ad368.block,ad368.off+2,none⟩=some (.string (rdOf ByteArray.empty t364 2))∧w44.cell? ⟨ad368.block,ad368.off+3,none⟩=some (.string (rdOf ByteArray.empty t364 3))∧w44.cell? ⟨ad368.block,ad368.off+4,none⟩=some (.string (rdOf ByteArray.empty t364 4)):=hS_
         refine norm_ (a':=?_) ?_ ?_
         rotate_left
         · simp only [putAll,ζl,δa,δb,δc];rfl
         refine one_ (i:=22) (N:=none) #[τ,τ,τ,τ,τ,τ,τ,τ,τ,τ,τ,τ,τ,τ,τ,τ,τ,τ,τ,τ,τ,τ,τ] rfl rfl (one_of HT_.out (by kernel_rfl)) (by decide) (fun K hK => ?_)
         have hs45:w44.cell? ⟨gb376,0,none⟩=some (.string (⟨#[]⟩:ByteArray)):=(δl BK376.out 0).trans rfl
         have hfs45:=δm BK376.out 0
         have hns45_0:=NB363_376.out
         have hms45_0:=NB376_363.out
         have hs46:w44.cell? ⟨gb376,1,none⟩=some (.string (⟨#[]⟩:ByteArray)):=(δl BK376.out 1).trans rfl
         have hfs46:=δm BK376.out 1
         have hns46_0:=NB363_376.out
         have hms46_0:=NB376_363.out
         have hs47:w44.cell? ⟨gb376,2,none⟩=some (.int .i64 0):=(δl BK376.out 2).trans rfl
         have hfs47:=δm BK376.out 2
         have hns47_0:=NB363_376.out
         have hms47_0:=NB376_363.out
         have hs48:w44.cell? ⟨gb376,3,none⟩=some (.int .i64 0):=(δl BK376.out 3).trans rfl
         have hfs48:=δm BK376.out 3
         have hns48_0:=NB363_376.out
         have hms48_0:=NB376_363.out
         have hs49:w44.cell? ⟨gb376,4,none⟩=some (.int .i64 0):=(δl BK376.out 4).trans rfl
         have hfs49:=δm BK376.out 4
         have hns49_0:=NB363_376.out
         have hms49_0:=NB376_363.out
         have hs50:w44.cell? ⟨gb376,5,none⟩=some (.bool φ):=(δl BK376.out 5).trans rfl
         have hfs50:=δm BK376.out 5
         have hns50_0:=NB363_376.out
         have hms50_0:=NB376_363.out
         refine skip_ (w1:=?_) (by rfl) rfl ?_ ?_
         rotate_left
         ·
          go_simp
          rfl
         refine hK.out _ _ ⟨(spec_l09Read.far6 (g:=gb376) (fun e_=>ζf HO_6.out BK376.out (by decide) (by rw [← e_];rfl)) _ _ _ _ _ _).trans hHeld.1,(spec_l09Read.far6 (g:=gb376) (fun e_=>ζf HO_6.out BK376.out (by decide) (by rw [← e_];rfl)) _ _ _ _ _ _).trans hHeld.2.1,(spec_l09Read.far6 (g:=gb376) (fun e_=>ζf HO_6.out BK376.out (by decide) (by rw [← e_];rfl)) _ _ _ _ _ _).trans hHeld.2.2.1,(spec_l09Read.far6 (g:=gb376) (fun e_=>ζf HO_6.out BK376.out (by decide) (by rw [← e_];rfl)) _ _ _ _ _ _).trans hHeld.2.2.2.1,(spec_l09Read.far6 (g:=gb376) (fun e_=>ζf HO_6.out BK376.out (by decide) (by rw [← e_];rfl)) _ _ _ _ _ _).trans hHeld.2.2.2.2⟩ (fun hHeld => ?_)
         clear hK K
         refine done_ (done_of HT_.out (by kernel_rfl)) ?_
         try go_wp2
         have n0_:Aside0 (Kd.R Kd.string 9 ((((((w44.setCell ⟨gb376,0,none⟩ (.string a0)).setCell ⟨gb376,1,none⟩ (.string (rdOf ByteArray.empty t364 0))).setCell ⟨gb376,2,none⟩ (.int .i64 t370)).setCell ⟨gb376,3,none⟩ (.int .i64 t372)).setCell ⟨gb376,4,none⟩ (.int .i64 t374)).setCell ⟨gb376,5,none⟩ (.bool ((rdOf ByteArray.empty t364 4).toList == ([111,112,101,110]:List UInt8)))) w.heap.size (fun _=>True) (.slice (some ad368) t364.length co42) t364):=⟨by exact Kd.R_mono (ζi (p:=⟨gb376,5,none⟩) (ζi (p:=⟨gb376,4,none⟩) (ζi (p:=⟨gb376,3,none⟩) (ζi (p:=⟨gb376,2,none⟩) (ζi (p:=⟨gb376,1,none⟩) (ζi (p:=⟨gb376,0,none⟩) (Kd.R_types HO_6.out BK376.out (by decide)) (fun _ hk=>hk.2) (.string a0)) (fun _ hk=>hk.2) (.string (rdOf ByteArray.empty t364 0))) (fun _ hk=>hk.2) (.int .i64 t370)) (fun _ hk=>hk.2) (.int .i64 t372)) (fun _ hk=>hk.2) (.int .i64 t374)) (fun _ hk=>hk.2) (.bool ((rdOf ByteArray.empty t364 4).toList == ([111,112,101,110]:List UInt8)))) (fun _ hk=>trivial)⟩
         have n1_:Aside0 (((((((w44.setCell ⟨gb376,0,none⟩ (.string a0)).setCell ⟨gb376,1,none⟩ (.string (rdOf ByteArray.empty t364 0))).setCell ⟨gb376,2,none⟩ (.int .i64 t370)).setCell ⟨gb376,3,none⟩ (.int .i64 t372)).setCell ⟨gb376,4,none⟩ (.int .i64 t374)).setCell ⟨gb376,5,none⟩ (.bool ((rdOf ByteArray.empty t364 4).toList == ([111,112,101,110]:List UInt8)))).heap[gb363]? = some (.cells #[.string (⟨#[]⟩:ByteArray),.string (⟨#[]⟩:ByteArray),.int .i64 0,.int .i64 0,.int .i64 0,.bool φ] 42 (0,0))):=⟨by refine blk_far ?_ NB363_376.out _;refine blk_far ?_ NB363_376.out _;refine blk_far ?_ NB363_376.out _;refine blk_far ?_ NB363_376.out _;refine blk_far ?_ NB363_376.out _;refine blk_far ?_ NB363_376.out _;exact BK363.out⟩
         have n2_:Aside0 (((((((w44.setCell ⟨gb376,0,none⟩ (.string a0)).setCell ⟨gb376,1,none⟩ (.string (rdOf ByteArray.empty t364 0))).setCell ⟨gb376,2,none⟩ (.int .i64 t370)).setCell ⟨gb376,3,none⟩ (.int .i64 t372)).setCell ⟨gb376,4,none⟩ (.int .i64 t374)).setCell ⟨gb376,5,none⟩ (.bool ((rdOf ByteArray.empty t364 4).toList == ([111,112,101,110]:List UInt8)))).heap[gb376]? = some (.cells #[.string a0,.string (rdOf ByteArray.empty t364 0),.int .i64 t370,.int .i64 t372,.int .i64 t374,.bool ((rdOf ByteArray.empty t364 4).toList == ([111,112,101,110]:List UInt8))] 42 (0,0))):=⟨by refine δw (cs:=#[.string a0,.string (rdOf ByteArray.empty t364 0),.int .i64 t370,.int .i64 t372,.int .i64 t374,.bool φ]) ?_ 5 _ rfl;refine δw (cs:=#[.string a0,.string (rdOf ByteArray.empty t364 0),.int .i64 t370,.int .i64 t372,.int .i64 0,.bool φ]) ?_ 4 _ rfl;refine δw (cs:=#[.string a0,.string (rdOf ByteArray.empty t364 0),.int .i64 t370,.int .i64 0,.int .i64 0,.bool φ]) ?_ 3 _ rfl;refine δw (cs:=#[.string a0,.string (rdOf ByteArray.empty t364 0),.int .i64 0,.int .i64 0,.int .i64 0,.bool φ]) ?_ 2 _ rfl;refine δw (cs:=#[.string a0,.string (⟨#[]⟩:ByteArray),.int .i64 0,.int .i64 0,.int .i64 0,.bool φ]) ?_ 1 _ rfl;refine δw (cs:=#[.string (⟨#[]⟩:ByteArray),.string (⟨#[]⟩:ByteArray),.int .i64 0,.int .i64 0,.int .i64 0,.bool φ]) ?_ 0 _ rfl;exact BK376.out⟩
         have n3_:Aside0 (Below w.heap.size w ((((((w44.setCell ⟨gb376,0,none⟩ (.string a0)).setCell ⟨gb376,1,none⟩ (.string (rdOf ByteArray.empty t364 0))).setCell ⟨gb376,2,none⟩ (.int .i64 t370)).setCell ⟨gb376,3,none⟩ (.int .i64 t372)).setCell ⟨gb376,4,none⟩ (.int .i64 t374)).setCell ⟨gb376,5,none⟩ (.bool ((rdOf ByteArray.empty t364 4).toList == ([111,112,101,110]:List UInt8))))):=⟨by repeat ((with_reducible first|exact HB.out|refine δq ?_ GE376.out))⟩
         (try clear HO_6)
         (try clear BK363)
         (try clear BK376)
         (try clear HB)
         generalize ((((((w44.setCell ⟨gb376,0,none⟩ (.string a0)).setCell ⟨gb376,1,none⟩ (.string (rdOf ByteArray.empty t364 0))).setCell ⟨gb376,2,none⟩ (.int .i64 t370)).setCell ⟨gb376,3,none⟩ (.int .i64 t372)).setCell ⟨gb376,4,none⟩ (.int .i64 t374)).setCell ⟨gb376,5,none⟩ (.bool ((rdOf ByteArray.empty t364 4).toList == ([111,112,101,110]:List UInt8))))=w51 at n0_ n1_ n2_ n3_ ⊢
         have HO_6:=n0_
         have BK363:=n1_
         have BK376:=n2_
         have HB:=n3_
         clear n0_ n1_ n2_ n3_
         have n0_:=ζa (ζe HO_6.out)
         have n1_:=ζa (δp BK363.out)
         have n2_:=ζa (δp BK376.out)
         have n3_:=ζa (δj HB.out)
         clear HO_6
         clear BK363
         clear BK376
         clear HB
         have HO_6:=n0_
         have BK363:=n1_
         have BK376:=n2_
         have HB:=n3_
         clear n0_ n1_ n2_ n3_
         have p378:0≤(4:Int):=(by omega)
         have q378:4<(t364.length:Int):=of_decide_eq_true (by (with_reducible assumption))
         obtain ⟨ad378,e378,hx378_0⟩:=Kd.at_string (ζg HO_6.out).2.2 4 p378 q378
         obtain rfl:ad368=ad378:=(by injection e378)
         (try simp only [show (4:Int).toNat=4 from rfl,Nat.reduceMul,Nat.reduceEqDiff,Go.Addr.add,↓reduceIte] at hx378_0)
         have qi378:(4<t364.length)=True:=eq_true (by omega)
         (try rw [show ((4:Int)).toNat=4 from rfl] at hx378_0)
         replace p378:=eq_true p378
         replace q378:=eq_true q378
         by_cases c20:t377=τ
         ·
          subst c20
          have H1:(if (rdOf ByteArray.empty t364 4).toList=([111,112,101,110]:List UInt8) then (some (a0,rdOf ByteArray.empty t364 0,t370,t372,t374,((rdOf ByteArray.empty t364 4).toList == ([111,112,101,110]:List UInt8)),τ)) else (some (a0,rdOf ByteArray.empty t364 0,t370,t372,t374,((rdOf ByteArray.empty t364 4).toList == ([111,112,101,110]:List UInt8)),((rdOf ByteArray.empty t364 4).toList == ([99,108,111,115,101,100]:List UInt8)))))=some (r1,r2,r3,r4,r5,r6,r7):=by rw [if_pos rfl] at H;exact H
          clear H
          have H:=H1
          clear H1
          by_cases c21:(rdOf ByteArray.empty t364 4).toList=([111,112,101,110]:List UInt8)
          ·
           rw [if_pos c21] at H
           have c21b0:((rdOf ByteArray.empty t364 4).toList == ([111,112,101,110]:List UInt8))=τ:=beq_iff_eq.mpr c21
           have c21b1:((rdOf ByteArray.empty t364 4).toList != ([111,112,101,110]:List UInt8))=φ:=bne_eq_false_iff_eq.mpr c21
           clear c21
           simp only [Option.some.injEq,Prod.mk.injEq] at H
           obtain ⟨rfl,rfl,rfl,rfl,rfl,rfl,rfl⟩:=H
           have C21B0_:=ζa c21b0
           clear c21b0
           have C21B1_:=ζa c21b1
           clear c21b1
           refine start_ (n:=15) (S:=fun w'=>w'.cell? ⟨gb376,0,none⟩=some (.string a0)∧w'.cell? ⟨gb376,1,none⟩=some (.string (rdOf ByteArray.empty t364 0))∧w'.cell? ⟨gb376,2,none⟩=some (.int .i64 t370)∧w'.cell? ⟨gb376,3,none⟩=some (.int .i64 t372)∧w'.cell? ⟨gb376,4,none⟩=some (.int .i64 t374)∧w'.cell? ⟨gb376,5,none⟩=some (.bool ((rdOf ByteArray.empty t364 4).toList == ([111,112,101,110]:List UInt8)))) (ds:=[]) #[φ,φ,φ,φ,φ,φ,φ,φ,φ,φ,φ,φ,φ,φ,φ] (by kernel_rfl) rfl rfl ⟨(δl BK376.out 0).trans rfl,(δl BK376.out 1).trans rfl,(δl BK376.out 2).trans rfl,(δl BK376.out 3).trans rfl,(δl BK376.out 4).trans rfl,(δl BK376.out 5).trans rfl⟩ (fun hHeld => ?_);refine with_tabW spec_l09Read.tab5 spec_l09Read.bits5 (fun HT_ HW_ => ?_)
           generalize w51.drew=w33 at HO_6 BK363 BK376 HB hHeld ⊢
           refine take_ (i:=0) (N:=some 43) (v:=?_) (a':=?_) #[τ,φ,φ,φ,φ,φ,φ,φ,φ,φ,φ,φ,φ,φ,φ] rfl rfl (take_ofW HT_.out HW_.out (by kernel_rfl)) (fun _ _ _ h=>h) (Or.inl ⟨by rfl,?_⟩) hHeld ?_ ?_
           rotate_left
           · rintro w' ⟨s0,s1,s2,s3,s4,s5⟩;go_simp;with_reducible rfl
           rotate_left
           · simp only [ζl,δa,δb,δc,i64_w,i32_w];rfl
           refine take_ (i:=1) (N:=some 44) (v:=?_) (a':=?_) #[τ,τ,φ,φ,φ,φ,φ,φ,φ,φ,φ,φ,φ,φ,φ] rfl rfl (take_ofW HT_.out HW_.out (by kernel_rfl)) (fun _ _ _ h=>h) (Or.inl ⟨by rfl,?_⟩) hHeld ?_ ?_
           rotate_left
           · rintro w' ⟨s0,s1,s2,s3,s4,s5⟩;go_simp;with_reducible rfl
           rotate_left
           · simp only [ζl,δa,δb,δc,i64_w,i32_w];rfl
           refine one_ (i:=2) (N:=some 45) #[τ,τ,τ,φ,φ,φ,φ,φ,φ,φ,φ,φ,φ,φ,φ] rfl rfl (one_of HT_.out (by kernel_rfl)) (by decide) (fun K hK => ?_)
           refine goes_ Tryd.func130 (by kernel_rfl) rfl #[.agg #[.string a0,.string (rdOf ByteArray.empty t364 0),.int .i64 t370,.int .i64 t372,.int .i64 t374,.bool ((rdOf ByteArray.empty t364 4).toList == ([111,112,101,110]:List UInt8))]] (by rfl) rfl rfl (by (try simp only [δd,δe,δf]);rfl) ?_
           with_reducible refine (spec_OrderOK.calls kj3 a0 (rdOf ByteArray.empty t364 0) t370 t372 t374 ((rdOf ByteArray.empty t364 4).toList == ([111,112,101,110]:List UInt8)) τ _ A19.out).mono ?_
           rintro e w34 ⟨rfl,hb⟩
           have c21b0:=C21B0_.out
           have c21b1:=C21B1_.out
           refine ⟨_,rfl,?_⟩
           have n0_:=ζa (ζh (by exact HO_6.out) hb)
           have n1_:=ζa (blk_below (g:=gb363) (o:=.cells #[.string (⟨#[]⟩:ByteArray),.string (⟨#[]⟩:ByteArray),.int .i64 0,.int .i64 0,.int .i64 0,.bool φ] 42 (0,0)) (by exact BK363.out) hb)
           have n2_:=ζa (blk_below (g:=gb376) (o:=.cells #[.string a0,.string (rdOf ByteArray.empty t364 0),.int .i64 t370,.int .i64 t372,.int .i64 t374,.bool ((rdOf ByteArray.empty t364 4).toList == ([111,112,101,110]:List UInt8))] 42 (0,0)) (by exact BK376.out) hb)
           have n3_:=ζa (δr (by exact HB.out) hb)
           clear HO_6
           clear BK363
           clear BK376
           clear HB
           have HO_6:=n0_
           have BK363:=n1_
           have BK376:=n2_
           have HB:=n3_
           clear n0_ n1_ n2_ n3_
           (try clear hb)
           (try clear hb2)
           (try clear hk)
           (try clear hi)
           refine hK.out _ _ ⟨(δl BK376.out 0).trans rfl,(δl BK376.out 1).trans rfl,(δl BK376.out 2).trans rfl,(δl BK376.out 3).trans rfl,(δl BK376.out 4).trans rfl,(δl BK376.out 5).trans rfl⟩ (fun hHeld => ?_)
           clear hK K
           refine norm_ (a':=?_) ?_ ?_
           rotate_left
           ·
            show ζl _ (some 45) _=_
            simp only [ζl,δa,δb,δc,i64_w,i32_w];rfl
           refine ζk (i:=3) (N:=some 46) (v:=?_) (a':=?_) #[τ,τ,τ,τ,φ,φ,φ,φ,φ,φ,φ,φ,φ,φ,φ] rfl rfl (ζj HT_.out (by kernel_rfl)) (fun _ _ _ h=>h) (Or.inl ⟨by rfl,?_⟩) ?_ ?_
           rotate_left
           · intro w';go_simp;with_reducible rfl
           rotate_left
           · simp only [ζl,δa,δb,δc,i64_w,i32_w];rfl
           refine ζk (i:=4) (N:=some 47) (v:=?_) (a':=?_) #[τ,τ,τ,τ,τ,φ,φ,φ,φ,φ,φ,φ,φ,φ,φ] rfl rfl (ζj HT_.out (by kernel_rfl)) (fun _ _ _ h=>h) (Or.inl ⟨by rfl,?_⟩) ?_ ?_
           rotate_left
           · intro w';go_simp;with_reducible rfl
           rotate_left
           · simp only [ζl,δa,δb,δc,i64_w,i32_w];rfl
           refine take_ (i:=5) (N:=some 48) (v:=?_) (a':=?_) #[τ,τ,τ,τ,τ,τ,φ,φ,φ,φ,φ,φ,φ,φ,φ] rfl rfl (take_ofW HT_.out HW_.out (by kernel_rfl)) (fun _ _ _ h=>h) (Or.inl ⟨by rfl,?_⟩) hHeld ?_ ?_
           rotate_left
           · rintro w' ⟨s0,s1,s2,s3,s4,s5⟩;go_simp;with_reducible rfl
           rotate_left
           · simp only [ζl,δa,δb,δc,i64_w,i32_w];rfl
           refine ζk (i:=6) (N:=some 49) (v:=?_) (a':=?_) #[τ,τ,τ,τ,τ,τ,τ,φ,φ,φ,φ,φ,φ,φ,φ] rfl rfl (ζj HT_.out (by kernel_rfl)) (fun _ _ _ h=>h) (Or.inl ⟨by rfl,?_⟩) ?_ ?_
           rotate_left
           · intro w';go_simp;with_reducible rfl
           rotate_left
           · simp only [ζl,δa,δb,δc,i64_w,i32_w];rfl
           refine ζk (i:=7) (N:=some 50) (v:=undef) (a':=?_) #[τ,τ,τ,τ,τ,τ,τ,τ,φ,φ,φ,φ,φ,φ,φ] rfl rfl (ζj HT_.out (by kernel_rfl)) (fun _ _ _ h=>h) (Or.inr ⟨by rfl,rfl⟩) ?_ ?_
           rotate_left
           · simp only [ζl,δa,δb,δc,i64_w,i32_w];rfl
           refine ζk (i:=8) (N:=some 51) (v:=undef) (a':=?_) #[τ,τ,τ,τ,τ,τ,τ,τ,τ,φ,φ,φ,φ,φ,φ] rfl rfl (ζj HT_.out (by kernel_rfl)) (fun _ _ _ h=>h) (Or.inr ⟨by rfl,rfl⟩) ?_ ?_
           rotate_left
           · simp only [ζl,δa,δb,δc,i64_w,i32_w];rfl
           refine ζk (i:=9) (N:=some 52) (v:=undef) (a':=?_) #[τ,τ,τ,τ,τ,τ,τ,τ,τ,τ,φ,φ,φ,φ,φ] rfl rfl (ζj HT_.out (by kernel_rfl)) (fun _ _ _ h=>h) (Or.inr ⟨by rfl,rfl⟩) ?_ ?_
           rotate_left
           · simp only [ζl,δa,δb,δc,i64_w,i32_w];rfl
           refine ζk (i:=10) (N:=some 53) (v:=undef) (a':=?_) #[τ,τ,τ,τ,τ,τ,τ,τ,τ,τ,τ,φ,φ,φ,φ] rfl rfl (ζj HT_.out (by kernel_rfl)) (fun _ _ _ h=>h) (Or.inr ⟨by rfl,rfl⟩) ?_ ?_
           rotate_left
           · simp only [ζl,δa,δb,δc,i64_w,i32_w];rfl
           refine ζk (i:=11) (N:=some 54) (v:=?_) (a':=?_) #[τ,τ,τ,τ,τ,τ,τ,τ,τ,τ,τ,τ,φ,φ,φ] rfl rfl (ζj HT_.out (by kernel_rfl)) (fun _ _ _ h=>h) (Or.inl ⟨by rfl,?_⟩) ?_ ?_
           rotate_left
           · intro w';go_simp;with_reducible rfl
           rotate_left
           · simp only [ζl,δa,δb,δc,i64_w,i32_w];rfl
           refine ζk (i:=12) (N:=some 55) (v:=?_) (a':=?_) #[τ,τ,τ,τ,τ,τ,τ,τ,τ,τ,τ,τ,τ,φ,φ] rfl rfl (ζj HT_.out (by kernel_rfl)) (fun _ _ _ h=>h) (Or.inl ⟨by rfl,?_⟩) ?_ ?_
           rotate_left
           · intro w';go_simp;with_reducible rfl
           rotate_left
           · simp only [ζl,δa,δb,δc,i64_w,i32_w];rfl
           refine one_ (i:=13) (N:=none) #[τ,τ,τ,τ,τ,τ,τ,τ,τ,τ,τ,τ,τ,τ,φ] rfl rfl (one_of HT_.out (by kernel_rfl)) (by decide) (fun K hK => ?_)
           have hs35:w34.cell? ⟨gb363,0,none⟩=some (.string (⟨#[]⟩:ByteArray)):=(δl BK363.out 0).trans rfl
           have hfs35:=δm BK363.out 0
           have hns35_1:=NB376_363.out
           have hms35_1:=NB363_376.out
           have hs36:w34.cell? ⟨gb363,1,none⟩=some (.string (⟨#[]⟩:ByteArray)):=(δl BK363.out 1).trans rfl
           have hfs36:=δm BK363.out 1
           have hns36_1:=NB376_363.out
           have hms36_1:=NB363_376.out
           have hs37:w34.cell? ⟨gb363,2,none⟩=some (.int .i64 0):=(δl BK363.out 2).trans rfl
           have hfs37:=δm BK363.out 2
           have hns37_1:=NB376_363.out
           have hms37_1:=NB363_376.out
           have hs38:w34.cell? ⟨gb363,3,none⟩=some (.int .i64 0):=(δl BK363.out 3).trans rfl
           have hfs38:=δm BK363.out 3
           have hns38_1:=NB376_363.out
           have hms38_1:=NB363_376.out
           have hs39:w34.cell? ⟨gb363,4,none⟩=some (.int .i64 0):=(δl BK363.out 4).trans rfl
           have hfs39:=δm BK363.out 4
           have hns39_1:=NB376_363.out
           have hms39_1:=NB363_376.out
           have hs40:w34.cell? ⟨gb363,5,none⟩=some (.bool φ):=(δl BK363.out 5).trans rfl
           have hfs40:=δm BK363.out 5
           have hns40_1:=NB376_363.out
           have hms40_1:=NB363_376.out
           refine skip_ (w1:=?_) (by rfl) rfl ?_ ?_
           rotate_left
           ·
            go_simp
            rfl
           refine hK.out _ _ ⟨(spec_l09Read.far6 (g:=gb363) NB376_363.out _ _ _ _ _ _).trans hHeld.1,(spec_l09Read.far6 (g:=gb363) NB376_363.out _ _ _ _ _ _).trans hHeld.2.1,(spec_l09Read.far6 (g:=gb363) NB376_363.out _ _ _ _ _ _).trans hHeld.2.2.1,(spec_l09Read.far6 (g:=gb363) NB376_363.out _ _ _ _ _ _).trans hHeld.2.2.2.1,(spec_l09Read.far6 (g:=gb363) NB376_363.out _ _ _ _ _ _).trans hHeld.2.2.2.2.1,(spec_l09Read.far6 (g:=gb363) NB376_363.out _ _ _ _ _ _).trans hHeld.2.2.2.2.2⟩ (fun hHeld => ?_)
           clear hK K
           refine ζk (i:=14) (N:=some 5) (v:=?_) (a':=?_) #[τ,τ,τ,τ,τ,τ,τ,τ,τ,τ,τ,τ,τ,τ,τ] rfl rfl (ζj HT_.out (by kernel_rfl)) (fun _ _ _ h=>h) (Or.inl ⟨by rfl,?_⟩) ?_ ?_
           rotate_left
           · intro w';go_simp;with_reducible rfl
           rotate_left
           · simp only [ζl,δa,δb,δc,i64_w,i32_w];rfl
           refine done_ (done_of HT_.out (by kernel_rfl)) ?_
           try go_wp2
           refine bodyPost_ret (results_ct rfl _ _ gb363 42 #[.string a0,.string (rdOf ByteArray.empty t364 0),.int .i64 t370,.int .i64 t372,.int .i64 t374,.bool ((rdOf ByteArray.empty t364 4).toList == ([111,112,101,110]:List UInt8))] (0,0) _ rfl (by refine δw (cs:=#[.string a0,.string (rdOf ByteArray.empty t364 0),.int .i64 t370,.int .i64 t372,.int .i64 t374,.bool φ]) ?_ 5 _ (by (rw [c21b0];rfl));refine δw (cs:=#[.string a0,.string (rdOf ByteArray.empty t364 0),.int .i64 t370,.int .i64 t372,.int .i64 0,.bool φ]) ?_ 4 _ rfl;refine δw (cs:=#[.string a0,.string (rdOf ByteArray.empty t364 0),.int .i64 t370,.int .i64 0,.int .i64 0,.bool φ]) ?_ 3 _ rfl;refine δw (cs:=#[.string a0,.string (rdOf ByteArray.empty t364 0),.int .i64 0,.int .i64 0,.int .i64 0,.bool φ]) ?_ 2 _ rfl;refine δw (cs:=#[.string a0,.string (⟨#[]⟩:ByteArray),.int .i64 0,.int .i64 0,.int .i64 0,.bool φ]) ?_ 1 _ rfl;refine δw (cs:=#[.string (⟨#[]⟩:ByteArray),.string (⟨#[]⟩:ByteArray),.int .i64 0,.int .i64 0,.int .i64 0,.bool φ]) ?_ 0 _ rfl;exact BK363.out) Tryd.underlying42 rfl (by kernel_rfl)) rfl ?_
           exact ⟨by first|(simp [*,errW_none,errW_some] <;> rfl),by repeat ((with_reducible first|exact HB.out|refine δq ?_ GE363.out))⟩
          ·
           rw [if_neg c21] at H
           have c21b0:((rdOf ByteArray.empty t364 4).toList == ([111,112,101,110]:List UInt8))=φ:=beq_eq_false_iff_ne.mpr c21
           have c21b1:((rdOf ByteArray.empty t364 4).toList != ([111,112,101,110]:List UInt8))=τ:=bne_iff_ne.mpr c21
           simp only [Option.some.injEq,Prod.mk.injEq] at H
           obtain ⟨rfl,rfl,rfl,rfl,rfl,rfl,rfl⟩:=H
           have C21B0_:=ζa c21b0
           clear c21b0
           have C21B1_:=ζa c21b1
           clear c21b1
           refine start_ (n:=15) (S:=fun w'=>w'.cell? ⟨gb376,0,none⟩=some (.string a0)∧w'.cell? ⟨gb376,1,none⟩=some (.string (rdOf ByteArray.empty t364 0))∧w'.cell? ⟨gb376,2,none⟩=some (.int .i64 t370)∧w'.cell? ⟨gb376,3,none⟩=some (.int .i64 t372)∧w'.cell? ⟨gb376,4,none⟩=some (.int .i64 t374)∧w'.cell? ⟨gb376,5,none⟩=some (.bool ((rdOf ByteArray.empty t364 4).toList == ([111,112,101,110]:List UInt8)))∧w'.cell? ⟨ad368.block,ad368.off+4,none⟩=some (.string (rdOf ByteArray.empty t364 4))) (ds:=[]) #[φ,φ,φ,φ,φ,φ,φ,φ,φ,φ,φ,φ,φ,φ,φ] (by kernel_rfl) rfl rfl ⟨(δl BK376.out 0).trans rfl,(δl BK376.out 1).trans rfl,(δl BK376.out 2).trans rfl,(δl BK376.out 3).trans rfl,(δl BK376.out 4).trans rfl,(δl BK376.out 5).trans rfl,hx378_0⟩ (fun hHeld => ?_);refine with_tabW spec_l09Read.tab5 spec_l09Read.bits5 (fun HT_ HW_ => ?_)
           generalize w51.drew=w52 at HO_6 BK363 BK376 HB hx378_0 hHeld ⊢
           refine take_ (i:=0) (N:=some 43) (v:=?_) (a':=?_) #[τ,φ,φ,φ,φ,φ,φ,φ,φ,φ,φ,φ,φ,φ,φ] rfl rfl (take_ofW HT_.out HW_.out (by kernel_rfl)) (fun _ _ _ h=>h) (Or.inl ⟨by rfl,?_⟩) hHeld ?_ ?_
           rotate_left
           · rintro w' ⟨s0,s1,s2,s3,s4,s5,s6⟩;go_simp;with_reducible rfl
           rotate_left
           · simp only [ζl,δa,δb,δc,i64_w,i32_w];rfl
           refine take_ (i:=1) (N:=some 44) (v:=?_) (a':=?_) #[τ,τ,φ,φ,φ,φ,φ,φ,φ,φ,φ,φ,φ,φ,φ] rfl rfl (take_ofW HT_.out HW_.out (by kernel_rfl)) (fun _ _ _ h=>h) (Or.inl ⟨by rfl,?_⟩) hHeld ?_ ?_
           rotate_left
           · rintro w' ⟨s0,s1,s2,s3,s4,s5,s6⟩;go_simp;with_reducible rfl
           rotate_left
           · simp only [ζl,δa,δb,δc,i64_w,i32_w];rfl
           refine one_ (i:=2) (N:=some 45) #[τ,τ,τ,φ,φ,φ,φ,φ,φ,φ,φ,φ,φ,φ,φ] rfl rfl (one_of HT_.out (by kernel_rfl)) (by decide) (fun K hK => ?_)
           refine goes_ Tryd.func130 (by kernel_rfl) rfl #[.agg #[.string a0,.string (rdOf ByteArray.empty t364 0),.int .i64 t370,.int .i64 t372,.int .i64 t374,.bool ((rdOf ByteArray.empty t364 4).toList == ([111,112,101,110]:List UInt8))]] (by rfl) rfl rfl (by (try simp only [δd,δe,δf]);rfl) ?_
           with_reducible refine (spec_OrderOK.calls kj3 a0 (rdOf ByteArray.empty t364 0) t370 t372 t374 ((rdOf ByteArray.empty t364 4).toList == ([111,112,101,110]:List UInt8)) τ _ A19.out).mono ?_
           rintro e w53 ⟨rfl,hb⟩
           have c21b0:=C21B0_.out
           have c21b1:=C21B1_.out
           have HS6_:=(hb.cell (World.block_lt_of_cell? _ _ (hHeld.2.2.2.2.2.2))).trans (hHeld.2.2.2.2.2.2)
           refine ⟨_,rfl,?_⟩
           have n0_:=ζa (ζh (by exact HO_6.out) hb)
           have n1_:=ζa (blk_below (g:=gb363) (o:=.cells #[.string (⟨#[]⟩:ByteArray),.string (⟨#[]⟩:ByteArray),.int .i64 0,.int .i64 0,.int .i64 0,.bool φ] 42 (0,0)) (by exact BK363.out) hb)
           have n2_:=ζa (blk_below (g:=gb376) (o:=.cells #[.string a0,.string (rdOf ByteArray.empty t364 0),.int .i64 t370,.int .i64 t372,.int .i64 t374,.bool ((rdOf ByteArray.empty t364 4).toList == ([111,112,101,110]:List UInt8))] 42 (0,0)) (by exact BK376.out) hb)
           have n3_:=ζa (δr (by exact HB.out) hb)
           clear HO_6
           clear BK363
           clear BK376
           clear HB
           have HO_6:=n0_
           have BK363:=n1_
           have BK376:=n2_
           have HB:=n3_
           clear n0_ n1_ n2_ n3_
           (try clear hb)
           (try clear hb2)
           (try clear hk)
           (try clear hi)
           refine hK.out _ _ ⟨(δl BK376.out 0).trans rfl,(δl BK376.out 1).trans rfl,(δl BK376.out 2).trans rfl,(δl BK376.out 3).trans rfl,(δl BK376.out 4).trans rfl,(δl BK376.out 5).trans rfl,HS6_⟩ (fun hHeld => ?_)
           clear hK K
           refine norm_ (a':=?_) ?_ ?_
           rotate_left
           ·
            show ζl _ (some 45) _=_
            simp only [ζl,δa,δb,δc,i64_w,i32_w];rfl
           refine ζk (i:=3) (N:=some 46) (v:=?_) (a':=?_) #[τ,τ,τ,τ,φ,φ,φ,φ,φ,φ,φ,φ,φ,φ,φ] rfl rfl (ζj HT_.out (by kernel_rfl)) (fun _ _ _ h=>h) (Or.inl ⟨by rfl,?_⟩) ?_ ?_
           rotate_left
           · intro w';go_simp;with_reducible rfl
           rotate_left
           · simp only [ζl,δa,δb,δc,i64_w,i32_w];rfl
           refine ζk (i:=4) (N:=some 47) (v:=?_) (a':=?_) #[τ,τ,τ,τ,τ,φ,φ,φ,φ,φ,φ,φ,φ,φ,φ] rfl rfl (ζj HT_.out (by kernel_rfl)) (fun _ _ _ h=>h) (Or.inl ⟨by rfl,?_⟩) ?_ ?_
           rotate_left
           · intro w';go_simp;with_reducible rfl
           rotate_left
           · simp only [ζl,δa,δb,δc,i64_w,i32_w];rfl
           refine take_ (i:=5) (N:=some 48) (v:=?_) (a':=?_) #[τ,τ,τ,τ,τ,τ,φ,φ,φ,φ,φ,φ,φ,φ,φ] rfl rfl (take_ofW HT_.out HW_.out (by kernel_rfl)) (fun _ _ _ h=>h) (Or.inl ⟨by rfl,?_⟩) hHeld ?_ ?_
           rotate_left
           · rintro w' ⟨s0,s1,s2,s3,s4,s5,s6⟩;go_simp;with_reducible rfl
           rotate_left
           · simp only [ζl,δa,δb,δc,i64_w,i32_w];rfl
           refine ζk (i:=6) (N:=some 49) (v:=?_) (a':=?_) #[τ,τ,τ,τ,τ,τ,τ,φ,φ,φ,φ,φ,φ,φ,φ] rfl rfl (ζj HT_.out (by kernel_rfl)) (fun _ _ _ h=>h) (Or.inl ⟨by rfl,?_⟩) ?_ ?_
           rotate_left
           · intro w';go_simp;with_reducible rfl
           rotate_left
           · simp only [ζl,δa,δb,δc,i64_w,i32_w];rfl
           refine ζk (i:=7) (N:=some 50) (v:=?_) (a':=?_) #[τ,τ,τ,τ,τ,τ,τ,τ,φ,φ,φ,φ,φ,φ,φ] rfl rfl (ζj HT_.out (by kernel_rfl)) (fun _ _ _ h=>h) (Or.inl ⟨by rfl,?_⟩) ?_ ?_
           rotate_left
           · intro w';go_simp;with_reducible rfl
           rotate_left
           · simp only [ζl,δa,δb,δc,i64_w,i32_w];rfl
           refine ζk (i:=8) (N:=some 51) (v:=?_) (a':=?_) #[τ,τ,τ,τ,τ,τ,τ,τ,τ,φ,φ,φ,φ,φ,φ] rfl rfl (ζj HT_.out (by kernel_rfl)) (fun _ _ _ h=>h) (Or.inl ⟨by rfl,?_⟩) ?_ ?_
           rotate_left
           · intro w';go_simp;with_reducible rfl
           rotate_left
           · simp only [ζl,δa,δb,δc,i64_w,i32_w];rfl
           refine take_ (i:=9) (N:=some 52) (v:=?_) (a':=?_) #[τ,τ,τ,τ,τ,τ,τ,τ,τ,τ,φ,φ,φ,φ,φ] rfl rfl (take_ofW HT_.out HW_.out (by kernel_rfl)) (fun _ _ _ h=>h) (Or.inl ⟨by rfl,?_⟩) hHeld ?_ ?_
           rotate_left
           · rintro w' ⟨s0,s1,s2,s3,s4,s5,s6⟩;go_simp;with_reducible rfl
           rotate_left
           · simp only [ζl,δa,δb,δc,i64_w,i32_w];rfl
           refine ζk (i:=10) (N:=some 53) (v:=?_) (a':=?_) #[τ,τ,τ,τ,τ,τ,τ,τ,τ,τ,τ,φ,φ,φ,φ] rfl rfl (ζj HT_.out (by kernel_rfl)) (fun _ _ _ h=>h) (Or.inl ⟨by rfl,?_⟩) ?_ ?_
           rotate_left
           · intro w';go_simp;with_reducible rfl
           rotate_left
           · simp only [ζl,δa,δb,δc,i64_w,i32_w];rfl
           refine ζk (i:=11) (N:=some 54) (v:=?_) (a':=?_) #[τ,τ,τ,τ,τ,τ,τ,τ,τ,τ,τ,τ,φ,φ,φ] rfl rfl (ζj HT_.out (by kernel_rfl)) (fun _ _ _ h=>h) (Or.inl ⟨by rfl,?_⟩) ?_ ?_
           rotate_left
           · intro w';go_simp;with_reducible rfl
           rotate_left
           · simp only [ζl,δa,δb,δc,i64_w,i32_w];rfl
           refine ζk (i:=12) (N:=some 55) (v:=?_) (a':=?_) #[τ,τ,τ,τ,τ,τ,τ,τ,τ,τ,τ,τ,τ,φ,φ] rfl rfl (ζj HT_.out (by kernel_rfl)) (fun _ _ _ h=>h) (Or.inl ⟨by rfl,?_⟩) ?_ ?_
           rotate_left
           · intro w';go_simp;with_reducible rfl
           rotate_left
           · simp only [ζl,δa,δb,δc,i64_w,i32_w];rfl
           refine one_ (i:=13) (N:=none) #[τ,τ,τ,τ,τ,τ,τ,τ,τ,τ,τ,τ,τ,τ,φ] rfl rfl (one_of HT_.out (by kernel_rfl)) (by decide) (fun K hK => ?_)
           have hs54:w53.cell? ⟨gb363,0,none⟩=some (.string (⟨#[]⟩:ByteArray)):=(δl BK363.out 0).trans rfl
           have hfs54:=δm BK363.out 0
           have hns54_1:=NB376_363.out
           have hms54_1:=NB363_376.out
           have hs55:w53.cell? ⟨gb363,1,none⟩=some (.string (⟨#[]⟩:ByteArray)):=(δl BK363.out 1).trans rfl
           have hfs55:=δm BK363.out 1
           have hns55_1:=NB376_363.out
           have hms55_1:=NB363_376.out
           have hs56:w53.cell? ⟨gb363,2,none⟩=some (.int .i64 0):=(δl BK363.out 2).trans rfl
           have hfs56:=δm BK363.out 2
           have hns56_1:=NB376_363.out
           have hms56_1:=NB363_376.out
           have hs57:w53.cell? ⟨gb363,3,none⟩=some (.int .i64 0):=(δl BK363.out 3).trans rfl
           have hfs57:=δm BK363.out 3
           have hns57_1:=NB376_363.out
           have hms57_1:=NB363_376.out
           have hs58:w53.cell? ⟨gb363,4,none⟩=some (.int .i64 0):=(δl BK363.out 4).trans rfl
           have hfs58:=δm BK363.out 4
           have hns58_1:=NB376_363.out
           have hms58_1:=NB363_376.out
           have hs59:w53.cell? ⟨gb363,5,none⟩=some (.bool φ):=(δl BK363.out 5).trans rfl
           have hfs59:=δm BK363.out 5
           have hns59_1:=NB376_363.out
           have hms59_1:=NB363_376.out
           refine skip_ (w1:=?_) (by rfl) rfl ?_ ?_
           rotate_left
           ·
            go_simp
            rfl
           refine hK.out _ _ ⟨(spec_l09Read.far6 (g:=gb363) NB376_363.out _ _ _ _ _ _).trans hHeld.1,(spec_l09Read.far6 (g:=gb363) NB376_363.out _ _ _ _ _ _).trans hHeld.2.1,(spec_l09Read.far6 (g:=gb363) NB376_363.out _ _ _ _ _ _).trans hHeld.2.2.1,(spec_l09Read.far6 (g:=gb363) NB376_363.out _ _ _ _ _ _).trans hHeld.2.2.2.1,(spec_l09Read.far6 (g:=gb363) NB376_363.out _ _ _ _ _ _).trans hHeld.2.2.2.2.1,(spec_l09Read.far6 (g:=gb363) NB376_363.out _ _ _ _ _ _).trans hHeld.2.2.2.2.2.1,(spec_l09Read.far6 (g:=gb363) (fun e_=>ζf HO_6.out BK363.out (by decide) (by rw [← e_];rfl)) _ _ _ _ _ _).trans hHeld.2.2.2.2.2.2⟩ (fun hHeld => ?_)
           clear hK K
           refine ζk (i:=14) (N:=some 5) (v:=?_) (a':=?_) #[τ,τ,τ,τ,τ,τ,τ,τ,τ,τ,τ,τ,τ,τ,τ] rfl rfl (ζj HT_.out (by kernel_rfl)) (fun _ _ _ h=>h) (Or.inl ⟨by rfl,?_⟩) ?_ ?_
           rotate_left
           · intro w';go_simp;with_reducible rfl
           rotate_left
           · simp only [ζl,δa,δb,δc,i64_w,i32_w];rfl
           refine done_ (done_of HT_.out (by kernel_rfl)) ?_
           try go_wp2
           refine bodyPost_ret (results_ct rfl _ _ gb363 42 #[.string a0,.string (rdOf ByteArray.empty t364 0),.int .i64 t370,.int .i64 t372,.int .i64 t374,.bool ((rdOf ByteArray.empty t364 4).toList == ([111,112,101,110]:List UInt8))] (0,0) _ rfl (by refine δw (cs:=#[.string a0,.string (rdOf ByteArray.empty t364 0),.int .i64 t370,.int .i64 t372,.int .i64 t374,.bool φ]) ?_ 5 _ (by (rw [c21b0];rfl));refine δw (cs:=#[.string a0,.string (rdOf ByteArray.empty t364 0),.int .i64 t370,.int .i64 t372,.int .i64 0,.bool φ]) ?_ 4 _ rfl;refine δw (cs:=#[.string a0,.string (rdOf ByteArray.empty t364 0),.int .i64 t370,.int .i64 0,.int .i64 0,.bool φ]) ?_ 3 _ rfl;refine δw (cs:=#[.string a0,.string (rdOf ByteArray.empty t364 0),.int .i64 0,.int .i64 0,.int .i64 0,.bool φ]) ?_ 2 _ rfl;refine δw (cs:=#[.string a0,.string (⟨#[]⟩:ByteArray),.int .i64 0,.int .i64 0,.int .i64 0,.bool φ]) ?_ 1 _ rfl;refine δw (cs:=#[.string (⟨#[]⟩:ByteArray),.string (⟨#[]⟩:ByteArray),.int .i64 0,.int .i64 0,.int .i64 0,.bool φ]) ?_ 0 _ rfl;exact BK363.out) Tryd.underlying42 rfl (by kernel_rfl)) rfl ?_
           exact ⟨by first|(simp [*,errW_none,errW_some] <;> rfl),by repeat ((with_reducible first|exact HB.out|refine δq ?_ GE363.out))⟩
         ·
          replace c20:=Bool.eq_false_iff.mpr c20
          subst c20
          have H1:(some (a0,rdOf ByteArray.empty t364 0,t370,t372,t374,((rdOf ByteArray.empty t364 4).toList == ([111,112,101,110]:List UInt8)),φ))=some (r1,r2,r3,r4,r5,r6,r7):=by rw [if_neg (show ¬ (φ=τ) by decide)] at H;exact H
          clear H
          have H:=H1
          clear H1
          simp only [Option.some.injEq,Prod.mk.injEq] at H
          obtain ⟨rfl,rfl,rfl,rfl,rfl,rfl,rfl⟩:=H
          refine start_ (n:=15) (S:=fun w'=>w'.cell? ⟨gb376,0,none⟩=some (.string a0)∧w'.cell? ⟨gb376,1,none⟩=some (.string (rdOf ByteArray.empty t364 0))∧w'.cell? ⟨gb376,2,none⟩=some (.int .i64 t370)∧w'.cell? ⟨gb376,3,none⟩=some (.int .i64 t372)∧w'.cell? ⟨gb376,4,none⟩=some (.int .i64 t374)∧w'.cell? ⟨gb376,5,none⟩=some (.bool ((rdOf ByteArray.empty t364 4).toList == ([111,112,101,110]:List UInt8)))) (ds:=[]) #[φ,φ,φ,φ,φ,φ,φ,φ,φ,φ,φ,φ,φ,φ,φ] (by kernel_rfl) rfl rfl ⟨(δl BK376.out 0).trans rfl,(δl BK376.out 1).trans rfl,(δl BK376.out 2).trans rfl,(δl BK376.out 3).trans rfl,(δl BK376.out 4).trans rfl,(δl BK376.out 5).trans rfl⟩ (fun hHeld => ?_);refine with_tabW spec_l09Read.tab5 spec_l09Read.bits5 (fun HT_ HW_ => ?_)
          generalize w51.drew=w71 at HO_6 BK363 BK376 HB hHeld ⊢
          refine take_ (i:=0) (N:=some 43) (v:=?_) (a':=?_) #[τ,φ,φ,φ,φ,φ,φ,φ,φ,φ,φ,φ,φ,φ,φ] rfl rfl (take_ofW HT_.out HW_.out (by kernel_rfl)) (fun _ _ _ h=>h) (Or.inl ⟨by rfl,?_⟩) hHeld ?_ ?_
          rotate_left
          · rintro w' ⟨s0,s1,s2,s3,s4,s5⟩;go_simp;with_reducible rfl
          rotate_left
          · simp only [ζl,δa,δb,δc,i64_w,i32_w];rfl
          refine take_ (i:=1) (N:=some 44) (v:=?_) (a':=?_) #[τ,τ,φ,φ,φ,φ,φ,φ,φ,φ,φ,φ,φ,φ,φ] rfl rfl (take_ofW HT_.out HW_.out (by kernel_rfl)) (fun _ _ _ h=>h) (Or.inl ⟨by rfl,?_⟩) hHeld ?_ ?_
          rotate_left
          · rintro w' ⟨s0,s1,s2,s3,s4,s5⟩;go_simp;with_reducible rfl
          rotate_left
          · simp only [ζl,δa,δb,δc,i64_w,i32_w];rfl
          refine one_ (i:=2) (N:=some 45) #[τ,τ,τ,φ,φ,φ,φ,φ,φ,φ,φ,φ,φ,φ,φ] rfl rfl (one_of HT_.out (by kernel_rfl)) (by decide) (fun K hK => ?_)
          refine goes_ Tryd.func130 (by kernel_rfl) rfl #[.agg #[.string a0,.string (rdOf ByteArray.empty t364 0),.int .i64 t370,.int .i64 t372,.int .i64 t374,.bool ((rdOf ByteArray.empty t364 4).toList == ([111,112,101,110]:List UInt8))]] (by rfl) rfl rfl (by (try simp only [δd,δe,δf]);rfl) ?_
          with_reducible refine (spec_OrderOK.calls kj3 a0 (rdOf ByteArray.empty t364 0) t370 t372 t374 ((rdOf ByteArray.empty t364 4).toList == ([111,112,101,110]:List UInt8)) φ _ A19.out).mono ?_
          rintro e w72 ⟨rfl,hb⟩
          refine ⟨_,rfl,?_⟩
          have n0_:=ζa (ζh (by exact HO_6.out) hb)
          have n1_:=ζa (blk_below (g:=gb363) (o:=.cells #[.string (⟨#[]⟩:ByteArray),.string (⟨#[]⟩:ByteArray),.int .i64 0,.int .i64 0,.int .i64 0,.bool φ] 42 (0,0)) (by exact BK363.out) hb)
          have n2_:=ζa (blk_below (g:=gb376) (o:=.cells #[.string a0,.string (rdOf ByteArray.empty t364 0),.int .i64 t370,.int .i64 t372,.int .i64 t374,.bool ((rdOf ByteArray.empty t364 4).toList == ([111,112,101,110]:List UInt8))] 42 (0,0)) (by exact BK376.out) hb)
          have n3_:=ζa (δr (by exact HB.out) hb)
          clear HO_6
          clear BK363
          clear BK376
          clear HB
          have HO_6:=n0_
          have BK363:=n1_
          have BK376:=n2_
          have HB:=n3_
          clear n0_ n1_ n2_ n3_
          (try clear hb)
          (try clear hb2)
          (try clear hk)
          (try clear hi)
          refine hK.out _ _ ⟨(δl BK376.out 0).trans rfl,(δl BK376.out 1).trans rfl,(δl BK376.out 2).trans rfl,(δl BK376.out 3).trans rfl,(δl BK376.out 4).trans rfl,(δl BK376.out 5).trans rfl⟩ (fun hHeld => ?_)
          clear hK K
          refine norm_ (a':=?_) ?_ ?_
          rotate_left
          ·
           show ζl _ (some 45) _=_
           simp only [ζl,δa,δb,δc,i64_w,i32_w];rfl
          refine ζk (i:=3) (N:=some 46) (v:=?_) (a':=?_) #[τ,τ,τ,τ,φ,φ,φ,φ,φ,φ,φ,φ,φ,φ,φ] rfl rfl (ζj HT_.out (by kernel_rfl)) (fun _ _ _ h=>h) (Or.inl ⟨by rfl,?_⟩) ?_ ?_
          rotate_left
          · intro w';go_simp;with_reducible rfl
          rotate_left
          · simp only [ζl,δa,δb,δc,i64_w,i32_w];rfl
          refine ζk (i:=4) (N:=some 47) (v:=undef) (a':=?_) #[τ,τ,τ,τ,τ,φ,φ,φ,φ,φ,φ,φ,φ,φ,φ] rfl rfl (ζj HT_.out (by kernel_rfl)) (fun _ _ _ h=>h) (Or.inr ⟨by rfl,rfl⟩) ?_ ?_
          rotate_left
          · simp only [ζl,δa,δb,δc,i64_w,i32_w];rfl
          refine ζk (i:=5) (N:=some 48) (v:=undef) (a':=?_) #[τ,τ,τ,τ,τ,τ,φ,φ,φ,φ,φ,φ,φ,φ,φ] rfl rfl (ζj HT_.out (by kernel_rfl)) (fun _ _ _ h=>h) (Or.inr ⟨by rfl,rfl⟩) ?_ ?_
          rotate_left
          · simp only [ζl,δa,δb,δc,i64_w,i32_w];rfl
          refine ζk (i:=6) (N:=some 49) (v:=undef) (a':=?_) #[τ,τ,τ,τ,τ,τ,τ,φ,φ,φ,φ,φ,φ,φ,φ] rfl rfl (ζj HT_.out (by kernel_rfl)) (fun _ _ _ h=>h) (Or.inr ⟨by rfl,rfl⟩) ?_ ?_
          rotate_left
          · simp only [ζl,δa,δb,δc,i64_w,i32_w];rfl
          refine ζk (i:=7) (N:=some 50) (v:=undef) (a':=?_) #[τ,τ,τ,τ,τ,τ,τ,τ,φ,φ,φ,φ,φ,φ,φ] rfl rfl (ζj HT_.out (by kernel_rfl)) (fun _ _ _ h=>h) (Or.inr ⟨by rfl,rfl⟩) ?_ ?_
          rotate_left
          · simp only [ζl,δa,δb,δc,i64_w,i32_w];rfl
          refine ζk (i:=8) (N:=some 51) (v:=undef) (a':=?_) #[τ,τ,τ,τ,τ,τ,τ,τ,τ,φ,φ,φ,φ,φ,φ] rfl rfl (ζj HT_.out (by kernel_rfl)) (fun _ _ _ h=>h) (Or.inr ⟨by rfl,rfl⟩) ?_ ?_
          rotate_left
          · simp only [ζl,δa,δb,δc,i64_w,i32_w];rfl
          refine ζk (i:=9) (N:=some 52) (v:=undef) (a':=?_) #[τ,τ,τ,τ,τ,τ,τ,τ,τ,τ,φ,φ,φ,φ,φ] rfl rfl (ζj HT_.out (by kernel_rfl)) (fun _ _ _ h=>h) (Or.inr ⟨by rfl,rfl⟩) ?_ ?_
          rotate_left
          · simp only [ζl,δa,δb,δc,i64_w,i32_w];rfl
          refine ζk (i:=10) (N:=some 53) (v:=undef) (a':=?_) #[τ,τ,τ,τ,τ,τ,τ,τ,τ,τ,τ,φ,φ,φ,φ] rfl rfl (ζj HT_.out (by kernel_rfl)) (fun _ _ _ h=>h) (Or.inr ⟨by rfl,rfl⟩) ?_ ?_
          rotate_left
          · simp only [ζl,δa,δb,δc,i64_w,i32_w];rfl
          refine ζk (i:=11) (N:=some 54) (v:=undef) (a':=?_) #[τ,τ,τ,τ,τ,τ,τ,τ,τ,τ,τ,τ,φ,φ,φ] rfl rfl (ζj HT_.out (by kernel_rfl)) (fun _ _ _ h=>h) (Or.inr ⟨by rfl,rfl⟩) ?_ ?_
          rotate_left
          · simp only [ζl,δa,δb,δc,i64_w,i32_w];rfl
          refine ζk (i:=12) (N:=some 55) (v:=?_) (a':=?_) #[τ,τ,τ,τ,τ,τ,τ,τ,τ,τ,τ,τ,τ,φ,φ] rfl rfl (ζj HT_.out (by kernel_rfl)) (fun _ _ _ h=>h) (Or.inl ⟨by rfl,?_⟩) ?_ ?_
          rotate_left
          · intro w';go_simp;with_reducible rfl
          rotate_left
          · simp only [ζl,δa,δb,δc,i64_w,i32_w];rfl
          refine one_ (i:=13) (N:=none) #[τ,τ,τ,τ,τ,τ,τ,τ,τ,τ,τ,τ,τ,τ,φ] rfl rfl (one_of HT_.out (by kernel_rfl)) (by decide) (fun K hK => ?_)
          have hs73:w72.cell? ⟨gb363,0,none⟩=some (.string (⟨#[]⟩:ByteArray)):=(δl BK363.out 0).trans rfl
          have hfs73:=δm BK363.out 0
          have hns73_1:=NB376_363.out
          have hms73_1:=NB363_376.out
          have hs74:w72.cell? ⟨gb363,1,none⟩=some (.string (⟨#[]⟩:ByteArray)):=(δl BK363.out 1).trans rfl
          have hfs74:=δm BK363.out 1
          have hns74_1:=NB376_363.out
          have hms74_1:=NB363_376.out
          have hs75:w72.cell? ⟨gb363,2,none⟩=some (.int .i64 0):=(δl BK363.out 2).trans rfl
          have hfs75:=δm BK363.out 2
          have hns75_1:=NB376_363.out
          have hms75_1:=NB363_376.out
          have hs76:w72.cell? ⟨gb363,3,none⟩=some (.int .i64 0):=(δl BK363.out 3).trans rfl
          have hfs76:=δm BK363.out 3
          have hns76_1:=NB376_363.out
          have hms76_1:=NB363_376.out
          have hs77:w72.cell? ⟨gb363,4,none⟩=some (.int .i64 0):=(δl BK363.out 4).trans rfl
          have hfs77:=δm BK363.out 4
          have hns77_1:=NB376_363.out
          have hms77_1:=NB363_376.out
          have hs78:w72.cell? ⟨gb363,5,none⟩=some (.bool φ):=(δl BK363.out 5).trans rfl
          have hfs78:=δm BK363.out 5
          have hns78_1:=NB376_363.out
          have hms78_1:=NB363_376.out
          refine skip_ (w1:=?_) (by rfl) rfl ?_ ?_
          rotate_left
          ·
           go_simp
           rfl
          refine hK.out _ _ ⟨(spec_l09Read.far6 (g:=gb363) NB376_363.out _ _ _ _ _ _).trans hHeld.1,(spec_l09Read.far6 (g:=gb363) NB376_363.out _ _ _ _ _ _).trans hHeld.2.1,(spec_l09Read.far6 (g:=gb363) NB376_363.out _ _ _ _ _ _).trans hHeld.2.2.1,(spec_l09Read.far6 (g:=gb363) NB376_363.out _ _ _ _ _ _).trans hHeld.2.2.2.1,(spec_l09Read.far6 (g:=gb363) NB376_363.out _ _ _ _ _ _).trans hHeld.2.2.2.2.1,(spec_l09Read.far6 (g:=gb363) NB376_363.out _ _ _ _ _ _).trans hHeld.2.2.2.2.2⟩ (fun hHeld => ?_)
          clear hK K
          refine ζk (i:=14) (N:=some 5) (v:=?_) (a':=?_) #[τ,τ,τ,τ,τ,τ,τ,τ,τ,τ,τ,τ,τ,τ,τ] rfl rfl (ζj HT_.out (by kernel_rfl)) (fun _ _ _ h=>h) (Or.inl ⟨by rfl,?_⟩) ?_ ?_
          rotate_left
          · intro w';go_simp;with_reducible rfl
          rotate_left
          · simp only [ζl,δa,δb,δc,i64_w,i32_w];rfl
          refine done_ (done_of HT_.out (by kernel_rfl)) ?_
          try go_wp2
          refine bodyPost_ret (results_ct rfl _ _ gb363 42 #[.string a0,.string (rdOf ByteArray.empty t364 0),.int .i64 t370,.int .i64 t372,.int .i64 t374,.bool ((rdOf ByteArray.empty t364 4).toList == ([111,112,101,110]:List UInt8))] (0,0) _ rfl (by refine δw (cs:=#[.string a0,.string (rdOf ByteArray.empty t364 0),.int .i64 t370,.int .i64 t372,.int .i64 t374,.bool φ]) ?_ 5 _ (by rfl);refine δw (cs:=#[.string a0,.string (rdOf ByteArray.empty t364 0),.int .i64 t370,.int .i64 t372,.int .i64 0,.bool φ]) ?_ 4 _ rfl;refine δw (cs:=#[.string a0,.string (rdOf ByteArray.empty t364 0),.int .i64 t370,.int .i64 0,.int .i64 0,.bool φ]) ?_ 3 _ rfl;refine δw (cs:=#[.string a0,.string (rdOf ByteArray.empty t364 0),.int .i64 0,.int .i64 0,.int .i64 0,.bool φ]) ?_ 2 _ rfl;refine δw (cs:=#[.string a0,.string (⟨#[]⟩:ByteArray),.int .i64 0,.int .i64 0,.int .i64 0,.bool φ]) ?_ 1 _ rfl;refine δw (cs:=#[.string (⟨#[]⟩:ByteArray),.string (⟨#[]⟩:ByteArray),.int .i64 0,.int .i64 0,.int .i64 0,.bool φ]) ?_ 0 _ rfl;exact BK363.out) Tryd.underlying42 rfl (by kernel_rfl)) rfl ?_
          exact ⟨by rfl,by repeat ((with_reducible first|exact HB.out|refine δq ?_ GE363.out))⟩
        ·
         rw [if_neg c18] at H
         exact absurd H (by simp)
       ·
        rw [if_neg c16] at H
        exact absurd H (by simp)
      ·
       rw [if_neg c14] at H
       exact absurd H (by simp)
     ·
      rw [if_neg c12] at H
      exact absurd H (by simp)
    ·
     rw [if_neg c11] at H
     exact absurd H (by simp)


open Go.RowKit renaming wrap64 → ζm

/-! ### spec_l03At: function 123 -/
def spec_l03At.l0:Nat→List (S71)→ByteArray→Int→Int→Option (Int)
 | 0,_,_,_,_=>none
 | k+1,x0,x1,x5,x6=>if x5<x6 then (if 0≤(ζm (Int.tdiv (ζm (x5+x6)) 2)) then (if (ζm (Int.tdiv (ζm (x5+x6)) 2))<(x0.length:Int) then (if (Op.bytesLess (((rd_T71 x0 (ζm (Int.tdiv (ζm (x5+x6)) 2))).f0).toList) x1.toList)=τ then (spec_l03At.l0 k x0 x1 (ζm ((ζm (Int.tdiv (ζm (x5+x6)) 2))+1)) x6) else (spec_l03At.l0 k x0 x1 x5 (ζm (Int.tdiv (ζm (x5+x6)) 2)))) else (none)) else (none)) else (some x5)
def spec_l03At.f (k:Nat) (l0:List (S71)) (a1:ByteArray):Option (Int):=spec_l03At.l0 k l0 a1 0 (l0.length:Int)
set_option maxHeartbeats 8000000 in
set_option maxRecDepth 100000 in
theorem spec_l03At.calls (k:Nat) (A0:Option Addr) (c0:Nat) (l0:List (S71)) (a1:ByteArray) (r:Int) (w:World) (hr0:Kd.C k71 w A0 l0.length l0) (hc0:l0.length≤c0) (h:spec_l03At.f k l0 a1=some r) :
  Calls Tryd.prog 123 #[.slice A0 l0.length c0,.string a1] w fun e w'=>e = .returned (.int .i64 r)∧Drawn0 w w':=by
 have HR0:=ζa hr0
 have HC0:=ζa hc0
 clear hr0 hc0
 have H:(spec_l03At.l0 k l0 a1 0 (l0.length:Int))=some r:=h
 clear h
 have H':=ζa H
 clear H
 go_enter Tryd.func123,Tryd.ntmps123
 go_wp2
 go_loopg [5,6] k (fun kq v5 v6 w' => ∃ (x5_1:Int) (x6_1:Int),v5 = .int .i64 x5_1∧v6 = .int .i64 x6_1∧Aside0 (spec_l03At.l0 kq l0 a1 x5_1 x6_1=some r)∧Aside0 (kq≤k)∧Drawn0 w w')
 case atStart=>exact ⟨(0),((l0.length:Int)),(by first|rfl|(simp;done)|(simp [*];done)),(by first|rfl|(simp;done)|(simp [*];done)),H',⟨Nat.le_refl _⟩,by repeat (first|exact Drawn0.refl _|apply Drawn0.step)⟩
 case round =>
  clear H'
  try clear c1
  try clear p2
  obtain ⟨x5_1,x6_1,rfl,rfl,HA,HK1,⟨m1,rfl⟩⟩:=hrel
  cases gk with
  | zero=>exact absurd HA.out (by simp [spec_l03At.l0])
  | succ k1 =>
   have H:=HA.out
   clear HA
   simp only [spec_l03At.l0] at H
   by_cases c3:x5_1<x6_1
   ·
    rw [if_pos c3] at H
    have c3b0:decide (x5_1<x6_1)=τ:=decide_eq_true c3
    clear c3
    obtain ⟨ji4,hji4⟩ : ∃ j_:Int,(ζm (Int.tdiv (ζm (x5_1+x6_1)) 2))=j_:=⟨_,rfl⟩
    replace H:(if 0≤(ji4) then (if (ji4)<(l0.length:Int) then (if (Op.bytesLess (((rd_T71 l0 (ji4)).f0).toList) a1.toList)=τ then (spec_l03At.l0 k1 l0 a1 (ζm ((ji4)+1)) x6_1) else (spec_l03At.l0 k1 l0 a1 x5_1 ji4)) else (none)) else (none))=some r:=by first|(rw [hji4] at H;exact H)|(simp only [hji4] at H ⊢;exact H)
    have hji4w:(IntKind.i64.wrap (Int.tdiv (ζm (x5_1+x6_1)) 2))=ji4:=(i64_w _).trans hji4
    by_cases c5:0≤(ji4)
    ·
     rw [if_pos c5] at H
     have c5b0:decide (0≤(ji4))=τ:=decide_eq_true c5
     clear c5
     by_cases c6:(ji4)<(l0.length:Int)
     ·
      rw [if_pos c6] at H
      have c6b0:decide ((ji4)<(l0.length:Int))=τ:=decide_eq_true c6
      clear c6
      by_cases c7:(Op.bytesLess (((rd_T71 l0 (ji4)).f0).toList) a1.toList)=τ
      ·
       rw [if_pos c7] at H
       have c7b0:(Op.bytesLess (((rd_T71 l0 (ji4)).f0).toList) a1.toList)=τ:=c7
       clear c7
       have H':=ζa H
       clear H
       have p201:0≤((ji4):Int):=of_decide_eq_true (by first|(with_reducible assumption)|assumption)
       have q201:(ji4)<(l0.length:Int):=of_decide_eq_true (by first|(with_reducible assumption)|assumption)
       obtain ⟨ad201,e201,hx201_0,hx201_1⟩:=at_T71 HR0.out (ji4) p201 q201
       cases e201
       replace p201:=eq_true p201
       replace q201:=eq_true q201
       go_wp2
       go_roundg k1
       case measure=>have:=HK1.out;omega
       case rel=>exact ⟨(ζm ((ji4)+1)),(x6_1),(by first|rfl|(simp;done)|(simp only [← hji4] <;> (first|rfl|simp))|(simp [*];done)),(by first|rfl|(simp;done)|(simp [*];done)),H',⟨by have:=HK1.out;omega⟩,by repeat (first|exact Drawn0.refl _|apply Drawn0.step)⟩
      ·
       rw [if_neg c7] at H
       have c7b0:(Op.bytesLess (((rd_T71 l0 (ji4)).f0).toList) a1.toList)=φ:=by simpa using c7
       clear c7
       have H':=ζa H
       clear H
       have p201:0≤((ji4):Int):=of_decide_eq_true (by first|(with_reducible assumption)|assumption)
       have q201:(ji4)<(l0.length:Int):=of_decide_eq_true (by first|(with_reducible assumption)|assumption)
       obtain ⟨ad201,e201,hx201_0,hx201_1⟩:=at_T71 HR0.out (ji4) p201 q201
       cases e201
       replace p201:=eq_true p201
       replace q201:=eq_true q201
       go_wp2
       go_roundg k1
       case measure=>have:=HK1.out;omega
       case rel=>exact ⟨(x5_1),(ji4),(by first|rfl|(simp;done)|(simp [*];done)),(by first|rfl|(simp;done)|(simp only [← hji4] <;> (first|rfl|simp))|(simp [*];done)),H',⟨by have:=HK1.out;omega⟩,by repeat (first|exact Drawn0.refl _|apply Drawn0.step)⟩
     ·
      rw [if_neg c6] at H
      exact absurd H (by simp)
    ·
     rw [if_neg c5] at H
     exact absurd H (by simp)
   ·
    rw [if_neg c3] at H
    have c3b0:decide (x5_1<x6_1)=φ:=decide_eq_false c3
    clear c3
    obtain rfl:=Option.some.inj H
    go_wp2
    go_ret
    exact ⟨by first|rfl|(simp;done)|(simp [*];done),by repeat (first|exact Drawn0.refl _|apply Drawn0.step)⟩


open Go.Proofs.YteghpdmlpefnfaaDoorW.PrintWords renaming gate_dst → δx, below_size → δs, below_step → δr, gate_callee → δv, pw_below_drewN → δi, gate_builtin → δy
open List renaming map_toArray → δd, map_cons → δe, map_nil → δf
open Go.Proofs.YteghpdmlpefnfaaDoorW.PrintWords.Kd renaming R_drewN → ζc

/-! ### spec_l03Scan: function 98 -/
def spec_l03Scan.l0:Nat→List (S71)→ByteArray→List (S71)→Int→Option ((List (S71)))
 | 0,_,_,_,_=>none
 | k+1,x0,x1,x5,x6=>if x6<(x0.length:Int) then (if 0≤x6 then (if (((rd_T71 x0 x6).f0).size:Int) ≥ (x1.size:Int) then (if 0≤(x1.size:Int) then (if (x1.size:Int)≤(((rd_T71 x0 x6).f0).size:Int) then (if (((rd_T71 x0 x6).f0).extract 0 (x1.size)).toList=x1.toList then (if x5.length<4398046511104 then (spec_l03Scan.l0 k x0 x1 (x5 ++ [(⟨(rd_T71 x0 x6).f0,(rd_T71 x0 x6).f1⟩:S71)]) (ζm (x6+1))) else (none)) else (some x5)) else (none)) else (none)) else (some x5)) else (none)) else (some x5)
def spec_l03Scan.f (k:Nat) (l0:List (S71)) (a1:ByteArray):Option ((List (S71))):=(spec_l03At.f k l0 a1).bind fun t501=>(spec_l03Scan.l0 k l0 a1 (([]:List (S71))) t501)
set_option maxHeartbeats 8000000 in
set_option maxRecDepth 100000 in
theorem spec_l03Scan.calls (k:Nat) (A0:Option Addr) (c0:Nat) (l0:List (S71)) (a1:ByteArray) (r:List (S71)) (w:World) (hr0:Kd.C k71 w A0 l0.length l0) (hc0:l0.length≤c0) (h:spec_l03Scan.f k l0 a1=some r) :
  Calls Tryd.prog 98 #[.slice A0 l0.length c0,.string a1] w fun e w' => ∃ v0_:Value,e = .returned (v0_)∧Kd.R k71 71 w' w.heap.size (fun _=>True) v0_ r∧Below w.heap.size w w':=by
 have hu71:=Tryd.underlying71
 have HR0:=ζa hr0
 have HC0:=ζa hc0
 clear hr0 hc0
 have HB:=ζa (Below.refl w.heap.size w)
 have H:((spec_l03At.f k l0 a1).bind fun t501=>(spec_l03Scan.l0 k l0 a1 (([]:List (S71))) t501))=some r:=h
 clear h
 obtain ⟨y498,hy498⟩ : ∃ y_:List (S71),y_=(([]:List (S71))):=⟨_,rfl⟩
 replace H:((spec_l03At.f k l0 a1).bind fun t501=>(spec_l03Scan.l0 k l0 a1 y498 t501))=some r:=by (rw [hy498];with_reducible exact H)
 have Ny498:=ζa hy498
 clear hy498
 replace H:=Option.bind_eq_some_iff.mp H
 obtain ⟨t501,A30,H⟩:=H
 replace H:(spec_l03Scan.l0 k l0 a1 y498 t501)=some r:=H
 have A3:=ζa A30
 clear A30
 have H':=ζa H
 clear H
 go_enter Tryd.func98,Tryd.ntmps98
 go_wp2_with (first|((with_reducible refine δx (N:=7) rfl ?_);(try (refine gate_guard (by rfl) ?_;dsimp only));refine Kd.R_lit k71 _ 71 ?hg (N:=7) ?hd (xs:=([]:List (S71))) (inner:=[]) (ok:=fun _=>True) (okp:=fun _=>True) ?hr ?hp (fun _ hk=>hk) trivial (Below.refl _ _) (Nat.le_refl _) (by simp) ?_;(case hd=>rfl);(case hg=>rfl);(case hr=>(go_simp;done));(case hp=>exact (Reps.none _ _));intro v499 w4 ho5 hb hg_ hnew_;clear hg_ hnew_;(rw [← Ny498.out] at ho5);have n0_:=ζa (Kd.R_lower ho5 (δs (by exact HB.out)));have n1_:=ζa (δr (by exact HB.out) hb);clear HB;have HO500:=n0_;have HB:=n1_;clear n0_ n1_;clear hb ho5)|((with_reducible refine δv (f:=123) rfl ?_);refine goesL_ (some 10) rfl rfl Tryd.func123 (by kernel_rfl) rfl #[.slice A0 l0.length c0,.string a1] rfl (by (try simp only [δd,δe,δf]);rfl) ?_;(with_reducible refine (spec_l03At.calls k _ _ l0 a1 t501 _ ?side1 ?side2 A3.out).mono ?_);(case side1=>repeat (exact (Kd.C_below HR0.out HB.out)));(case side2=>exact HC0.out);rintro e w' ⟨rfl,⟨nd,rfl⟩⟩;refine ⟨_,rfl,?_⟩))
 go_loopg [5,6] k (fun kq v5 v6 w' => ∃ (x5_1:List (S71)) (x6_1:Int),v6 = .int .i64 x6_1∧Aside0 (spec_l03Scan.l0 kq l0 a1 x5_1 x6_1=some r)∧Aside0 (kq≤k)∧Aside0 (Kd.R k71 71 w' w.heap.size (fun _=>True) v5 x5_1)∧Aside0 (Below w.heap.size w w'))
 case atStart=>exact ⟨(y498),(t501),(by rfl),H',⟨Nat.le_refl _⟩,⟨by (with_reducible repeat (apply ζc));exact HO500.out⟩,⟨by repeat ((with_reducible first|exact HB.out|apply δi))⟩⟩
 case round =>
  clear H'
  try clear c1
  try clear p2
  obtain ⟨x5_1,x6_1,rfl,HA,HK1,HO_5,HB⟩:=hrel
  cases gk with
  | zero=>exact absurd HA.out (by simp [spec_l03Scan.l0])
  | succ k1 =>
   have H:=HA.out
   clear HA
   simp only [spec_l03Scan.l0] at H
   by_cases c6:x6_1<(l0.length:Int)
   ·
    rw [if_pos c6] at H
    have c6b0:decide (x6_1<(l0.length:Int))=τ:=decide_eq_true c6
    clear c6
    by_cases c7:0≤x6_1
    ·
     rw [if_pos c7] at H
     have c7b0:decide (0≤x6_1)=τ:=decide_eq_true c7
     clear c7
     by_cases c8:(((rd_T71 l0 x6_1).f0).size:Int) ≥ (a1.size:Int)
     ·
      rw [if_pos c8] at H
      have c8b0:decide ((a1.size:Int)≤(((rd_T71 l0 x6_1).f0).size:Int))=τ:=decide_eq_true c8
      have c8b1:decide (a1.size≤((rd_T71 l0 x6_1).f0).size)=τ:=decide_eq_true (Int.ofNat_le.mp c8)
      clear c8
      by_cases c9:0≤(a1.size:Int)
      ·
       rw [if_pos c9] at H
       have c9b0:=eq_true c9
       have c9b1:decide (0≤(a1.size:Int))=τ:=decide_eq_true c9
       clear c9
       by_cases c10:(a1.size:Int)≤(((rd_T71 l0 x6_1).f0).size:Int)
       ·
        rw [if_pos c10] at H
        have c10b0:=eq_true c10
        have c10b1:decide ((a1.size:Int)≤(((rd_T71 l0 x6_1).f0).size:Int))=τ:=decide_eq_true c10
        clear c10
        by_cases c11:(((rd_T71 l0 x6_1).f0).extract 0 (a1.size)).toList=a1.toList
        ·
         rw [if_pos c11] at H
         have c11b0:((((rd_T71 l0 x6_1).f0).extract 0 (a1.size)).toList == a1.toList)=τ:=beq_iff_eq.mpr c11
         have c11b1:((((rd_T71 l0 x6_1).f0).extract 0 (a1.size)).toList != a1.toList)=φ:=bne_eq_false_iff_eq.mpr c11
         clear c11
         by_cases c12:x5_1.length<4398046511104
         ·
          rw [if_pos c12] at H
          have LMc12:=ζa c12
          clear c12
          obtain ⟨y505,hy505⟩ : ∃ y_:List (S71),y_=(x5_1 ++ [(⟨(rd_T71 l0 x6_1).f0,(rd_T71 l0 x6_1).f1⟩:S71)]):=⟨_,rfl⟩
          replace H:(spec_l03Scan.l0 k1 l0 a1 y505 (ζm (x6_1+1)))=some r:=by (rw [hy505];with_reducible exact H)
          have Ny505:=ζa hy505
          clear hy505
          have H':=ζa H
          clear H
          have p502:0≤(x6_1:Int):=of_decide_eq_true (by (with_reducible assumption))
          have q502:x6_1<(l0.length:Int):=of_decide_eq_true (by (with_reducible assumption))
          obtain ⟨ad502,e502,hx502_0,hx502_1⟩:=at_T71 HR0.out x6_1 p502 q502
          cases e502
          replace hx502_0:=(HB.out.cell (World.block_lt_of_cell? w _ hx502_0)).trans hx502_0
          replace hx502_1:=(HB.out.cell (World.block_lt_of_cell? w _ hx502_1)).trans hx502_1
          replace p502:=eq_true p502
          replace q502:=eq_true q502
          have p503:0≤(x6_1:Int):=of_decide_eq_true (by (with_reducible assumption))
          have q503:x6_1<(l0.length:Int):=of_decide_eq_true (by (with_reducible assumption))
          obtain ⟨ad503,e503,hx503_0,hx503_1⟩:=at_T71 HR0.out x6_1 p503 q503
          obtain rfl:ad502=ad503:=(by injection e503)
          replace hx503_0:=(HB.out.cell (World.block_lt_of_cell? w _ hx503_0)).trans hx503_0
          replace hx503_1:=(HB.out.cell (World.block_lt_of_cell? w _ hx503_1)).trans hx503_1
          replace p503:=eq_true p503
          replace q503:=eq_true q503
          have p504:0≤(x6_1:Int):=of_decide_eq_true (by (with_reducible assumption))
          have q504:x6_1<(l0.length:Int):=of_decide_eq_true (by (with_reducible assumption))
          obtain ⟨ad504,e504,hx504_0,hx504_1⟩:=at_T71 HR0.out x6_1 p504 q504
          obtain rfl:ad502=ad504:=(by injection e504)
          replace hx504_0:=(HB.out.cell (World.block_lt_of_cell? w _ hx504_0)).trans hx504_0
          replace hx504_1:=(HB.out.cell (World.block_lt_of_cell? w _ hx504_1)).trans hx504_1
          replace p504:=eq_true p504
          replace q504:=eq_true q504
          go_wp2_with (((with_reducible refine δy (b:=.append) (xs:=#[.tmp 40,.tmp 45]) rfl ?_);(try (refine gate_guard (by rfl) ?_;dsimp only));at_builtin;refine Kd.R_append k71 (w0:=w) w.heap.size rfl (.tmp 40) (.tmp 45) 36 71 (.agg #[(.string ⟨#[]⟩),(.string ⟨#[]⟩)]) 32 rfl Tryd.underlying36 info71 rfl (by decide) (by omega) u5 x5_1 (⟨(rd_T71 l0 x6_1).f0,(rd_T71 l0 x6_1).f1⟩:S71) [.string ((rd_T71 l0 x6_1).f0),.string ((rd_T71 l0 x6_1).f1)] (fun _=>True) (fun _=>False) rfl rfl ?aP (fun _ hk=>hk.elim) ?aF ?aO ?aB ?aS ?aL ?_;(case aP=>exact k71_mkM _ _ _ (⟨(rd_T71 l0 x6_1).f0,(rd_T71 l0 x6_1).f1⟩:S71));(case aB=>exact (by exact HB.out));(case aF=>exact (fun _ _=>trivial));(case aO=>exact (by exact HO_5.out));(case aS=>exact (δs (by exact HB.out)));(case aL=>have:=LMc12.out;omega);intro v506 w13 ho hb hg hat;rw [← Ny505.out] at ho;have n0_:=ζa (hb);have n1_:=ζa (ho);clear HB;clear HO_5;have HB:=n0_;have HO507:=n1_;clear n0_ n1_;clear ho hb hg hat))
          go_roundg k1
          case measure=>have:=HK1.out;omega
          case rel=>exact ⟨(y505),(ζm (x6_1+1)),(by rfl),H',⟨by have:=HK1.out;omega⟩,⟨by exact HO507.out⟩,⟨by repeat ((with_reducible exact HB.out))⟩⟩
         ·
          rw [if_neg c12] at H
          exact absurd H (by simp)
        ·
         rw [if_neg c11] at H
         have c11b0:((((rd_T71 l0 x6_1).f0).extract 0 (a1.size)).toList == a1.toList)=φ:=beq_eq_false_iff_ne.mpr c11
         have c11b1:((((rd_T71 l0 x6_1).f0).extract 0 (a1.size)).toList != a1.toList)=τ:=bne_iff_ne.mpr c11
         obtain rfl:=Option.some.inj H
         have p502:0≤(x6_1:Int):=of_decide_eq_true (by (with_reducible assumption))
         have q502:x6_1<(l0.length:Int):=of_decide_eq_true (by (with_reducible assumption))
         obtain ⟨ad502,e502,hx502_0,hx502_1⟩:=at_T71 HR0.out x6_1 p502 q502
         cases e502
         replace hx502_0:=(HB.out.cell (World.block_lt_of_cell? w _ hx502_0)).trans hx502_0
         replace hx502_1:=(HB.out.cell (World.block_lt_of_cell? w _ hx502_1)).trans hx502_1
         replace p502:=eq_true p502
         replace q502:=eq_true q502
         have p503:0≤(x6_1:Int):=of_decide_eq_true (by (with_reducible assumption))
         have q503:x6_1<(l0.length:Int):=of_decide_eq_true (by (with_reducible assumption))
         obtain ⟨ad503,e503,hx503_0,hx503_1⟩:=at_T71 HR0.out x6_1 p503 q503
         obtain rfl:ad502=ad503:=(by injection e503)
         replace hx503_0:=(HB.out.cell (World.block_lt_of_cell? w _ hx503_0)).trans hx503_0
         replace hx503_1:=(HB.out.cell (World.block_lt_of_cell? w _ hx503_1)).trans hx503_1
         replace p503:=eq_true p503
         replace q503:=eq_true q503
         go_wp2
         go_ret
         exact ⟨_,by rfl,by exact HO_5.out,by repeat ((with_reducible exact HB.out))⟩
       ·
        rw [if_neg c10] at H
        exact absurd H (by simp)
      ·
       rw [if_neg c9] at H
       exact absurd H (by simp)
     ·
      rw [if_neg c8] at H
      have c8b0:decide ((a1.size:Int)≤(((rd_T71 l0 x6_1).f0).size:Int))=φ:=decide_eq_false c8
      have c8b1:decide (a1.size≤((rd_T71 l0 x6_1).f0).size)=φ:=decide_eq_false (fun h=>c8 (Int.ofNat_le.mpr h))
      clear c8
      obtain rfl:=Option.some.inj H
      have p502:0≤(x6_1:Int):=of_decide_eq_true (by (with_reducible assumption))
      have q502:x6_1<(l0.length:Int):=of_decide_eq_true (by (with_reducible assumption))
      obtain ⟨ad502,e502,hx502_0,hx502_1⟩:=at_T71 HR0.out x6_1 p502 q502
      cases e502
      replace hx502_0:=(HB.out.cell (World.block_lt_of_cell? w _ hx502_0)).trans hx502_0
      replace hx502_1:=(HB.out.cell (World.block_lt_of_cell? w _ hx502_1)).trans hx502_1
      replace p502:=eq_true p502
      replace q502:=eq_true q502
      go_wp2
      go_ret
      exact ⟨_,by rfl,by exact HO_5.out,by repeat ((with_reducible exact HB.out))⟩
    ·
     rw [if_neg c7] at H
     exact absurd H (by simp)
   ·
    rw [if_neg c6] at H
    have c6b0:decide (x6_1<(l0.length:Int))=φ:=decide_eq_false c6
    clear c6
    obtain rfl:=Option.some.inj H
    go_wp2
    go_ret
    exact ⟨_,by rfl,by exact HO_5.out,by repeat ((with_reducible exact HB.out))⟩


open Go.Proofs.YteghpdmlpefnfaaDoorW.PrintWords renaming gate_dst → δx, below_size → δs, below_step → δr, gate_callee → δv, below_drew1 → δj, blk_cell → δl, blk_frozen → δm, cell_far → δt, add_block → δu, gate_builtin → δy, below_set → δq, blk_put → δw
open Go.Proofs.YteghpdmlpefnfaaDoorW.PrintWords.Kd renaming R_below → ζh, R_drew → ζe, R_reads' → ζg, own_blk → ζb, R_ne → ζf, R_far → ζi

/-! ### spec_l09All: function 58 -/
def spec_l09All.l0:Nat→List (S42)→List (S71)→Int→Option ((List (S42)))
 | 0,_,_,_=>none
 | k+1,x3,x4,x5=>if x5<(x4.length:Int) then (if 0≤x5 then (if 2≤(((rd_T71 x4 x5).f0).size:Int) then ((spec_l09Read.f k (((rd_T71 x4 x5).f0).extract 2 ((rd_T71 x4 x5).f0).size) ((rd_T71 x4 x5).f1)).bind fun bt516=>(if bt516.2.2.2.2.2.2=τ then (if x3.length<2199023255552 then (spec_l09All.l0 k (x3 ++ [(⟨bt516.1,bt516.2.1,bt516.2.2.1,bt516.2.2.2.1,bt516.2.2.2.2.1,bt516.2.2.2.2.2.1⟩:S42)]) x4 (ζm (x5+1))) else (none)) else (spec_l09All.l0 k x3 x4 (ζm (x5+1))))) else (none)) else (none)) else (some x3)
def spec_l09All.f (k:Nat) (l0:List (S71)):Option ((List (S42))):=(spec_l03Scan.f k l0 (⟨#[111,47]⟩:ByteArray)).bind fun t511=>(spec_l09All.l0 k (([]:List (S42))) t511 0)
def spec_l09All.T6:Bool × List (List Nat × List Nat):=(τ,[([],[]),([],[]),([0,1],[0,1]),([2],[2]),([3],[3]),([4],[4]),([],[]),([],[]),([6,7],[6,7]),([8],[8]),([9],[9]),([5,10],[5,10]),([11],[11]),([12],[12]),([12],[12]),([],[]),([15,13,11,0,1,2,3,4,5,6,7,8,9,10,11,12,13,15],[13,15]),([14,16,0,1,2,3,4,5,6,7,8,9,10,11,12,13,14,15,16],[14])])
def spec_l09All.B6:List Nat:=[0,0,3,7,15,31,0,0,192,448,960,2047,4095,8191,8191,0,49151,131071]
theorem spec_l09All.tab6:rtab .any (opsOf Tryd.f58 6)=spec_l09All.T6:=by kernel_rfl
theorem spec_l09All.bits6:waitsOk spec_l09All.T6.2 spec_l09All.B6=τ:=by kernel_rfl
set_option maxHeartbeats 8000000 in
set_option maxRecDepth 100000 in
theorem spec_l09All.calls (k:Nat) (A0:Option Addr) (c0:Nat) (l0:List (S71)) (r:List (S42)) (w:World) (hr0:Kd.C k71 w A0 l0.length l0) (hc0:l0.length≤c0) (h:spec_l09All.f k l0=some r) :
  Calls Tryd.prog 58 #[.slice A0 l0.length c0] w fun e w' => ∃ v0_:Value,e = .returned (v0_)∧Kd.R k42 42 w' w.heap.size (fun _=>True) v0_ r∧Below w.heap.size w w':=by
 have hu42:=Tryd.underlying42
 have HR0:=ζa hr0
 have HC0:=ζa hc0
 clear hr0 hc0
 have HB:=ζa (Below.refl w.heap.size w)
 have H:((spec_l03Scan.f k l0 (⟨#[111,47]⟩:ByteArray)).bind fun t511=>(spec_l09All.l0 k (([]:List (S42))) t511 0))=some r:=h
 clear h
 obtain ⟨y508,hy508⟩ : ∃ y_:List (S42),y_=(([]:List (S42))):=⟨_,rfl⟩
 replace H:((spec_l03Scan.f k l0 (⟨#[111,47]⟩:ByteArray)).bind fun t511=>(spec_l09All.l0 k y508 t511 0))=some r:=by (rw [hy508];with_reducible exact H)
 have Ny508:=ζa hy508
 clear hy508
 replace H:=Option.bind_eq_some_iff.mp H
 obtain ⟨t511,A20,H⟩:=H
 replace H:(spec_l09All.l0 k y508 t511 0)=some r:=H
 have A2:=ζa A20
 clear A20
 have H':=ζa H
 clear H
 go_enter Tryd.func58,Tryd.ntmps58
 go_wp2_with (first|((with_reducible refine δx (N:=8) rfl ?_);refine Kd.R_lit k42 _ 42 ?hg (N:=8) ?hd (xs:=([]:List (S42))) (inner:=[]) (ok:=fun _=>True) (okp:=fun _=>True) ?hr ?hp (fun _ hk=>hk) trivial (Below.refl _ _) (Nat.le_refl _) (by simp) ?_;(case hd=>rfl);(case hg=>rfl);(case hr=>(go_simp;done));(case hp=>exact (Reps.none _ _));intro v509 w3 ho4 hb hg_ hnew_;clear hg_ hnew_;(rw [← Ny508.out] at ho4);have n0_:=ζa (Kd.R_lower ho4 (δs (by exact HB.out)));have n1_:=ζa (δr (by exact HB.out) hb);clear HB;have HO510:=n0_;have HB:=n1_;clear n0_ n1_;clear hb ho4)|((with_reducible refine δv (f:=98) rfl ?_);refine goesL_ (some 10) rfl rfl Tryd.func98 (by kernel_rfl) rfl #[.slice A0 l0.length c0,.string (⟨#[111,47]⟩:ByteArray)] rfl (by (try simp only [δd,δe,δf]);rfl) ?_;(with_reducible refine (spec_l03Scan.calls k _ _ l0 (⟨#[111,47]⟩:ByteArray) t511 _ ?side1 ?side2 A2.out).mono ?_);(case side1=>repeat (exact (Kd.C_below HR0.out HB.out)));(case side2=>exact HC0.out);rintro e w5 ⟨v512,rfl,ho0,hb⟩;refine ⟨_,rfl,?_⟩;have n0_:=ζa (ζh (by exact HO510.out) hb);have n1_:=ζa (Kd.R_lower ho0 (δs (by exact HB.out)));have n2_:=ζa (δr (by exact HB.out) hb);clear HO510;clear HB;have HO510:=n0_;have HO513:=n1_;have HB:=n2_;clear n0_ n1_ n2_;(try clear hb);(try clear hb2);(try clear hk);(try clear hi);(try clear ho0)))
 go_loopg [3,5] k (fun kq v3 v5 w' => ∃ (x3_1:List (S42)) (x5_1:Int),v5 = .int .i64 x5_1∧Aside0 (spec_l09All.l0 kq x3_1 t511 x5_1=some r)∧Aside0 (kq≤k)∧Aside0 (Kd.R k42 42 w' w.heap.size (fun _=>True) v3 x3_1)∧Aside0 (Kd.R k71 71 w' w.heap.size (fun _=>True) v512 t511)∧Aside0 (Below w.heap.size w w'))
 case atStart=>exact ⟨(y508),(0),(by rfl),H',⟨Nat.le_refl _⟩,⟨by exact HO510.out⟩,⟨by exact HO513.out⟩,⟨by repeat ((with_reducible exact HB.out))⟩⟩
 case round =>
  clear H'
  try clear p2
  try clear c5
  obtain ⟨x3_1,x5_1,rfl,HA,HK1,HO_3,HO_4,HB⟩:=hrel
  cases gk with
  | zero=>exact absurd HA.out (by simp [spec_l09All.l0])
  | succ k1 =>
   have H:=HA.out
   clear HA
   simp only [spec_l09All.l0] at H
   by_cases c6:x5_1<(t511.length:Int)
   ·
    rw [if_pos c6] at H
    have c6b0:decide (x5_1<(t511.length:Int))=τ:=decide_eq_true c6
    clear c6
    by_cases c7:0≤x5_1
    ·
     rw [if_pos c7] at H
     have c7b0:decide (0≤x5_1)=τ:=decide_eq_true c7
     clear c7
     by_cases c8:2≤(((rd_T71 t511 x5_1).f0).size:Int)
     ·
      rw [if_pos c8] at H
      have c8b0:=eq_true c8
      have c8b1:decide (2≤(((rd_T71 t511 x5_1).f0).size:Int))=τ:=decide_eq_true c8
      clear c8
      replace H:=Option.bind_eq_some_iff.mp H
      obtain ⟨⟨t516,t517,t518,t519,t520,t521,t522⟩,A90,H⟩:=H
      replace H:(if t522=τ then (if x3_1.length<2199023255552 then (spec_l09All.l0 k1 (x3_1 ++ [(⟨t516,t517,t518,t519,t520,t521⟩:S42)]) t511 (ζm (x5_1+1))) else (none)) else (spec_l09All.l0 k1 x3_1 t511 (ζm (x5_1+1))))=some r:=H
      have A9:=ζa A90
      clear A90
      by_cases c10:t522=τ
      ·
       subst c10
       have H1:(if x3_1.length<2199023255552 then (spec_l09All.l0 k1 (x3_1 ++ [(⟨t516,t517,t518,t519,t520,t521⟩:S42)]) t511 (ζm (x5_1+1))) else (none))=some r:=by rw [if_pos rfl] at H;exact H
       clear H
       have H:=H1
       clear H1
       by_cases c11:x3_1.length<2199023255552
       ·
        rw [if_pos c11] at H
        have LMc11:=ζa c11
        clear c11
        obtain ⟨y524,hy524⟩ : ∃ y_:List (S42),y_=(x3_1 ++ [(⟨t516,t517,t518,t519,t520,t521⟩:S42)]):=⟨_,rfl⟩
        replace H:(spec_l09All.l0 k1 y524 t511 (ζm (x5_1+1)))=some r:=by (rw [hy524];with_reducible exact H)
        have Ny524:=ζa hy524
        clear hy524
        have H':=ζa H
        clear H
        obtain ⟨Ao12,co12,eo12⟩:=Kd.R_slice HO_4.out
        subst eo12
        try go_wp2
        have n0_:=ζa (ζe HO_3.out)
        have n1_:=ζa (ζe HO_4.out)
        have n2_:=ζa (δj HB.out)
        clear HO_3
        clear HO_4
        clear HB
        have HO_3:=n0_
        have HO_4:=n1_
        have HB:=n2_
        clear n0_ n1_ n2_
        have p514:0≤(x5_1:Int):=of_decide_eq_true (by (with_reducible assumption))
        have q514:x5_1<(t511.length:Int):=of_decide_eq_true (by (with_reducible assumption))
        obtain ⟨ad514,e514,hx514_0,hx514_1⟩:=at_T71 (ζg HO_4.out).2.2 x5_1 p514 q514
        cases e514
        replace p514:=eq_true p514
        replace q514:=eq_true q514
        have p515:0≤(x5_1:Int):=of_decide_eq_true (by (with_reducible assumption))
        have q515:x5_1<(t511.length:Int):=of_decide_eq_true (by (with_reducible assumption))
        obtain ⟨ad515,e515,hx515_0,hx515_1⟩:=at_T71 (ζg HO_4.out).2.2 x5_1 p515 q515
        obtain rfl:ad514=ad515:=(by injection e515)
        replace p515:=eq_true p515
        replace q515:=eq_true q515
        refine start_ (n:=18) (S:=fun w'=>w'.cell? (ad514.add ((x5_1).toNat * 2))=some (.string ((rd_T71 t511 x5_1).f0))∧w'.cell? ⟨(ad514.add ((x5_1).toNat * 2)).block,(ad514.add ((x5_1).toNat * 2)).off+1,none⟩=some (.string ((rd_T71 t511 x5_1).f1))∧w'.cell? (ad514.add ((x5_1).toNat * 2))=some (.string ((rd_T71 t511 x5_1).f0))∧w'.cell? ⟨(ad514.add ((x5_1).toNat * 2)).block,(ad514.add ((x5_1).toNat * 2)).off+1,none⟩=some (.string ((rd_T71 t511 x5_1).f1))) (ds:=[]) #[φ,φ,φ,φ,φ,φ,φ,φ,φ,φ,φ,φ,φ,φ,φ,φ,φ,φ] (by kernel_rfl) rfl rfl ⟨hx514_0,hx514_1,hx515_0,hx515_1⟩ (fun hHeld => ?_);refine with_tabW spec_l09All.tab6 spec_l09All.bits6 (fun HT_ HW_ => ?_)
        generalize wr.drew=w13 at HO_3 HO_4 HB hx514_0 hx514_1 hx515_0 hx515_1 hHeld ⊢
        refine ζk (i:=0) (N:=some 18) (v:=?_) (a':=?_) #[τ,φ,φ,φ,φ,φ,φ,φ,φ,φ,φ,φ,φ,φ,φ,φ,φ,φ] rfl rfl (ζj HT_.out (by kernel_rfl)) (fun _ _ _ h=>h) (Or.inl ⟨by rfl,?_⟩) ?_ ?_
        rotate_left
        · intro w';go_simp;with_reducible rfl
        rotate_left
        · simp only [ζl,δa,δb,δc,i64_w,i32_w];rfl
        refine ζk (i:=1) (N:=some 19) (v:=?_) (a':=?_) #[τ,τ,φ,φ,φ,φ,φ,φ,φ,φ,φ,φ,φ,φ,φ,φ,φ,φ] rfl rfl (ζj HT_.out (by kernel_rfl)) (fun _ _ _ h=>h) (Or.inl ⟨by rfl,?_⟩) ?_ ?_
        rotate_left
        · intro w';go_simp;with_reducible rfl
        rotate_left
        · simp only [ζl,δa,δb,δc,i64_w,i32_w];rfl
        refine ζk (i:=2) (N:=some 20) (v:=?_) (a':=?_) #[τ,τ,τ,φ,φ,φ,φ,φ,φ,φ,φ,φ,φ,φ,φ,φ,φ,φ] rfl rfl (ζj HT_.out (by kernel_rfl)) (fun _ _ _ h=>h) (Or.inl ⟨by rfl,?_⟩) ?_ ?_
        rotate_left
        · intro w';go_simp;with_reducible rfl
        rotate_left
        · simp only [ζl,δa,δb,δc,i64_w,i32_w];rfl
        refine ζk (i:=3) (N:=some 21) (v:=?_) (a':=?_) #[τ,τ,τ,τ,φ,φ,φ,φ,φ,φ,φ,φ,φ,φ,φ,φ,φ,φ] rfl rfl (ζj HT_.out (by kernel_rfl)) (fun _ _ _ h=>h) (Or.inl ⟨by rfl,?_⟩) ?_ ?_
        rotate_left
        · intro w';go_simp;with_reducible rfl
        rotate_left
        · simp only [ζl,δa,δb,δc,i64_w,i32_w];rfl
        refine ζk (i:=6) (N:=some 24) (v:=?_) (a':=?_) #[τ,τ,τ,τ,φ,φ,τ,φ,φ,φ,φ,φ,φ,φ,φ,φ,φ,φ] rfl rfl (ζj HT_.out (by kernel_rfl)) (fun _ _ _ h=>h) (Or.inl ⟨by rfl,?_⟩) ?_ ?_
        rotate_left
        · intro w';go_simp;with_reducible rfl
        rotate_left
        · simp only [ζl,δa,δb,δc,i64_w,i32_w];rfl
        refine ζk (i:=7) (N:=some 25) (v:=?_) (a':=?_) #[τ,τ,τ,τ,φ,φ,τ,τ,φ,φ,φ,φ,φ,φ,φ,φ,φ,φ] rfl rfl (ζj HT_.out (by kernel_rfl)) (fun _ _ _ h=>h) (Or.inl ⟨by rfl,?_⟩) ?_ ?_
        rotate_left
        · intro w';go_simp;with_reducible rfl
        rotate_left
        · simp only [ζl,δa,δb,δc,i64_w,i32_w];rfl
        refine ζk (i:=8) (N:=some 26) (v:=?_) (a':=?_) #[τ,τ,τ,τ,φ,φ,τ,τ,τ,φ,φ,φ,φ,φ,φ,φ,φ,φ] rfl rfl (ζj HT_.out (by kernel_rfl)) (fun _ _ _ h=>h) (Or.inl ⟨by rfl,?_⟩) ?_ ?_
        rotate_left
        · intro w';go_simp;with_reducible rfl
        rotate_left
        · simp only [ζl,δa,δb,δc,i64_w,i32_w];rfl
        refine ζk (i:=9) (N:=some 27) (v:=?_) (a':=?_) #[τ,τ,τ,τ,φ,φ,τ,τ,τ,τ,φ,φ,φ,φ,φ,φ,φ,φ] rfl rfl (ζj HT_.out (by kernel_rfl)) (fun _ _ _ h=>h) (Or.inl ⟨by rfl,?_⟩) ?_ ?_
        rotate_left
        · intro w';go_simp;with_reducible rfl
        rotate_left
        · simp only [ζl,δa,δb,δc,i64_w,i32_w];rfl
        refine take_ (i:=4) (N:=some 22) (v:=?_) (a':=?_) #[τ,τ,τ,τ,τ,φ,τ,τ,τ,τ,φ,φ,φ,φ,φ,φ,φ,φ] rfl rfl (take_ofW HT_.out HW_.out (by kernel_rfl)) (fun _ _ _ h=>h) (Or.inl ⟨by rfl,?_⟩) hHeld ?_ ?_
        rotate_left
        · rintro w' ⟨s0,s1,s2,s3⟩;go_simp;with_reducible rfl
        rotate_left
        · simp only [ζl,δa,δb,δc,i64_w,i32_w];rfl
        refine ζk (i:=5) (N:=some 23) (v:=?_) (a':=?_) #[τ,τ,τ,τ,τ,τ,τ,τ,τ,τ,φ,φ,φ,φ,φ,φ,φ,φ] rfl rfl (ζj HT_.out (by kernel_rfl)) (fun _ _ _ h=>h) (Or.inl ⟨by rfl,?_⟩) ?_ ?_
        rotate_left
        · intro w';go_simp;with_reducible rfl
        rotate_left
        · simp only [ζl,δa,δb,δc,i64_w,i32_w];rfl
        refine take_ (i:=10) (N:=some 28) (v:=?_) (a':=?_) #[τ,τ,τ,τ,τ,τ,τ,τ,τ,τ,τ,φ,φ,φ,φ,φ,φ,φ] rfl rfl (take_ofW HT_.out HW_.out (by kernel_rfl)) (fun _ _ _ h=>h) (Or.inl ⟨by rfl,?_⟩) hHeld ?_ ?_
        rotate_left
        · rintro w' ⟨s0,s1,s2,s3⟩;go_simp;with_reducible rfl
        rotate_left
        · simp only [ζl,δa,δb,δc,i64_w,i32_w];rfl
        refine join_ (σ:=Nat) 2 #[τ,τ,τ,τ,τ,τ,τ,τ,τ,τ,τ,τ,τ,τ,τ,τ,φ,φ] (fun s_ => [(29,.tuple #[.agg #[.string t516,.string t517,.int .i64 t518,.int .i64 t519,.int .i64 t520,.bool t521],.bool τ]),(6,.pointer (some ⟨s_,0,none⟩)),(17,.tuple #[.agg #[.string t516,.string t517,.int .i64 t518,.int .i64 t519,.int .i64 t520,.bool t521],.bool τ]),(30,.agg #[.string t516,.string t517,.int .i64 t518,.int .i64 t519,.int .i64 t520,.bool t521]),(31,.bool τ)]) (fun s_ w'=>(w'.cell? (ad514.add ((x5_1).toNat * 2))=some (.string ((rd_T71 t511 x5_1).f0))∧w'.cell? ⟨(ad514.add ((x5_1).toNat * 2)).block,(ad514.add ((x5_1).toNat * 2)).off+1,none⟩=some (.string ((rd_T71 t511 x5_1).f1))∧w'.cell? (ad514.add ((x5_1).toNat * 2))=some (.string ((rd_T71 t511 x5_1).f0))∧w'.cell? ⟨(ad514.add ((x5_1).toNat * 2)).block,(ad514.add ((x5_1).toNat * 2)).off+1,none⟩=some (.string ((rd_T71 t511 x5_1).f1)))∧(Kd.R k42 42 w' w.heap.size (fun k_=>k_≠s_) u3 x3_1)∧(Kd.R k71 71 w' w.heap.size (fun _=>True) (.slice (some ad514) t511.length co12) t511)∧(w'.heap[s_]? = some (.cells #[.string (⟨#[]⟩:ByteArray),.string (⟨#[]⟩:ByteArray),.int .i64 0,.int .i64 0,.int .i64 0,.bool φ] 42 (0,0)))∧(w.heap.size≤s_)∧(w.heap.size≤s_)∧(Below w.heap.size w w')) ?_ ?_
        rotate_left
        ·
         intro hCont
         refine two_ (i:=11) (j:=15) (Ni:=some 29) (Nj:=some 6) #[τ,τ,τ,τ,τ,τ,τ,τ,τ,τ,τ,τ,φ,φ,φ,φ,φ,φ] #[τ,τ,τ,τ,τ,τ,τ,τ,τ,τ,τ,φ,φ,φ,φ,τ,φ,φ] rfl rfl rfl rfl (two_of HT_.out (by kernel_rfl)) (by decide) (by decide) (fun K hK => ?_) (fun K hK => ?_)
         ·
          skip
          refine goes_ Tryd.func94 (by kernel_rfl) rfl #[.string (((rd_T71 t511 x5_1).f0).extract 2 ((rd_T71 t511 x5_1).f0).size),.string ((rd_T71 t511 x5_1).f1)] (by rfl) rfl rfl (by (try simp only [δd,δe,δf]);rfl) ?_
          with_reducible refine (spec_l09Read.calls k1 (((rd_T71 t511 x5_1).f0).extract 2 ((rd_T71 t511 x5_1).f0).size) ((rd_T71 t511 x5_1).f1) t516 t517 t518 t519 t520 t521 τ _ A9.out).mono ?_
          rintro e w14 ⟨rfl,hb⟩
          have HS0_:=(hb.cell (World.block_lt_of_cell? _ _ (hHeld.1))).trans (hHeld.1)
          have HS1_:=(hb.cell (World.block_lt_of_cell? _ _ (hHeld.2.1))).trans (hHeld.2.1)
          have HS2_:=(hb.cell (World.block_lt_of_cell? _ _ (hHeld.2.2.1))).trans (hHeld.2.2.1)
          have HS3_:=(hb.cell (World.block_lt_of_cell? _ _ (hHeld.2.2.2))).trans (hHeld.2.2.2)
          refine ⟨_,rfl,?_⟩
          have n0_:=ζa (ζh (by exact HO_3.out) hb)
          have n1_:=ζa (ζh (by exact HO_4.out) hb)
          have n2_:=ζa (δr (by exact HB.out) hb)
          clear HO_3
          clear HO_4
          clear HB
          have HO_3:=n0_
          have HO_4:=n1_
          have HB:=n2_
          clear n0_ n1_ n2_
          (try clear hb)
          (try clear hb2)
          (try clear hk)
          (try clear hi)
          refine hK.out _ _ ⟨HS0_,HS1_,HS2_,HS3_⟩ (fun hHeld => ?_)
          clear hK K
          refine norm_ (a':=?_) ?_ ?_
          rotate_left
          ·
           show ζl _ (some 29) _=_
           simp only [ζl,δa,δb,δc,i64_w,i32_w];rfl
          refine ζk (i:=12) (N:=some 17) (v:=?_) (a':=?_) #[τ,τ,τ,τ,τ,τ,τ,τ,τ,τ,τ,τ,τ,φ,φ,φ,φ,φ] rfl rfl (ζj HT_.out (by kernel_rfl)) (fun _ _ _ h=>h) (Or.inl ⟨by rfl,?_⟩) ?_ ?_
          rotate_left
          · intro w';go_simp;with_reducible rfl
          rotate_left
          · simp only [ζl,δa,δb,δc,i64_w,i32_w];rfl
          refine ζk (i:=13) (N:=some 30) (v:=?_) (a':=?_) #[τ,τ,τ,τ,τ,τ,τ,τ,τ,τ,τ,τ,τ,τ,φ,φ,φ,φ] rfl rfl (ζj HT_.out (by kernel_rfl)) (fun _ _ _ h=>h) (Or.inl ⟨by rfl,?_⟩) ?_ ?_
          rotate_left
          · intro w';go_simp;with_reducible rfl
          rotate_left
          · simp only [ζl,δa,δb,δc,i64_w,i32_w];rfl
          refine ζk (i:=14) (N:=some 31) (v:=?_) (a':=?_) #[τ,τ,τ,τ,τ,τ,τ,τ,τ,τ,τ,τ,τ,τ,τ,φ,φ,φ] rfl rfl (ζj HT_.out (by kernel_rfl)) (fun _ _ _ h=>h) (Or.inl ⟨by rfl,?_⟩) ?_ ?_
          rotate_left
          · intro w';go_simp;with_reducible rfl
          rotate_left
          · simp only [ζl,δa,δb,δc,i64_w,i32_w];rfl
          refine one_ (i:=15) (N:=some 6) #[τ,τ,τ,τ,τ,τ,τ,τ,τ,τ,τ,τ,τ,τ,τ,τ,φ,φ] rfl rfl (one_of HT_.out (by kernel_rfl)) (by decide) (fun K hK => ?_)
          refine box_step ?hg (N:=6) ?hd (cs:=#[.string (⟨#[]⟩:ByteArray),.string (⟨#[]⟩:ByteArray),.int .i64 0,.int .i64 0,.int .i64 0,.bool φ]) (t:=42) ?hr ?_;(case hd=>rfl);(case hg=>rfl);(case hr=>(go_simp;done))
          intro gb523 hg w15 hbox hb
          have HS0_:=(hb.cell (World.block_lt_of_cell? _ _ (hHeld.1))).trans (hHeld.1)
          have HS1_:=(hb.cell (World.block_lt_of_cell? _ _ (hHeld.2.1))).trans (hHeld.2.1)
          have HS2_:=(hb.cell (World.block_lt_of_cell? _ _ (hHeld.2.2.1))).trans (hHeld.2.2.1)
          have HS3_:=(hb.cell (World.block_lt_of_cell? _ _ (hHeld.2.2.2))).trans (hHeld.2.2.2)
          have n0_:=ζa (ζh (Kd.R_elderB (by exact HO_3.out) gb523 (Nat.le_of_eq hg.symm)) hb)
          have n1_:=ζa (ζh (by exact HO_4.out) hb)
          have n2_:=ζa (δr (by exact HB.out) hb)
          have n3_:=ζa (hbox)
          have n4_:=ζa ((by rw [hg];exact (δs (by exact HB.out)):w.heap.size≤gb523))
          have n5_:=ζa ((by rw [hg];exact (δs (by exact HB.out)):w.heap.size≤gb523))
          clear HO_3
          clear HO_4
          clear HB
          have HO_3:=n0_
          have HO_4:=n1_
          have HB:=n2_
          have BK523:=n3_
          have GW523:=n4_
          have GE523:=n5_
          clear n0_ n1_ n2_ n3_ n4_ n5_
          clear hb hbox hg
          refine hK.out _ _ ⟨HS0_,HS1_,HS2_,HS3_⟩ (fun hHeld => ?_)
          clear hK K
          refine norm_ (a':=?_) ?_ ?_
          rotate_left
          ·
           show ζl _ (some 6) _=_
           simp only [ζl,δa,δb,δc,i64_w,i32_w];rfl
          exact norm_ (by simp only [putAll,ζl,δa,δb,δc]) (hCont (gb523) _ ⟨hHeld,(by exact Kd.R_mono HO_3.out (fun _ hk=>hk.2)),(by exact HO_4.out),(by exact BK523.out),GW523.out,GE523.out,(by exact HB.out)⟩)
         ·
          skip
          refine box_step ?hg (N:=6) ?hd (cs:=#[.string (⟨#[]⟩:ByteArray),.string (⟨#[]⟩:ByteArray),.int .i64 0,.int .i64 0,.int .i64 0,.bool φ]) (t:=42) ?hr ?_;(case hd=>rfl);(case hg=>rfl);(case hr=>(go_simp;done))
          intro gb523 hg w14 hbox hb
          have HS0_:=(hb.cell (World.block_lt_of_cell? _ _ (hHeld.1))).trans (hHeld.1)
          have HS1_:=(hb.cell (World.block_lt_of_cell? _ _ (hHeld.2.1))).trans (hHeld.2.1)
          have HS2_:=(hb.cell (World.block_lt_of_cell? _ _ (hHeld.2.2.1))).trans (hHeld.2.2.1)
          have HS3_:=(hb.cell (World.block_lt_of_cell? _ _ (hHeld.2.2.2))).trans (hHeld.2.2.2)
          have n0_:=ζa (ζh (Kd.R_elderB (by exact HO_3.out) gb523 (Nat.le_of_eq hg.symm)) hb)
          have n1_:=ζa (ζh (by exact HO_4.out) hb)
          have n2_:=ζa (δr (by exact HB.out) hb)
          have n3_:=ζa (hbox)
          have n4_:=ζa ((by rw [hg];exact (δs (by exact HB.out)):w.heap.size≤gb523))
          have n5_:=ζa ((by rw [hg];exact (δs (by exact HB.out)):w.heap.size≤gb523))
          clear HO_3
          clear HO_4
          clear HB
          have HO_3:=n0_
          have HO_4:=n1_
          have HB:=n2_
          have BK523:=n3_
          have GW523:=n4_
          have GE523:=n5_
          clear n0_ n1_ n2_ n3_ n4_ n5_
          clear hb hbox hg
          refine hK.out _ _ ⟨HS0_,HS1_,HS2_,HS3_⟩ (fun hHeld => ?_)
          clear hK K
          refine norm_ (a':=?_) ?_ ?_
          rotate_left
          ·
           show ζl _ (some 6) _=_
           simp only [ζl,δa,δb,δc,i64_w,i32_w];rfl
          refine one_ (i:=11) (N:=some 29) #[τ,τ,τ,τ,τ,τ,τ,τ,τ,τ,τ,τ,φ,φ,φ,τ,φ,φ] rfl rfl (one_of HT_.out (by kernel_rfl)) (by decide) (fun K hK => ?_)
          refine goes_ Tryd.func94 (by kernel_rfl) rfl #[.string (((rd_T71 t511 x5_1).f0).extract 2 ((rd_T71 t511 x5_1).f0).size),.string ((rd_T71 t511 x5_1).f1)] (by rfl) rfl rfl (by (try simp only [δd,δe,δf]);rfl) ?_
          with_reducible refine (spec_l09Read.calls k1 (((rd_T71 t511 x5_1).f0).extract 2 ((rd_T71 t511 x5_1).f0).size) ((rd_T71 t511 x5_1).f1) t516 t517 t518 t519 t520 t521 τ _ A9.out).mono ?_
          rintro e w15 ⟨rfl,hb⟩
          have HS0_:=(hb.cell (World.block_lt_of_cell? _ _ (hHeld.1))).trans (hHeld.1)
          have HS1_:=(hb.cell (World.block_lt_of_cell? _ _ (hHeld.2.1))).trans (hHeld.2.1)
          have HS2_:=(hb.cell (World.block_lt_of_cell? _ _ (hHeld.2.2.1))).trans (hHeld.2.2.1)
          have HS3_:=(hb.cell (World.block_lt_of_cell? _ _ (hHeld.2.2.2))).trans (hHeld.2.2.2)
          refine ⟨_,rfl,?_⟩
          have n0_:=ζa (ζh (by exact HO_3.out) hb)
          have n1_:=ζa (ζh (by exact HO_4.out) hb)
          have n2_:=ζa (blk_below (g:=gb523) (o:=.cells #[.string (⟨#[]⟩:ByteArray),.string (⟨#[]⟩:ByteArray),.int .i64 0,.int .i64 0,.int .i64 0,.bool φ] 42 (0,0)) (by exact BK523.out) hb)
          have n3_:=ζa (δr (by exact HB.out) hb)
          clear HO_3
          clear HO_4
          clear BK523
          clear HB
          have HO_3:=n0_
          have HO_4:=n1_
          have BK523:=n2_
          have HB:=n3_
          clear n0_ n1_ n2_ n3_
          (try clear hb)
          (try clear hb2)
          (try clear hk)
          (try clear hi)
          refine hK.out _ _ ⟨HS0_,HS1_,HS2_,HS3_⟩ (fun hHeld => ?_)
          clear hK K
          refine norm_ (a':=?_) ?_ ?_
          rotate_left
          ·
           show ζl _ (some 29) _=_
           simp only [ζl,δa,δb,δc,i64_w,i32_w];rfl
          refine ζk (i:=12) (N:=some 17) (v:=?_) (a':=?_) #[τ,τ,τ,τ,τ,τ,τ,τ,τ,τ,τ,τ,τ,φ,φ,τ,φ,φ] rfl rfl (ζj HT_.out (by kernel_rfl)) (fun _ _ _ h=>h) (Or.inl ⟨by rfl,?_⟩) ?_ ?_
          rotate_left
          · intro w';go_simp;with_reducible rfl
          rotate_left
          · simp only [ζl,δa,δb,δc,i64_w,i32_w];rfl
          refine ζk (i:=13) (N:=some 30) (v:=?_) (a':=?_) #[τ,τ,τ,τ,τ,τ,τ,τ,τ,τ,τ,τ,τ,τ,φ,τ,φ,φ] rfl rfl (ζj HT_.out (by kernel_rfl)) (fun _ _ _ h=>h) (Or.inl ⟨by rfl,?_⟩) ?_ ?_
          rotate_left
          · intro w';go_simp;with_reducible rfl
          rotate_left
          · simp only [ζl,δa,δb,δc,i64_w,i32_w];rfl
          refine ζk (i:=14) (N:=some 31) (v:=?_) (a':=?_) #[τ,τ,τ,τ,τ,τ,τ,τ,τ,τ,τ,τ,τ,τ,τ,τ,φ,φ] rfl rfl (ζj HT_.out (by kernel_rfl)) (fun _ _ _ h=>h) (Or.inl ⟨by rfl,?_⟩) ?_ ?_
          rotate_left
          · intro w';go_simp;with_reducible rfl
          rotate_left
          · simp only [ζl,δa,δb,δc,i64_w,i32_w];rfl
          exact norm_ (by simp only [putAll,ζl,δa,δb,δc]) (hCont (gb523) _ ⟨hHeld,(by exact Kd.R_mono HO_3.out (fun _ hk=>hk.2)),(by exact HO_4.out),(by exact BK523.out),GW523.out,GE523.out,(by exact HB.out)⟩)
        rintro gb523 w16 ⟨hS_,h0_,h1_,h2_,h3_,h4_,h5_⟩
        have n0_:Aside0 (Kd.R k42 42 w16 w.heap.size (fun k_=>k_≠gb523) u3 x3_1):=⟨h0_⟩
        have n1_:Aside0 (Kd.R k71 71 w16 w.heap.size (fun _=>True) (.slice (some ad514) t511.length co12) t511):=⟨h1_⟩
        have n2_:Aside0 (w16.heap[gb523]? = some (.cells #[.string (⟨#[]⟩:ByteArray),.string (⟨#[]⟩:ByteArray),.int .i64 0,.int .i64 0,.int .i64 0,.bool φ] 42 (0,0))):=⟨h2_⟩
        have n3_:Aside0 (w.heap.size≤gb523):=⟨h3_⟩
        have n4_:Aside0 (w.heap.size≤gb523):=⟨h4_⟩
        have n5_:Aside0 (Below w.heap.size w w16):=⟨h5_⟩
        clear HO_3
        clear HO_4
        clear HB
        clear h0_ h1_ h2_ h3_ h4_ h5_
        have HO_3:=n0_
        have HO_4:=n1_
        have BK523:=n2_
        have GW523:=n3_
        have GE523:=n4_
        have HB:=n5_
        clear n0_ n1_ n2_ n3_ n4_ n5_
        have hHeld:w16.cell? (ad514.add ((x5_1).toNat * 2))=some (.string ((rd_T71 t511 x5_1).f0))∧w16.cell? ⟨(ad514.add ((x5_1).toNat * 2)).block,(ad514.add ((x5_1).toNat * 2)).off+1,none⟩=some (.string ((rd_T71 t511 x5_1).f1))∧w16.cell? (ad514.add ((x5_1).toNat * 2))=some (.string ((rd_T71 t511 x5_1).f0))∧w16.cell? ⟨(ad514.add ((x5_1).toNat * 2)).block,(ad514.add ((x5_1).toNat * 2)).off+1,none⟩=some (.string ((rd_T71 t511 x5_1).f1)):=hS_
        refine norm_ (a':=?_) ?_ ?_
        rotate_left
        · simp only [putAll,ζl,δa,δb,δc];rfl
        refine one_ (i:=16) (N:=none) #[τ,τ,τ,τ,τ,τ,τ,τ,τ,τ,τ,τ,τ,τ,τ,τ,τ,φ] rfl rfl (one_of HT_.out (by kernel_rfl)) (by decide) (fun K hK => ?_)
        have hs17:w16.cell? ⟨gb523,0,none⟩=some (.string (⟨#[]⟩:ByteArray)):=(δl BK523.out 0).trans rfl
        have hfs17:=δm BK523.out 0
        have hs18:w16.cell? ⟨gb523,1,none⟩=some (.string (⟨#[]⟩:ByteArray)):=(δl BK523.out 1).trans rfl
        have hfs18:=δm BK523.out 1
        have hs19:w16.cell? ⟨gb523,2,none⟩=some (.int .i64 0):=(δl BK523.out 2).trans rfl
        have hfs19:=δm BK523.out 2
        have hs20:w16.cell? ⟨gb523,3,none⟩=some (.int .i64 0):=(δl BK523.out 3).trans rfl
        have hfs20:=δm BK523.out 3
        have hs21:w16.cell? ⟨gb523,4,none⟩=some (.int .i64 0):=(δl BK523.out 4).trans rfl
        have hfs21:=δm BK523.out 4
        have hs22:w16.cell? ⟨gb523,5,none⟩=some (.bool φ):=(δl BK523.out 5).trans rfl
        have hfs22:=δm BK523.out 5
        refine skip_ (w1:=?_) (by rfl) rfl ?_ ?_
        rotate_left
        ·
         go_simp
         rfl
        refine hK.out _ _ ⟨((δt (p:=⟨gb523,_,none⟩) (by (rw [δu];exact ζb (ζf HO_4.out BK523.out (by decide)))) _).trans (((δt (p:=⟨gb523,_,none⟩) (by (rw [δu];exact ζb (ζf HO_4.out BK523.out (by decide)))) _).trans (((δt (p:=⟨gb523,_,none⟩) (by (rw [δu];exact ζb (ζf HO_4.out BK523.out (by decide)))) _).trans (((δt (p:=⟨gb523,_,none⟩) (by (rw [δu];exact ζb (ζf HO_4.out BK523.out (by decide)))) _).trans (((δt (p:=⟨gb523,_,none⟩) (by (rw [δu];exact ζb (ζf HO_4.out BK523.out (by decide)))) _).trans (((δt (p:=⟨gb523,_,none⟩) (by (rw [δu];exact ζb (ζf HO_4.out BK523.out (by decide)))) _).trans (hHeld.1)))))))))))),((δt (p:=⟨gb523,_,none⟩) (by (rw [δu];exact ζb (ζf HO_4.out BK523.out (by decide)))) _).trans (((δt (p:=⟨gb523,_,none⟩) (by (rw [δu];exact ζb (ζf HO_4.out BK523.out (by decide)))) _).trans (((δt (p:=⟨gb523,_,none⟩) (by (rw [δu];exact ζb (ζf HO_4.out BK523.out (by decide)))) _).trans (((δt (p:=⟨gb523,_,none⟩) (by (rw [δu];exact ζb (ζf HO_4.out BK523.out (by decide)))) _).trans (((δt (p:=⟨gb523,_,none⟩) (by (rw [δu];exact ζb (ζf HO_4.out BK523.out (by decide)))) _).trans (((δt (p:=⟨gb523,_,none⟩) (by (rw [δu];exact ζb (ζf HO_4.out BK523.out (by decide)))) _).trans (hHeld.2.1)))))))))))),((δt (p:=⟨gb523,_,none⟩) (by (rw [δu];exact ζb (ζf HO_4.out BK523.out (by decide)))) _).trans (((δt (p:=⟨gb523,_,none⟩) (by (rw [δu];exact ζb (ζf HO_4.out BK523.out (by decide)))) _).trans (((δt (p:=⟨gb523,_,none⟩) (by (rw [δu];exact ζb (ζf HO_4.out BK523.out (by decide)))) _).trans (((δt (p:=⟨gb523,_,none⟩) (by (rw [δu];exact ζb (ζf HO_4.out BK523.out (by decide)))) _).trans (((δt (p:=⟨gb523,_,none⟩) (by (rw [δu];exact ζb (ζf HO_4.out BK523.out (by decide)))) _).trans (((δt (p:=⟨gb523,_,none⟩) (by (rw [δu];exact ζb (ζf HO_4.out BK523.out (by decide)))) _).trans (hHeld.2.2.1)))))))))))),((δt (p:=⟨gb523,_,none⟩) (by (rw [δu];exact ζb (ζf HO_4.out BK523.out (by decide)))) _).trans (((δt (p:=⟨gb523,_,none⟩) (by (rw [δu];exact ζb (ζf HO_4.out BK523.out (by decide)))) _).trans (((δt (p:=⟨gb523,_,none⟩) (by (rw [δu];exact ζb (ζf HO_4.out BK523.out (by decide)))) _).trans (((δt (p:=⟨gb523,_,none⟩) (by (rw [δu];exact ζb (ζf HO_4.out BK523.out (by decide)))) _).trans (((δt (p:=⟨gb523,_,none⟩) (by (rw [δu];exact ζb (ζf HO_4.out BK523.out (by decide)))) _).trans (((δt (p:=⟨gb523,_,none⟩) (by (rw [δu];exact ζb (ζf HO_4.out BK523.out (by decide)))) _).trans (hHeld.2.2.2))))))))))))⟩ (fun hHeld => ?_)
        clear hK K
        refine ζk (i:=17) (N:=some 7) (v:=?_) (a':=?_) #[τ,τ,τ,τ,τ,τ,τ,τ,τ,τ,τ,τ,τ,τ,τ,τ,τ,τ] rfl rfl (ζj HT_.out (by kernel_rfl)) (fun _ _ _ h=>h) (Or.inl ⟨by rfl,?_⟩) ?_ ?_
        rotate_left
        · intro w';go_simp;with_reducible rfl
        rotate_left
        · simp only [ζl,δa,δb,δc,i64_w,i32_w];rfl
        refine done_ (done_of HT_.out (by kernel_rfl)) ?_
        have hcz23_0:w16.cell? ⟨gb523,0,none⟩=some (.string (⟨#[]⟩:ByteArray)):=(δl BK523.out 0).trans rfl
        have hcz23_1:w16.cell? ⟨gb523,1,none⟩=some (.string (⟨#[]⟩:ByteArray)):=(δl BK523.out 1).trans rfl
        have hcz23_2:w16.cell? ⟨gb523,2,none⟩=some (.int .i64 0):=(δl BK523.out 2).trans rfl
        have hcz23_3:w16.cell? ⟨gb523,3,none⟩=some (.int .i64 0):=(δl BK523.out 3).trans rfl
        have hcz23_4:w16.cell? ⟨gb523,4,none⟩=some (.int .i64 0):=(δl BK523.out 4).trans rfl
        have hcz23_5:w16.cell? ⟨gb523,5,none⟩=some (.bool φ):=(δl BK523.out 5).trans rfl
        have hfz23_0:=δm BK523.out 0
        have hfz23_1:=δm BK523.out 1
        have hfz23_2:=δm BK523.out 2
        have hfz23_3:=δm BK523.out 3
        have hfz23_4:=δm BK523.out 4
        have hfz23_5:=δm BK523.out 5
        try go_wp2_with (((with_reducible refine δy (b:=.append) (xs:=#[.tmp 33,.tmp 35]) rfl ?_);at_builtin;refine Kd.R_append k42 (w0:=w) w.heap.size rfl (.tmp 33) (.tmp 35) 47 42 (.agg #[(.string ⟨#[]⟩),(.string ⟨#[]⟩),(.int .i64 0),(.int .i64 0),(.int .i64 0),(.bool φ)]) 64 rfl Tryd.underlying47 info42 rfl (by decide) (by omega) u3 x3_1 (⟨t516,t517,t518,t519,t520,t521⟩:S42) [.string t516,.string t517,.int .i64 t518,.int .i64 t519,.int .i64 t520,.bool t521] (fun k_=>k_≠gb523) (fun _=>False) rfl (by (go_simp;done)) ?aP (fun _ hk=>hk.elim) ?aF ?aO ?aB ?aS ?aL ?_;(case aP=>exact k42_mkM _ _ _ (⟨t516,t517,t518,t519,t520,t521⟩:S42));(case aB=>exact (by repeat ((with_reducible first|exact HB.out|refine δq ?_ GE523.out))));(case aF=>exact (fun k_ hk=>Kd.freshB (g:=gb523) (o:=.cells #[.string t516,.string t517,.int .i64 t518,.int .i64 t519,.int .i64 t520,.bool t521] 42 (0,0)) (by refine δw (cs:=#[.string t516,.string t517,.int .i64 t518,.int .i64 t519,.int .i64 t520,.bool φ]) ?_ 5 _ rfl;refine δw (cs:=#[.string t516,.string t517,.int .i64 t518,.int .i64 t519,.int .i64 0,.bool φ]) ?_ 4 _ rfl;refine δw (cs:=#[.string t516,.string t517,.int .i64 t518,.int .i64 0,.int .i64 0,.bool φ]) ?_ 3 _ rfl;refine δw (cs:=#[.string t516,.string t517,.int .i64 0,.int .i64 0,.int .i64 0,.bool φ]) ?_ 2 _ rfl;refine δw (cs:=#[.string t516,.string (⟨#[]⟩:ByteArray),.int .i64 0,.int .i64 0,.int .i64 0,.bool φ]) ?_ 1 _ rfl;refine δw (cs:=#[.string (⟨#[]⟩:ByteArray),.string (⟨#[]⟩:ByteArray),.int .i64 0,.int .i64 0,.int .i64 0,.bool φ]) ?_ 0 _ rfl;exact BK523.out) k_ hk));(case aO=>exact (by exact Kd.R_mono (ζi (p:=⟨gb523,5,none⟩) (ζi (p:=⟨gb523,4,none⟩) (ζi (p:=⟨gb523,3,none⟩) (ζi (p:=⟨gb523,2,none⟩) (ζi (p:=⟨gb523,1,none⟩) (ζi (p:=⟨gb523,0,none⟩) (Kd.R_mono HO_3.out (fun k_ hk=>(⟨hk,hk⟩:_∧k_≠gb523))) (fun _ hk=>hk.2) (.string t516)) (fun _ hk=>hk.2) (.string t517)) (fun _ hk=>hk.2) (.int .i64 t518)) (fun _ hk=>hk.2) (.int .i64 t519)) (fun _ hk=>hk.2) (.int .i64 t520)) (fun _ hk=>hk.2) (.bool t521)) (fun _ hk=>hk.1)));(case aS=>exact (δs (by repeat ((with_reducible first|exact HB.out|refine δq ?_ GE523.out)))));(case aL=>have:=LMc11.out;omega);intro v525 w24 ho hb hg hat;rw [← Ny524.out] at ho;have n0_:=ζa (Kd.R_over' (by exact (Kd.R_mono (ζi (p:=⟨gb523,5,none⟩) (ζi (p:=⟨gb523,4,none⟩) (ζi (p:=⟨gb523,3,none⟩) (ζi (p:=⟨gb523,2,none⟩) (ζi (p:=⟨gb523,1,none⟩) (ζi (p:=⟨gb523,0,none⟩) (Kd.R_types HO_4.out BK523.out (by decide)) (fun _ hk=>hk.2) (.string t516)) (fun _ hk=>hk.2) (.string t517)) (fun _ hk=>hk.2) (.int .i64 t518)) (fun _ hk=>hk.2) (.int .i64 t519)) (fun _ hk=>hk.2) (.int .i64 t520)) (fun _ hk=>hk.2) (.bool t521)) (fun _ h_=>h_.1))) (Kd.R_typed (by exact (Kd.R_mono (ζi (p:=⟨gb523,5,none⟩) (ζi (p:=⟨gb523,4,none⟩) (ζi (p:=⟨gb523,3,none⟩) (ζi (p:=⟨gb523,2,none⟩) (ζi (p:=⟨gb523,1,none⟩) (ζi (p:=⟨gb523,0,none⟩) (Kd.R_mono HO_3.out (fun k_ hk=>(⟨hk,hk⟩:_∧k_≠gb523))) (fun _ hk=>hk.2) (.string t516)) (fun _ hk=>hk.2) (.string t517)) (fun _ hk=>hk.2) (.int .i64 t518)) (fun _ hk=>hk.2) (.int .i64 t519)) (fun _ hk=>hk.2) (.int .i64 t520)) (fun _ hk=>hk.2) (.bool t521)) (fun _ h_=>h_.1)))) (by decide) hg);have n1_:=ζa (blk_grown (g:=gb523) (o:=.cells #[.string t516,.string t517,.int .i64 t518,.int .i64 t519,.int .i64 t520,.bool t521] 42 (0,0)) (by refine δw (cs:=#[.string t516,.string t517,.int .i64 t518,.int .i64 t519,.int .i64 t520,.bool φ]) ?_ 5 _ rfl;refine δw (cs:=#[.string t516,.string t517,.int .i64 t518,.int .i64 t519,.int .i64 0,.bool φ]) ?_ 4 _ rfl;refine δw (cs:=#[.string t516,.string t517,.int .i64 t518,.int .i64 0,.int .i64 0,.bool φ]) ?_ 3 _ rfl;refine δw (cs:=#[.string t516,.string t517,.int .i64 0,.int .i64 0,.int .i64 0,.bool φ]) ?_ 2 _ rfl;refine δw (cs:=#[.string t516,.string (⟨#[]⟩:ByteArray),.int .i64 0,.int .i64 0,.int .i64 0,.bool φ]) ?_ 1 _ rfl;refine δw (cs:=#[.string (⟨#[]⟩:ByteArray),.string (⟨#[]⟩:ByteArray),.int .i64 0,.int .i64 0,.int .i64 0,.bool φ]) ?_ 0 _ rfl;exact BK523.out) hg (Kd.R_away HO_3.out (fun _ hk=>hk)));have n2_:=ζa (hb);have n3_:=ζa (ho);clear HO_4;clear BK523;clear HB;clear HO_3;have HO_4:=n0_;have BK523:=n1_;have HB:=n2_;have HO526:=n3_;clear n0_ n1_ n2_ n3_;clear ho hb hg hat))
        go_roundg k1
        case measure=>have:=HK1.out;omega
        case rel=>exact ⟨(y524),(ζm (x5_1+1)),(by rfl),H',⟨by have:=HK1.out;omega⟩,⟨by exact Kd.R_mono HO526.out (fun _ hk=>trivial)⟩,⟨by exact HO_4.out⟩,⟨by repeat ((with_reducible exact HB.out))⟩⟩
       ·
        rw [if_neg c11] at H
        exact absurd H (by simp)
      ·
       replace c10:=Bool.eq_false_iff.mpr c10
       subst c10
       have H1:(spec_l09All.l0 k1 x3_1 t511 (ζm (x5_1+1)))=some r:=by rw [if_neg (show ¬ (φ=τ) by decide)] at H;exact H
       clear H
       have H:=H1
       clear H1
       have H':=ζa H
       clear H
       obtain ⟨Ao25,co25,eo25⟩:=Kd.R_slice HO_4.out
       subst eo25
       try go_wp2
       have n0_:=ζa (ζe HO_3.out)
       have n1_:=ζa (ζe HO_4.out)
       have n2_:=ζa (δj HB.out)
       clear HO_3
       clear HO_4
       clear HB
       have HO_3:=n0_
       have HO_4:=n1_
       have HB:=n2_
       clear n0_ n1_ n2_
       have p514:0≤(x5_1:Int):=of_decide_eq_true (by (with_reducible assumption))
       have q514:x5_1<(t511.length:Int):=of_decide_eq_true (by (with_reducible assumption))
       obtain ⟨ad514,e514,hx514_0,hx514_1⟩:=at_T71 (ζg HO_4.out).2.2 x5_1 p514 q514
       cases e514
       replace p514:=eq_true p514
       replace q514:=eq_true q514
       have p515:0≤(x5_1:Int):=of_decide_eq_true (by (with_reducible assumption))
       have q515:x5_1<(t511.length:Int):=of_decide_eq_true (by (with_reducible assumption))
       obtain ⟨ad515,e515,hx515_0,hx515_1⟩:=at_T71 (ζg HO_4.out).2.2 x5_1 p515 q515
       obtain rfl:ad514=ad515:=(by injection e515)
       replace p515:=eq_true p515
       replace q515:=eq_true q515
       refine start_ (n:=18) (S:=fun w'=>w'.cell? (ad514.add ((x5_1).toNat * 2))=some (.string ((rd_T71 t511 x5_1).f0))∧w'.cell? ⟨(ad514.add ((x5_1).toNat * 2)).block,(ad514.add ((x5_1).toNat * 2)).off+1,none⟩=some (.string ((rd_T71 t511 x5_1).f1))∧w'.cell? (ad514.add ((x5_1).toNat * 2))=some (.string ((rd_T71 t511 x5_1).f0))∧w'.cell? ⟨(ad514.add ((x5_1).toNat * 2)).block,(ad514.add ((x5_1).toNat * 2)).off+1,none⟩=some (.string ((rd_T71 t511 x5_1).f1))) (ds:=[]) #[φ,φ,φ,φ,φ,φ,φ,φ,φ,φ,φ,φ,φ,φ,φ,φ,φ,φ] (by kernel_rfl) rfl rfl ⟨hx514_0,hx514_1,hx515_0,hx515_1⟩ (fun hHeld => ?_);refine with_tabW spec_l09All.tab6 spec_l09All.bits6 (fun HT_ HW_ => ?_)
       generalize wr.drew=w26 at HO_3 HO_4 HB hx514_0 hx514_1 hx515_0 hx515_1 hHeld ⊢
       refine ζk (i:=0) (N:=some 18) (v:=?_) (a':=?_) #[τ,φ,φ,φ,φ,φ,φ,φ,φ,φ,φ,φ,φ,φ,φ,φ,φ,φ] rfl rfl (ζj HT_.out (by kernel_rfl)) (fun _ _ _ h=>h) (Or.inl ⟨by rfl,?_⟩) ?_ ?_
       rotate_left
       · intro w';go_simp;with_reducible rfl
       rotate_left
       · simp only [ζl,δa,δb,δc,i64_w,i32_w];rfl
       refine ζk (i:=1) (N:=some 19) (v:=?_) (a':=?_) #[τ,τ,φ,φ,φ,φ,φ,φ,φ,φ,φ,φ,φ,φ,φ,φ,φ,φ] rfl rfl (ζj HT_.out (by kernel_rfl)) (fun _ _ _ h=>h) (Or.inl ⟨by rfl,?_⟩) ?_ ?_
       rotate_left
       · intro w';go_simp;with_reducible rfl
       rotate_left
       · simp only [ζl,δa,δb,δc,i64_w,i32_w];rfl
       refine ζk (i:=2) (N:=some 20) (v:=?_) (a':=?_) #[τ,τ,τ,φ,φ,φ,φ,φ,φ,φ,φ,φ,φ,φ,φ,φ,φ,φ] rfl rfl (ζj HT_.out (by kernel_rfl)) (fun _ _ _ h=>h) (Or.inl ⟨by rfl,?_⟩) ?_ ?_
       rotate_left
       · intro w';go_simp;with_reducible rfl
       rotate_left
       · simp only [ζl,δa,δb,δc,i64_w,i32_w];rfl
       refine ζk (i:=3) (N:=some 21) (v:=?_) (a':=?_) #[τ,τ,τ,τ,φ,φ,φ,φ,φ,φ,φ,φ,φ,φ,φ,φ,φ,φ] rfl rfl (ζj HT_.out (by kernel_rfl)) (fun _ _ _ h=>h) (Or.inl ⟨by rfl,?_⟩) ?_ ?_
       rotate_left
       · intro w';go_simp;with_reducible rfl
       rotate_left
       · simp only [ζl,δa,δb,δc,i64_w,i32_w];rfl
       refine ζk (i:=6) (N:=some 24) (v:=?_) (a':=?_) #[τ,τ,τ,τ,φ,φ,τ,φ,φ,φ,φ,φ,φ,φ,φ,φ,φ,φ] rfl rfl (ζj HT_.out (by kernel_rfl)) (fun _ _ _ h=>h) (Or.inl ⟨by rfl,?_⟩) ?_ ?_
       rotate_left
       · intro w';go_simp;with_reducible rfl
       rotate_left
       · simp only [ζl,δa,δb,δc,i64_w,i32_w];rfl
       refine ζk (i:=7) (N:=some 25) (v:=?_) (a':=?_) #[τ,τ,τ,τ,φ,φ,τ,τ,φ,φ,φ,φ,φ,φ,φ,φ,φ,φ] rfl rfl (ζj HT_.out (by kernel_rfl)) (fun _ _ _ h=>h) (Or.inl ⟨by rfl,?_⟩) ?_ ?_
       rotate_left
       · intro w';go_simp;with_reducible rfl
       rotate_left
       · simp only [ζl,δa,δb,δc,i64_w,i32_w];rfl
       refine ζk (i:=8) (N:=some 26) (v:=?_) (a':=?_) #[τ,τ,τ,τ,φ,φ,τ,τ,τ,φ,φ,φ,φ,φ,φ,φ,φ,φ] rfl rfl (ζj HT_.out (by kernel_rfl)) (fun _ _ _ h=>h) (Or.inl ⟨by rfl,?_⟩) ?_ ?_
       rotate_left
       · intro w';go_simp;with_reducible rfl
       rotate_left
       · simp only [ζl,δa,δb,δc,i64_w,i32_w];rfl
       refine ζk (i:=9) (N:=some 27) (v:=?_) (a':=?_) #[τ,τ,τ,τ,φ,φ,τ,τ,τ,τ,φ,φ,φ,φ,φ,φ,φ,φ] rfl rfl (ζj HT_.out (by kernel_rfl)) (fun _ _ _ h=>h) (Or.inl ⟨by rfl,?_⟩) ?_ ?_
       rotate_left
       · intro w';go_simp;with_reducible rfl
       rotate_left
       · simp only [ζl,δa,δb,δc,i64_w,i32_w];rfl
       refine take_ (i:=4) (N:=some 22) (v:=?_) (a':=?_) #[τ,τ,τ,τ,τ,φ,τ,τ,τ,τ,φ,φ,φ,φ,φ,φ,φ,φ] rfl rfl (take_ofW HT_.out HW_.out (by kernel_rfl)) (fun _ _ _ h=>h) (Or.inl ⟨by rfl,?_⟩) hHeld ?_ ?_
       rotate_left
       · rintro w' ⟨s0,s1,s2,s3⟩;go_simp;with_reducible rfl
       rotate_left
       · simp only [ζl,δa,δb,δc,i64_w,i32_w];rfl
       refine ζk (i:=5) (N:=some 23) (v:=?_) (a':=?_) #[τ,τ,τ,τ,τ,τ,τ,τ,τ,τ,φ,φ,φ,φ,φ,φ,φ,φ] rfl rfl (ζj HT_.out (by kernel_rfl)) (fun _ _ _ h=>h) (Or.inl ⟨by rfl,?_⟩) ?_ ?_
       rotate_left
       · intro w';go_simp;with_reducible rfl
       rotate_left
       · simp only [ζl,δa,δb,δc,i64_w,i32_w];rfl
       refine take_ (i:=10) (N:=some 28) (v:=?_) (a':=?_) #[τ,τ,τ,τ,τ,τ,τ,τ,τ,τ,τ,φ,φ,φ,φ,φ,φ,φ] rfl rfl (take_ofW HT_.out HW_.out (by kernel_rfl)) (fun _ _ _ h=>h) (Or.inl ⟨by rfl,?_⟩) hHeld ?_ ?_
       rotate_left
       · rintro w' ⟨s0,s1,s2,s3⟩;go_simp;with_reducible rfl
       rotate_left
       · simp only [ζl,δa,δb,δc,i64_w,i32_w];rfl
       refine join_ (σ:=Nat) 2 #[τ,τ,τ,τ,τ,τ,τ,τ,τ,τ,τ,τ,τ,τ,τ,τ,φ,φ] (fun s_ => [(29,.tuple #[.agg #[.string t516,.string t517,.int .i64 t518,.int .i64 t519,.int .i64 t520,.bool t521],.bool φ]),(6,.pointer (some ⟨s_,0,none⟩)),(17,.tuple #[.agg #[.string t516,.string t517,.int .i64 t518,.int .i64 t519,.int .i64 t520,.bool t521],.bool φ]),(30,.agg #[.string t516,.string t517,.int .i64 t518,.int .i64 t519,.int .i64 t520,.bool t521]),(31,.bool φ)]) (fun s_ w'=>(w'.cell? (ad514.add ((x5_1).toNat * 2))=some (.string ((rd_T71 t511 x5_1).f0))∧w'.cell? ⟨(ad514.add ((x5_1).toNat * 2)).block,(ad514.add ((x5_1).toNat * 2)).off+1,none⟩=some (.string ((rd_T71 t511 x5_1).f1))∧w'.cell? (ad514.add ((x5_1).toNat * 2))=some (.string ((rd_T71 t511 x5_1).f0))∧w'.cell? ⟨(ad514.add ((x5_1).toNat * 2)).block,(ad514.add ((x5_1).toNat * 2)).off+1,none⟩=some (.string ((rd_T71 t511 x5_1).f1)))∧(Kd.R k42 42 w' w.heap.size (fun k_=>k_≠s_) u3 x3_1)∧(Kd.R k71 71 w' w.heap.size (fun _=>True) (.slice (some ad514) t511.length co25) t511)∧(w'.heap[s_]? = some (.cells #[.string (⟨#[]⟩:ByteArray),.string (⟨#[]⟩:ByteArray),.int .i64 0,.int .i64 0,.int .i64 0,.bool φ] 42 (0,0)))∧(w.heap.size≤s_)∧(w.heap.size≤s_)∧(Below w.heap.size w w')) ?_ ?_
       rotate_left
       ·
        intro hCont
        refine two_ (i:=11) (j:=15) (Ni:=some 29) (Nj:=some 6) #[τ,τ,τ,τ,τ,τ,τ,τ,τ,τ,τ,τ,φ,φ,φ,φ,φ,φ] #[τ,τ,τ,τ,τ,τ,τ,τ,τ,τ,τ,φ,φ,φ,φ,τ,φ,φ] rfl rfl rfl rfl (two_of HT_.out (by kernel_rfl)) (by decide) (by decide) (fun K hK => ?_) (fun K hK => ?_)
        ·
         skip
         refine goes_ Tryd.func94 (by kernel_rfl) rfl #[.string (((rd_T71 t511 x5_1).f0).extract 2 ((rd_T71 t511 x5_1).f0).size),.string ((rd_T71 t511 x5_1).f1)] (by rfl) rfl rfl (by (try simp only [δd,δe,δf]);rfl) ?_
         with_reducible refine (spec_l09Read.calls k1 (((rd_T71 t511 x5_1).f0).extract 2 ((rd_T71 t511 x5_1).f0).size) ((rd_T71 t511 x5_1).f1) t516 t517 t518 t519 t520 t521 φ _ A9.out).mono ?_
         rintro e w27 ⟨rfl,hb⟩
         have HS0_:=(hb.cell (World.block_lt_of_cell? _ _ (hHeld.1))).trans (hHeld.1)
         have HS1_:=(hb.cell (World.block_lt_of_cell? _ _ (hHeld.2.1))).trans (hHeld.2.1)
         have HS2_:=(hb.cell (World.block_lt_of_cell? _ _ (hHeld.2.2.1))).trans (hHeld.2.2.1)
         have HS3_:=(hb.cell (World.block_lt_of_cell? _ _ (hHeld.2.2.2))).trans (hHeld.2.2.2)
         refine ⟨_,rfl,?_⟩
         have n0_:=ζa (ζh (by exact HO_3.out) hb)
         have n1_:=ζa (ζh (by exact HO_4.out) hb)
         have n2_:=ζa (δr (by exact HB.out) hb)
         clear HO_3
         clear HO_4
         clear HB
         have HO_3:=n0_
         have HO_4:=n1_
         have HB:=n2_
         clear n0_ n1_ n2_
         (try clear hb)
         (try clear hb2)
         (try clear hk)
         (try clear hi)
         refine hK.out _ _ ⟨HS0_,HS1_,HS2_,HS3_⟩ (fun hHeld => ?_)
         clear hK K
         refine norm_ (a':=?_) ?_ ?_
         rotate_left
         ·
          show ζl _ (some 29) _=_
          simp only [ζl,δa,δb,δc,i64_w,i32_w];rfl
         refine ζk (i:=12) (N:=some 17) (v:=?_) (a':=?_) #[τ,τ,τ,τ,τ,τ,τ,τ,τ,τ,τ,τ,τ,φ,φ,φ,φ,φ] rfl rfl (ζj HT_.out (by kernel_rfl)) (fun _ _ _ h=>h) (Or.inl ⟨by rfl,?_⟩) ?_ ?_
         rotate_left
         · intro w';go_simp;with_reducible rfl
         rotate_left
         · simp only [ζl,δa,δb,δc,i64_w,i32_w];rfl
         refine ζk (i:=13) (N:=some 30) (v:=?_) (a':=?_) #[τ,τ,τ,τ,τ,τ,τ,τ,τ,τ,τ,τ,τ,τ,φ,φ,φ,φ] rfl rfl (ζj HT_.out (by kernel_rfl)) (fun _ _ _ h=>h) (Or.inl ⟨by rfl,?_⟩) ?_ ?_
         rotate_left
         · intro w';go_simp;with_reducible rfl
         rotate_left
         · simp only [ζl,δa,δb,δc,i64_w,i32_w];rfl
         refine ζk (i:=14) (N:=some 31) (v:=?_) (a':=?_) #[τ,τ,τ,τ,τ,τ,τ,τ,τ,τ,τ,τ,τ,τ,τ,φ,φ,φ] rfl rfl (ζj HT_.out (by kernel_rfl)) (fun _ _ _ h=>h) (Or.inl ⟨by rfl,?_⟩) ?_ ?_
         rotate_left
         · intro w';go_simp;with_reducible rfl
         rotate_left
         · simp only [ζl,δa,δb,δc,i64_w,i32_w];rfl
         refine one_ (i:=15) (N:=some 6) #[τ,τ,τ,τ,τ,τ,τ,τ,τ,τ,τ,τ,τ,τ,τ,τ,φ,φ] rfl rfl (one_of HT_.out (by kernel_rfl)) (by decide) (fun K hK => ?_)
         refine box_step ?hg (N:=6) ?hd (cs:=#[.string (⟨#[]⟩:ByteArray),.string (⟨#[]⟩:ByteArray),.int .i64 0,.int .i64 0,.int .i64 0,.bool φ]) (t:=42) ?hr ?_;(case hd=>rfl);(case hg=>rfl);(case hr=>(go_simp;done))
         intro gb523 hg w28 hbox hb
         have HS0_:=(hb.cell (World.block_lt_of_cell? _ _ (hHeld.1))).trans (hHeld.1)
         have HS1_:=(hb.cell (World.block_lt_of_cell? _ _ (hHeld.2.1))).trans (hHeld.2.1)
         have HS2_:=(hb.cell (World.block_lt_of_cell? _ _ (hHeld.2.2.1))).trans (hHeld.2.2.1)
         have HS3_:=(hb.cell (World.block_lt_of_cell? _ _ (hHeld.2.2.2))).trans (hHeld.2.2.2)
         have n0_:=ζa (ζh (Kd.R_elderB (by exact HO_3.out) gb523 (Nat.le_of_eq hg.symm)) hb)
         have n1_:=ζa (ζh (by exact HO_4.out) hb)
         have n2_:=ζa (δr (by exact HB.out) hb)
         have n3_:=ζa (hbox)
         have n4_:=ζa ((by rw [hg];exact (δs (by exact HB.out)):w.heap.size≤gb523))
         have n5_:=ζa ((by rw [hg];exact (δs (by exact HB.out)):w.heap.size≤gb523))
         clear HO_3
         clear HO_4
         clear HB
         have HO_3:=n0_
         have HO_4:=n1_
         have HB:=n2_
         have BK523:=n3_
         have GW523:=n4_
         have GE523:=n5_
         clear n0_ n1_ n2_ n3_ n4_ n5_
         clear hb hbox hg
         refine hK.out _ _ ⟨HS0_,HS1_,HS2_,HS3_⟩ (fun hHeld => ?_)
         clear hK K
         refine norm_ (a':=?_) ?_ ?_
         rotate_left
         ·
          show ζl _ (some 6) _=_
          simp only [ζl,δa,δb,δc,i64_w,i32_w];rfl
         exact norm_ (by simp only [putAll,ζl,δa,δb,δc]) (hCont (gb523) _ ⟨hHeld,(by exact Kd.R_mono HO_3.out (fun _ hk=>hk.2)),(by exact HO_4.out),(by exact BK523.out),GW523.out,GE523.out,(by exact HB.out)⟩)
        ·
         skip
         refine box_step ?hg (N:=6) ?hd (cs:=#[.string (⟨#[]⟩:ByteArray),.string (⟨#[]⟩:ByteArray),.int .i64 0,.int .i64 0,.int .i64 0,.bool φ]) (t:=42) ?hr ?_;(case hd=>rfl);(case hg=>rfl);(case hr=>(go_simp;done))
         intro gb523 hg w27 hbox hb
         have HS0_:=(hb.cell (World.block_lt_of_cell? _ _ (hHeld.1))).trans (hHeld.1)
         have HS1_:=(hb.cell (World.block_lt_of_cell? _ _ (hHeld.2.1))).trans (hHeld.2.1)
         have HS2_:=(hb.cell (World.block_lt_of_cell? _ _ (hHeld.2.2.1))).trans (hHeld.2.2.1)
         have HS3_:=(hb.cell (World.block_lt_of_cell? _ _ (hHeld.2.2.2))).trans (hHeld.2.2.2)
         have n0_:=ζa (ζh (Kd.R_elderB (by exact HO_3.out) gb523 (Nat.le_of_eq hg.symm)) hb)
         have n1_:=ζa (ζh (by exact HO_4.out) hb)
         have n2_:=ζa (δr (by exact HB.out) hb)
         have n3_:=ζa (hbox)
         have n4_:=ζa ((by rw [hg];exact (δs (by exact HB.out)):w.heap.size≤gb523))
         have n5_:=ζa ((by rw [hg];exact (δs (by exact HB.out)):w.heap.size≤gb523))
         clear HO_3
         clear HO_4
         clear HB
         have HO_3:=n0_
         have HO_4:=n1_
         have HB:=n2_
         have BK523:=n3_
         have GW523:=n4_
         have GE523:=n5_
         clear n0_ n1_ n2_ n3_ n4_ n5_
         clear hb hbox hg
         refine hK.out _ _ ⟨HS0_,HS1_,HS2_,HS3_⟩ (fun hHeld => ?_)
         clear hK K
         refine norm_ (a':=?_) ?_ ?_
         rotate_left
         ·
          show ζl _ (some 6) _=_
          simp only [ζl,δa,δb,δc,i64_w,i32_w];rfl
         refine one_ (i:=11) (N:=some 29) #[τ,τ,τ,τ,τ,τ,τ,τ,τ,τ,τ,τ,φ,φ,φ,τ,φ,φ] rfl rfl (one_of HT_.out (by kernel_rfl)) (by decide) (fun K hK => ?_)
         refine goes_ Tryd.func94 (by kernel_rfl) rfl #[.string (((rd_T71 t511 x5_1).f0).extract 2 ((rd_T71 t511 x5_1).f0).size),.string ((rd_T71 t511 x5_1).f1)] (by rfl) rfl rfl (by (try simp only [δd,δe,δf]);rfl) ?_
         with_reducible refine (spec_l09Read.calls k1 (((rd_T71 t511 x5_1).f0).extract 2 ((rd_T71 t511 x5_1).f0).size) ((rd_T71 t511 x5_1).f1) t516 t517 t518 t519 t520 t521 φ _ A9.out).mono ?_
         rintro e w28 ⟨rfl,hb⟩
         have HS0_:=(hb.cell (World.block_lt_of_cell? _ _ (hHeld.1))).trans (hHeld.1)
         have HS1_:=(hb.cell (World.block_lt_of_cell? _ _ (hHeld.2.1))).trans (hHeld.2.1)
         have HS2_:=(hb.cell (World.block_lt_of_cell? _ _ (hHeld.2.2.1))).trans (hHeld.2.2.1)
         have HS3_:=(hb.cell (World.block_lt_of_cell? _ _ (hHeld.2.2.2))).trans (hHeld.2.2.2)
         refine ⟨_,rfl,?_⟩
         have n0_:=ζa (ζh (by exact HO_3.out) hb)
         have n1_:=ζa (ζh (by exact HO_4.out) hb)
         have n2_:=ζa (blk_below (g:=gb523) (o:=.cells #[.string (⟨#[]⟩:ByteArray),.string (⟨#[]⟩:ByteArray),.int .i64 0,.int .i64 0,.int .i64 0,.bool φ] 42 (0,0)) (by exact BK523.out) hb)
         have n3_:=ζa (δr (by exact HB.out) hb)
         clear HO_3
         clear HO_4
         clear BK523
         clear HB
         have HO_3:=n0_
         have HO_4:=n1_
         have BK523:=n2_
         have HB:=n3_
         clear n0_ n1_ n2_ n3_
         (try clear hb)
         (try clear hb2)
         (try clear hk)
         (try clear hi)
         refine hK.out _ _ ⟨HS0_,HS1_,HS2_,HS3_⟩ (fun hHeld => ?_)
         clear hK K
         refine norm_ (a':=?_) ?_ ?_
         rotate_left
         ·
          show ζl _ (some 29) _=_
          simp only [ζl,δa,δb,δc,i64_w,i32_w];rfl
         refine ζk (i:=12) (N:=some 17) (v:=?_) (a':=?_) #[τ,τ,τ,τ,τ,τ,τ,τ,τ,τ,τ,τ,τ,φ,φ,τ,φ,φ] rfl rfl (ζj HT_.out (by kernel_rfl)) (fun _ _ _ h=>h) (Or.inl ⟨by rfl,?_⟩) ?_ ?_
         rotate_left
         · intro w';go_simp;with_reducible rfl
         rotate_left
         · simp only [ζl,δa,δb,δc,i64_w,i32_w];rfl
         refine ζk (i:=13) (N:=some 30) (v:=?_) (a':=?_) #[τ,τ,τ,τ,τ,τ,τ,τ,τ,τ,τ,τ,τ,τ,φ,τ,φ,φ] rfl rfl (ζj HT_.out (by kernel_rfl)) (fun _ _ _ h=>h) (Or.inl ⟨by rfl,?_⟩) ?_ ?_
         rotate_left
         · intro w';go_simp;with_reducible rfl
         rotate_left
         · simp only [ζl,δa,δb,δc,i64_w,i32_w];rfl
         refine ζk (i:=14) (N:=some 31) (v:=?_) (a':=?_) #[τ,τ,τ,τ,τ,τ,τ,τ,τ,τ,τ,τ,τ,τ,τ,τ,φ,φ] rfl rfl (ζj HT_.out (by kernel_rfl)) (fun _ _ _ h=>h) (Or.inl ⟨by rfl,?_⟩) ?_ ?_
         rotate_left
         · intro w';go_simp;with_reducible rfl
         rotate_left
         · simp only [ζl,δa,δb,δc,i64_w,i32_w];rfl
         exact norm_ (by simp only [putAll,ζl,δa,δb,δc]) (hCont (gb523) _ ⟨hHeld,(by exact Kd.R_mono HO_3.out (fun _ hk=>hk.2)),(by exact HO_4.out),(by exact BK523.out),GW523.out,GE523.out,(by exact HB.out)⟩)
       rintro gb523 w29 ⟨hS_,h0_,h1_,h2_,h3_,h4_,h5_⟩
       have n0_:Aside0 (Kd.R k42 42 w29 w.heap.size (fun k_=>k_≠gb523) u3 x3_1):=⟨h0_⟩
       have n1_:Aside0 (Kd.R k71 71 w29 w.heap.size (fun _=>True) (.slice (some ad514) t511.length co25) t511):=⟨h1_⟩
       have n2_:Aside0 (w29.heap[gb523]? = some (.cells #[.string (⟨#[]⟩:ByteArray),.string (⟨#[]⟩:ByteArray),.int .i64 0,.int .i64 0,.int .i64 0,.bool φ] 42 (0,0))):=⟨h2_⟩
       have n3_:Aside0 (w.heap.size≤gb523):=⟨h3_⟩
       have n4_:Aside0 (w.heap.size≤gb523):=⟨h4_⟩
       have n5_:Aside0 (Below w.heap.size w w29):=⟨h5_⟩
       clear HO_3
       clear HO_4
       clear HB
       clear h0_ h1_ h2_ h3_ h4_ h5_
       have HO_3:=n0_
       have HO_4:=n1_
       have BK523:=n2_
       have GW523:=n3_
       have GE523:=n4_
       have HB:=n5_
       clear n0_ n1_ n2_ n3_ n4_ n5_
       have hHeld:w29.cell? (ad514.add ((x5_1).toNat * 2))=some (.string ((rd_T71 t511 x5_1).f0))∧w29.cell? ⟨(ad514.add ((x5_1).toNat * 2)).block,(ad514.add ((x5_1).toNat * 2)).off+1,none⟩=some (.string ((rd_T71 t511 x5_1).f1))∧w29.cell? (ad514.add ((x5_1).toNat * 2))=some (.string ((rd_T71 t511 x5_1).f0))∧w29.cell? ⟨(ad514.add ((x5_1).toNat * 2)).block,(ad514.add ((x5_1).toNat * 2)).off+1,none⟩=some (.string ((rd_T71 t511 x5_1).f1)):=hS_
       refine norm_ (a':=?_) ?_ ?_
       rotate_left
       · simp only [putAll,ζl,δa,δb,δc];rfl
       refine one_ (i:=16) (N:=none) #[τ,τ,τ,τ,τ,τ,τ,τ,τ,τ,τ,τ,τ,τ,τ,τ,τ,φ] rfl rfl (one_of HT_.out (by kernel_rfl)) (by decide) (fun K hK => ?_)
       have hs30:w29.cell? ⟨gb523,0,none⟩=some (.string (⟨#[]⟩:ByteArray)):=(δl BK523.out 0).trans rfl
       have hfs30:=δm BK523.out 0
       have hs31:w29.cell? ⟨gb523,1,none⟩=some (.string (⟨#[]⟩:ByteArray)):=(δl BK523.out 1).trans rfl
       have hfs31:=δm BK523.out 1
       have hs32:w29.cell? ⟨gb523,2,none⟩=some (.int .i64 0):=(δl BK523.out 2).trans rfl
       have hfs32:=δm BK523.out 2
       have hs33:w29.cell? ⟨gb523,3,none⟩=some (.int .i64 0):=(δl BK523.out 3).trans rfl
       have hfs33:=δm BK523.out 3
       have hs34:w29.cell? ⟨gb523,4,none⟩=some (.int .i64 0):=(δl BK523.out 4).trans rfl
       have hfs34:=δm BK523.out 4
       have hs35:w29.cell? ⟨gb523,5,none⟩=some (.bool φ):=(δl BK523.out 5).trans rfl
       have hfs35:=δm BK523.out 5
       refine skip_ (w1:=?_) (by rfl) rfl ?_ ?_
       rotate_left
       ·
        go_simp
        rfl
       refine hK.out _ _ ⟨((δt (p:=⟨gb523,_,none⟩) (by (rw [δu];exact ζb (ζf HO_4.out BK523.out (by decide)))) _).trans (((δt (p:=⟨gb523,_,none⟩) (by (rw [δu];exact ζb (ζf HO_4.out BK523.out (by decide)))) _).trans (((δt (p:=⟨gb523,_,none⟩) (by (rw [δu];exact ζb (ζf HO_4.out BK523.out (by decide)))) _).trans (((δt (p:=⟨gb523,_,none⟩) (by (rw [δu];exact ζb (ζf HO_4.out BK523.out (by decide)))) _).trans (((δt (p:=⟨gb523,_,none⟩) (by (rw [δu];exact ζb (ζf HO_4.out BK523.out (by decide)))) _).trans (((δt (p:=⟨gb523,_,none⟩) (by (rw [δu];exact ζb (ζf HO_4.out BK523.out (by decide)))) _).trans (hHeld.1)))))))))))),((δt (p:=⟨gb523,_,none⟩) (by (rw [δu];exact ζb (ζf HO_4.out BK523.out (by decide)))) _).trans (((δt (p:=⟨gb523,_,none⟩) (by (rw [δu];exact ζb (ζf HO_4.out BK523.out (by decide)))) _).trans (((δt (p:=⟨gb523,_,none⟩) (by (rw [δu];exact ζb (ζf HO_4.out BK523.out (by decide)))) _).trans (((δt (p:=⟨gb523,_,none⟩) (by (rw [δu];exact ζb (ζf HO_4.out BK523.out (by decide)))) _).trans (((δt (p:=⟨gb523,_,none⟩) (by (rw [δu];exact ζb (ζf HO_4.out BK523.out (by decide)))) _).trans (((δt (p:=⟨gb523,_,none⟩) (by (rw [δu];exact ζb (ζf HO_4.out BK523.out (by decide)))) _).trans (hHeld.2.1)))))))))))),((δt (p:=⟨gb523,_,none⟩) (by (rw [δu];exact ζb (ζf HO_4.out BK523.out (by decide)))) _).trans (((δt (p:=⟨gb523,_,none⟩) (by (rw [δu];exact ζb (ζf HO_4.out BK523.out (by decide)))) _).trans (((δt (p:=⟨gb523,_,none⟩) (by (rw [δu];exact ζb (ζf HO_4.out BK523.out (by decide)))) _).trans (((δt (p:=⟨gb523,_,none⟩) (by (rw [δu];exact ζb (ζf HO_4.out BK523.out (by decide)))) _).trans (((δt (p:=⟨gb523,_,none⟩) (by (rw [δu];exact ζb (ζf HO_4.out BK523.out (by decide)))) _).trans (((δt (p:=⟨gb523,_,none⟩) (by (rw [δu];exact ζb (ζf HO_4.out BK523.out (by decide)))) _).trans (hHeld.2.2.1)))))))))))),((δt (p:=⟨gb523,_,none⟩) (by (rw [δu];exact ζb (ζf HO_4.out BK523.out (by decide)))) _).trans (((δt (p:=⟨gb523,_,none⟩) (by (rw [δu];exact ζb (ζf HO_4.out BK523.out (by decide)))) _).trans (((δt (p:=⟨gb523,_,none⟩) (by (rw [δu];exact ζb (ζf HO_4.out BK523.out (by decide)))) _).trans (((δt (p:=⟨gb523,_,none⟩) (by (rw [δu];exact ζb (ζf HO_4.out BK523.out (by decide)))) _).trans (((δt (p:=⟨gb523,_,none⟩) (by (rw [δu];exact ζb (ζf HO_4.out BK523.out (by decide)))) _).trans (((δt (p:=⟨gb523,_,none⟩) (by (rw [δu];exact ζb (ζf HO_4.out BK523.out (by decide)))) _).trans (hHeld.2.2.2))))))))))))⟩ (fun hHeld => ?_)
       clear hK K
       refine ζk (i:=17) (N:=some 7) (v:=?_) (a':=?_) #[τ,τ,τ,τ,τ,τ,τ,τ,τ,τ,τ,τ,τ,τ,τ,τ,τ,τ] rfl rfl (ζj HT_.out (by kernel_rfl)) (fun _ _ _ h=>h) (Or.inl ⟨by rfl,?_⟩) ?_ ?_
       rotate_left
       · intro w';go_simp;with_reducible rfl
       rotate_left
       · simp only [ζl,δa,δb,δc,i64_w,i32_w];rfl
       refine done_ (done_of HT_.out (by kernel_rfl)) ?_
       try go_wp2
       go_roundg k1
       case measure=>have:=HK1.out;omega
       case rel=>exact ⟨(x3_1),(ζm (x5_1+1)),(by rfl),H',⟨by have:=HK1.out;omega⟩,⟨by exact Kd.R_mono (ζi (p:=⟨gb523,5,none⟩) (ζi (p:=⟨gb523,4,none⟩) (ζi (p:=⟨gb523,3,none⟩) (ζi (p:=⟨gb523,2,none⟩) (ζi (p:=⟨gb523,1,none⟩) (ζi (p:=⟨gb523,0,none⟩) (Kd.R_mono HO_3.out (fun k_ hk=>(⟨hk,hk⟩:_∧k_≠gb523))) (fun _ hk=>hk.2) (.string t516)) (fun _ hk=>hk.2) (.string t517)) (fun _ hk=>hk.2) (.int .i64 t518)) (fun _ hk=>hk.2) (.int .i64 t519)) (fun _ hk=>hk.2) (.int .i64 t520)) (fun _ hk=>hk.2) (.bool t521)) (fun _ hk=>trivial)⟩,⟨by exact Kd.R_mono (ζi (p:=⟨gb523,5,none⟩) (ζi (p:=⟨gb523,4,none⟩) (ζi (p:=⟨gb523,3,none⟩) (ζi (p:=⟨gb523,2,none⟩) (ζi (p:=⟨gb523,1,none⟩) (ζi (p:=⟨gb523,0,none⟩) (Kd.R_types HO_4.out BK523.out (by decide)) (fun _ hk=>hk.2) (.string t516)) (fun _ hk=>hk.2) (.string t517)) (fun _ hk=>hk.2) (.int .i64 t518)) (fun _ hk=>hk.2) (.int .i64 t519)) (fun _ hk=>hk.2) (.int .i64 t520)) (fun _ hk=>hk.2) (.bool t521)) (fun _ hk=>trivial)⟩,⟨by repeat ((with_reducible first|exact HB.out|refine δq ?_ GE523.out))⟩⟩
     ·
      rw [if_neg c8] at H
      exact absurd H (by simp)
    ·
     rw [if_neg c7] at H
     exact absurd H (by simp)
   ·
    rw [if_neg c6] at H
    have c6b0:decide (x5_1<(t511.length:Int))=φ:=decide_eq_false c6
    clear c6
    obtain rfl:=Option.some.inj H
    obtain ⟨Ao36,co36,eo36⟩:=Kd.R_slice HO_4.out
    subst eo36
    go_wp2
    go_ret
    exact ⟨_,by rfl,by exact HO_3.out,by repeat ((with_reducible exact HB.out))⟩


open Go.Proofs.YteghpdmlpefnfaaDoorW.PrintWords renaming gate_dst → δx, below_size → δs, below_step → δr, gate_callee → δv

/-! ### spec_OrdersOf: function 26 -/
def spec_OrdersOf.f (k:Nat) (l0:List (S71)):Option ((List (S42)) × Int):=if (l0.length:Int) > 4096 then (some ((([]:List (S42))),2)) else ((spec_StoreOK.f k l0).bind fun t530=>(if t530=τ then ((spec_l09All.f k l0).bind fun t531=>(some (t531,0))) else (some ((([]:List (S42))),1))))
set_option maxHeartbeats 8000000 in
set_option maxRecDepth 100000 in
theorem spec_OrdersOf.calls (k:Nat) (A0:Option Addr) (c0:Nat) (l0:List (S71)) (r1:List (S42)) (r2:Int) (w:World) (hr0:Kd.C k71 w A0 l0.length l0) (hc0:l0.length≤c0) (h:spec_OrdersOf.f k l0=some (r1,r2)) :
  Calls Tryd.prog 26 #[.slice A0 l0.length c0] w fun e w' => ∃ v0_:Value,e = .returned (.tuple #[v0_,.int .i64 r2])∧Kd.R k42 42 w' w.heap.size (fun _=>True) v0_ r1∧Below w.heap.size w w':=by
 have HR0:=ζa hr0
 have HC0:=ζa hc0
 clear hr0 hc0
 have HB:=ζa (Below.refl w.heap.size w)
 have H:(if (l0.length:Int) > 4096 then (some ((([]:List (S42))),2)) else ((spec_StoreOK.f k l0).bind fun t530=>(if t530=τ then ((spec_l09All.f k l0).bind fun t531=>(some (t531,0))) else (some ((([]:List (S42))),1)))))=some (r1,r2):=h
 clear h
 by_cases c2:(l0.length:Int) > 4096
 ·
  rw [if_pos c2] at H
  have c2b0:decide (4096<(l0.length:Int))=τ:=decide_eq_true c2
  have c2b1:decide (4096<l0.length)=τ:=decide_eq_true (by omega)
  clear c2
  obtain ⟨y527,hy527⟩ : ∃ y_:List (S42),y_=(([]:List (S42))):=⟨_,rfl⟩
  replace H:(some (y527,2))=some (r1,r2):=by (rw [hy527];with_reducible exact H)
  have Ny527:=ζa hy527
  clear hy527
  simp only [Option.some.injEq,Prod.mk.injEq] at H
  obtain ⟨rfl,rfl⟩:=H
  go_enter Tryd.func26,Tryd.ntmps26
  go_wp2_with (((with_reducible refine δx (N:=7) rfl ?_);refine Kd.R_lit k42 _ 42 ?hg (N:=7) ?hd (xs:=([]:List (S42))) (inner:=[]) (ok:=fun _=>True) (okp:=fun _=>True) ?hr ?hp (fun _ hk=>hk) trivial (Below.refl _ _) (Nat.le_refl _) (by simp) ?_;(case hd=>rfl);(case hg=>rfl);(case hr=>(go_simp;done));(case hp=>exact (Reps.none _ _));intro v528 w3 ho4 hb hg_ hnew_;clear hg_ hnew_;(rw [← Ny527.out] at ho4);have n0_:=ζa (Kd.R_lower ho4 (δs (by exact HB.out)));have n1_:=ζa (δr (by exact HB.out) hb);clear HB;have HO529:=n0_;have HB:=n1_;clear n0_ n1_;clear hb ho4))
  go_ret2
  exact ⟨_,by rfl,by exact HO529.out,by repeat ((with_reducible exact HB.out))⟩
 ·
  rw [if_neg c2] at H
  have c2b0:decide (4096<(l0.length:Int))=φ:=decide_eq_false c2
  have c2b1:decide (4096<l0.length)=φ:=decide_eq_false (by omega)
  clear c2
  replace H:=Option.bind_eq_some_iff.mp H
  obtain ⟨t530,A50,H⟩:=H
  replace H:(if t530=τ then ((spec_l09All.f k l0).bind fun t531=>(some (t531,0))) else (some ((([]:List (S42))),1)))=some (r1,r2):=H
  have A5:=ζa A50
  clear A50
  by_cases c6:t530=τ
  ·
   subst c6
   have H1:((spec_l09All.f k l0).bind fun t531=>(some (t531,0)))=some (r1,r2):=by rw [if_pos rfl] at H;exact H
   clear H
   have H:=H1
   clear H1
   replace H:=Option.bind_eq_some_iff.mp H
   obtain ⟨t531,A70,H⟩:=H
   replace H:(some (t531,0))=some (r1,r2):=H
   have A7:=ζa A70
   clear A70
   simp only [Option.some.injEq,Prod.mk.injEq] at H
   obtain ⟨rfl,rfl⟩:=H
   go_enter Tryd.func26,Tryd.ntmps26
   go_wp2_with (first|((with_reducible refine δv (f:=48) rfl ?_);refine goesL_ (some 9) rfl rfl Tryd.func48 (by kernel_rfl) rfl #[.slice A0 l0.length c0] rfl (by (try simp only [δd,δe,δf]);rfl) ?_;(with_reducible refine (spec_StoreOK.calls k _ _ l0 τ _ ?side1 ?side2 A5.out).mono ?_);(case side1=>repeat (exact HR0.out));(case side2=>exact HC0.out);rintro e w8 ⟨rfl,hb⟩;refine ⟨_,rfl,?_⟩;have n0_:=ζa (δr (by exact HB.out) hb);clear HB;have HB:=n0_;clear n0_;(try clear hb);(try clear hb2);(try clear hk);(try clear hi))|((with_reducible refine δv (f:=58) rfl ?_);refine goesL_ (some 13) rfl rfl Tryd.func58 (by kernel_rfl) rfl #[.slice A0 l0.length c0] rfl (by (try simp only [δd,δe,δf]);rfl) ?_;(with_reducible refine (spec_l09All.calls k _ _ l0 t531 _ ?side1 ?side2 A7.out).mono ?_);(case side1=>repeat (exact (Kd.C_below HR0.out HB.out)));(case side2=>exact HC0.out);rintro e w9 ⟨v532,rfl,ho0,hb⟩;refine ⟨_,rfl,?_⟩;have n0_:=ζa (Kd.R_lower ho0 (δs (by exact HB.out)));have n1_:=ζa (δr (by exact HB.out) hb);clear HB;have HO533:=n0_;have HB:=n1_;clear n0_ n1_;(try clear hb);(try clear hb2);(try clear hk);(try clear hi);(try clear ho0)))
   go_ret2
   exact ⟨_,by rfl,by exact HO533.out,by repeat ((with_reducible exact HB.out))⟩
  ·
   replace c6:=Bool.eq_false_iff.mpr c6
   subst c6
   have H1:(some ((([]:List (S42))),1))=some (r1,r2):=by rw [if_neg (show ¬ (φ=τ) by decide)] at H;exact H
   clear H
   have H:=H1
   clear H1
   obtain ⟨y534,hy534⟩ : ∃ y_:List (S42),y_=(([]:List (S42))):=⟨_,rfl⟩
   replace H:(some (y534,1))=some (r1,r2):=by (rw [hy534];with_reducible exact H)
   have Ny534:=ζa hy534
   clear hy534
   simp only [Option.some.injEq,Prod.mk.injEq] at H
   obtain ⟨rfl,rfl⟩:=H
   go_enter Tryd.func26,Tryd.ntmps26
   go_wp2_with (first|((with_reducible refine δv (f:=48) rfl ?_);refine goesL_ (some 9) rfl rfl Tryd.func48 (by kernel_rfl) rfl #[.slice A0 l0.length c0] rfl (by (try simp only [δd,δe,δf]);rfl) ?_;(with_reducible refine (spec_StoreOK.calls k _ _ l0 φ _ ?side1 ?side2 A5.out).mono ?_);(case side1=>repeat (exact HR0.out));(case side2=>exact HC0.out);rintro e w10 ⟨rfl,hb⟩;refine ⟨_,rfl,?_⟩;have n0_:=ζa (δr (by exact HB.out) hb);clear HB;have HB:=n0_;clear n0_;(try clear hb);(try clear hb2);(try clear hk);(try clear hi))|((with_reducible refine δx (N:=11) rfl ?_);refine Kd.R_lit k42 _ 42 ?hg (N:=11) ?hd (xs:=([]:List (S42))) (inner:=[]) (ok:=fun _=>True) (okp:=fun _=>True) ?hr ?hp (fun _ hk=>hk) trivial (Below.refl _ _) (Nat.le_refl _) (by simp) ?_;(case hd=>rfl);(case hg=>rfl);(case hr=>(go_simp;done));(case hp=>exact (Reps.none _ _));intro v535 w11 ho12 hb hg_ hnew_;clear hg_ hnew_;(rw [← Ny534.out] at ho12);have n0_:=ζa (Kd.R_lower ho12 (δs (by exact HB.out)));have n1_:=ζa (δr (by exact HB.out) hb);clear HB;have HO536:=n0_;have HB:=n1_;clear n0_ n1_;clear hb ho12))
   go_ret2
   exact ⟨_,by rfl,by exact HO536.out,by repeat ((with_reducible exact HB.out))⟩



/-! ### slices_IndexFunc_string_string: function 101 -/
/-- slices.IndexFunc over texts,at a plain predicate that captures nothing. -/
theorem slices_IndexFunc_string_string.at_ (g:Nat) (eg : ∀ args w,(callFunc g args).run Tryd.prog w = .ok (.enter g args) w) (p:ByteArray→Bool)
  (hp : ∀ x W,Calls Tryd.prog g #[.string x] W fun e W'=>e = .returned (.bool (p x))∧Drawn0 W W')
  (A0:Option Addr) (c0:Nat) (l0:List ByteArray) (w:World) (hr0:Kd.C Kd.string w A0 l0.length l0) :
  Calls Tryd.prog 101 #[.slice A0 l0.length c0,.func (.func g) #[] #[]] w fun e w'=>(∃ r:Int,e = .returned (.int .i64 r)∧Aside0 (decide (0≤r)=l0.any p))∧Drawn0 w w':=by
 have HR0:=ζa hr0
 have hmax:l0.length≤9223372036854775807:=hr0.2.1
 clear hr0
 go_enter Tryd.func101,Tryd.ntmps101
 go_wp2
 go_loopg [5,8] l0.length (fun gg _ s8 wr => ∃ kk:Nat,kk≤l0.length∧l0.length - kk≤gg∧s8 = .int .i64 kk∧Aside0 ((l0.take kk).any p=φ)∧Drawn0 w wr)
 case atStart=>exact ⟨0,Nat.zero_le _,by omega,rfl,⟨rfl⟩,by repeat (first|exact Drawn0.refl _|apply Drawn0.step)⟩
 case round =>
  obtain ⟨kk,hkk,hg,rfl,A,⟨m1,rfl⟩⟩:=hrel
  by_cases hlt:kk<l0.length
  ·
   have hltz:(kk:Int)<(l0.length:Int):=by omega
   have p145:0≤(kk:Int):=by omega
   obtain ⟨ad145,e145,hx145_0⟩:=Kd.at_string HR0.out kk p145 hltz
   cases e145
   rw [Int.toNat_natCast] at hx145_0
   have hT:Aside0 ((l0.take (kk+1)).any p=p (rdOf ByteArray.empty l0 kk)):=⟨by
    have hx:l0[kk]? = some (rdOf ByteArray.empty l0 kk):=by
     simp only [rdOf,Int.toNat_natCast,List.getD_eq_getElem?_getD]
     rw [List.getElem?_eq_getElem hlt];rfl
    rw [List.take_add_one,hx,List.any_append,A.out];simp⟩
   generalize rdOf ByteArray.empty l0 kk=x at *
   have hcall:=hp x
   clear hp
   cases hq:p x with
   | true =>
    rw [hq] at hcall hT
    clear hq
    go_wp2_with (go_at_fn g;refine (hcall _).mono ?_;rintro e w' ⟨rfl,⟨q',rfl⟩⟩)
    go_ret
    refine ⟨⟨_,rfl,⟨?_⟩⟩,by repeat (first|exact Drawn0.refl _|apply Drawn0.step)⟩
    have h2:l0.any p=τ:=by
     have:=hT.out
     rw [← List.take_append_drop (kk+1) l0,List.any_append,this];rfl
    rw [h2];simp
   | false =>
    rw [hq] at hcall hT
    clear hq
    go_wp2_with (go_at_fn g;refine (hcall _).mono ?_;rintro e w' ⟨rfl,⟨q',rfl⟩⟩)
    go_roundg (l0.length - (kk+1))
    case measure=>omega
    case rel=>exact ⟨kk+1,by omega,by omega,by go_num,hT,by repeat (first|exact Drawn0.refl _|apply Drawn0.step)⟩
  ·
   have hltz : ¬ (kk:Int)<(l0.length:Int):=by omega
   have hkl:Aside0 (kk=l0.length):=⟨by omega⟩
   go_wp2
   go_ret
   refine ⟨⟨_,rfl,⟨?_⟩⟩,by repeat (first|exact Drawn0.refl _|apply Drawn0.step)⟩
   have:=A.out
   rw [hkl.out,List.take_length] at this
   rw [this];rfl



/-! ### slices_ContainsFunc_string_string: function 64 -/
theorem slices_ContainsFunc_string_string.at_ (g:Nat) (eg : ∀ args w,(callFunc g args).run Tryd.prog w = .ok (.enter g args) w) (p:ByteArray→Bool)
  (hp : ∀ x W,Calls Tryd.prog g #[.string x] W fun e W'=>e = .returned (.bool (p x))∧Drawn0 W W')
  (A0:Option Addr) (c0:Nat) (l0:List ByteArray) (w:World) (hr0:Kd.C Kd.string w A0 l0.length l0) :
  Calls Tryd.prog 64 #[.slice A0 l0.length c0,.func (.func g) #[] #[]] w fun e w'=>e = .returned (.bool (l0.any p))∧Drawn0 w w':=by
 go_enter Tryd.func64,Tryd.ntmps64
 go_wp2_with (go_at_call 101;refine (slices_IndexFunc_string_string.at_ g eg p hp A0 c0 l0 _ hr0).mono ?_;rintro e w' ⟨⟨r,rfl,hr⟩,⟨q',rfl⟩⟩)
 go_ret
 exact ⟨by rw [← hr.out];first|rfl|(simp;done),by repeat (first|exact Drawn0.refl _|apply Drawn0.step)⟩



/-! ### impl_isText: function 36 -/
def impl_isText.f (l0:List ByteArray):Option Bool:=some (!(l0.any fun t=>decide ((t.size:Int) > 65536)))
theorem impl_isText.lit (a0:ByteArray) (w:World) :
  Calls Tryd.prog 65 #[.string a0] w fun e w'=>e = .returned (.bool (decide ((a0.size:Int) > 65536)))∧Drawn0 w w':=by
 go_enter Tryd.func65,Tryd.ntmps65
 go_wp2
 go_ret
 exact ⟨by first|rfl|(simp;done),by repeat (first|exact Drawn0.refl _|apply Drawn0.step)⟩
theorem impl_isText.calls (A0:Option Addr) (c0:Nat) (l0:List ByteArray) (r:Bool) (w:World) (hr0:Kd.C Kd.string w A0 l0.length l0) (hc0:l0.length≤c0) (h:impl_isText.f l0=some r) :
  Calls Tryd.prog 36 #[.slice A0 l0.length c0] w fun e w'=>e = .returned (.bool r)∧Drawn0 w w':=by
 obtain rfl:=Option.some.inj h
 go_enter Tryd.func36,Tryd.ntmps36
 go_wp2_with (go_at_call 64;refine (slices_ContainsFunc_string_string.at_ 65 (enters_of Tryd.func65 (by kernel_rfl) rfl) _ impl_isText.lit A0 c0 l0 _ hr0).mono ?_;rintro e w' ⟨rfl,⟨q',rfl⟩⟩)
 go_ret
 exact ⟨rfl,by repeat (first|exact Drawn0.refl _|apply Drawn0.step)⟩



/-! ### impl_isList_impl_Pair: function 86 -/
def impl_isList_impl_Pair.f (l0:List (S71)):Option (Bool):=some (decide ((l0.length:Int)≤4096))
set_option maxHeartbeats 8000000 in
set_option maxRecDepth 100000 in
theorem impl_isList_impl_Pair.calls (A0:Option Addr) (c0:Nat) (l0:List (S71)) (r:Bool) (w:World) (hr0:Kd.C k71 w A0 l0.length l0) (hc0:l0.length≤c0) (h:impl_isList_impl_Pair.f l0=some r) :
  Calls Tryd.prog 86 #[.slice A0 l0.length c0] w fun e w'=>e = .returned (.bool r)∧Drawn0 w w':=by
 have HR0:=ζa hr0
 have HC0:=ζa hc0
 clear hr0 hc0
 have H:(some (decide ((l0.length:Int)≤4096)))=some r:=h
 clear h
 obtain rfl:=Option.some.inj H
 go_enter Tryd.func86,Tryd.ntmps86
 go_wp2
 go_ret
 exact ⟨by first|rfl|(simp;done)|(simp [*];done),by repeat (first|exact Drawn0.refl _|apply Drawn0.step)⟩



/-! ### impl_within: function 102 -/
def impl_within.f (a0:Int) (a1:Int) (a2:Int):Option (Bool):=if a0 ≥ a1 then (some (decide (a0≤a2))) else (some φ)
set_option maxHeartbeats 8000000 in
set_option maxRecDepth 100000 in
theorem impl_within.calls (a0:Int) (a1:Int) (a2:Int) (r:Bool) (w:World) (h:impl_within.f a0 a1 a2=some r) :
  Calls Tryd.prog 102 #[.int .i64 a0,.int .i64 a1,.int .i64 a2] w fun e w'=>e = .returned (.bool r)∧Drawn0 w w':=by
 have H:(if a0 ≥ a1 then (some (decide (a0≤a2))) else (some φ))=some r:=h
 clear h
 by_cases c4:a0 ≥ a1
 ·
  rw [if_pos c4] at H
  have c4b0:decide (a1≤a0)=τ:=decide_eq_true c4
  clear c4
  obtain rfl:=Option.some.inj H
  go_enter Tryd.func102,Tryd.ntmps102
  go_wp2
  go_ret
  exact ⟨by first|rfl|(simp;done)|(simp [*];done),by repeat (first|exact Drawn0.refl _|apply Drawn0.step)⟩
 ·
  rw [if_neg c4] at H
  have c4b0:decide (a1≤a0)=φ:=decide_eq_false c4
  clear c4
  obtain rfl:=Option.some.inj H
  go_enter Tryd.func102,Tryd.ntmps102
  go_wp2
  go_ret
  exact ⟨by first|rfl|(simp;done)|(simp [*];done),by repeat (first|exact Drawn0.refl _|apply Drawn0.step)⟩


open Go.Proofs.YteghpdmlpefnfaaDoorW.PrintWords renaming gate_callee → δv
open List renaming map_toArray → δd, map_cons → δe, map_nil → δf, length_drop → δg, length_take → δh

/-! ### impl_isKey: function 124 -/
def impl_isKey.f (a0:ByteArray):Option (Bool):=(impl_within.f (a0.size:Int) 1 60).bind fun t258=>(some t258)
set_option maxHeartbeats 8000000 in
set_option maxRecDepth 100000 in
theorem impl_isKey.calls (a0:ByteArray) (r:Bool) (w:World) (h:impl_isKey.f a0=some r) :
  Calls Tryd.prog 124 #[.string a0] w fun e w'=>e = .returned (.bool r)∧Drawn0 w w':=by
 have H:((impl_within.f (a0.size:Int) 1 60).bind fun t258=>(some t258))=some r:=h
 clear h
 replace H:=Option.bind_eq_some_iff.mp H
 obtain ⟨t258,A20,H⟩:=H
 replace H:(some t258)=some r:=H
 have A2:=ζa A20
 clear A20
 obtain rfl:=Option.some.inj H
 go_enter Tryd.func124,Tryd.ntmps124
 go_wp2_with (first|((with_reducible refine δv (f:=102) rfl ?_);refine goesL_ (some 5) rfl rfl Tryd.func102 (by kernel_rfl) rfl #[.int .i64 (a0.size:Int),.int .i64 1,.int .i64 60] rfl (by (try simp only [δd,δe,δf]);first|done|rfl|(simp only [δg,δh];rfl)) ?_;(with_reducible refine (impl_within.calls (a0.size:Int) 1 60 t258 _ A2.out).mono ?_);rintro e w' ⟨rfl,⟨nd,rfl⟩⟩;refine ⟨_,rfl,?_⟩))
 go_ret
 exact ⟨by first|rfl|(simp;done)|(simp [*];done),by repeat (first|exact Drawn0.refl _|apply Drawn0.step)⟩



/-! ### impl_isValue: function 125 -/
def impl_isValue.f (a0:ByteArray):Option (Bool):=some (decide ((a0.size:Int)≤1000))
set_option maxHeartbeats 8000000 in
set_option maxRecDepth 100000 in
theorem impl_isValue.calls (a0:ByteArray) (r:Bool) (w:World) (h:impl_isValue.f a0=some r) :
  Calls Tryd.prog 125 #[.string a0] w fun e w'=>e = .returned (.bool r)∧Drawn0 w w':=by
 have H:(some (decide ((a0.size:Int)≤1000)))=some r:=h
 clear h
 obtain rfl:=Option.some.inj H
 go_enter Tryd.func125,Tryd.ntmps125
 go_wp2
 go_ret
 exact ⟨by first|rfl|(simp;done)|(simp [*];done),by repeat (first|exact Drawn0.refl _|apply Drawn0.step)⟩


open Go.Proofs.YteghpdmlpefnfaaDoorW.PrintWords renaming below_alloc → δk, pw_below_drewN → δi, below_drew1 → δj

/-! ### impl_StoreOK: function 87 -/
def impl_StoreOK.l0:Nat→List (S71)→List (S71)→Int→Int→Option (Bool)
 | 0,_,_,_,_=>none
 | k+1,x0,x5,x6,x7=>if x7<x6 then (if 0≤x7 then (if x7<(x5.length:Int) then ((impl_isKey.f ((rd_T71 x5 x7).f0)).bind fun t137=>(if t137=τ then ((impl_isValue.f ((rd_T71 x5 x7).f1)).bind fun t138=>(if t138=τ then (if x7 > 0 then (if 0≤(ζm (x7 - 1)) then (if (ζm (x7 - 1))<(x0.length:Int) then (if ((Op.bytesLess (((rd_T71 x0 (ζm (x7 - 1))).f0).toList) (((rd_T71 x5 x7).f0).toList))=τ) then (impl_StoreOK.l0 k x0 x5 x6 (ζm (x7+1))) else (some φ)) else (none)) else (none)) else (impl_StoreOK.l0 k x0 x5 x6 (ζm (x7+1)))) else (some φ))) else (some φ))) else (none)) else (none)) else (some (decide ((x0.length:Int)≤400)))
def impl_StoreOK.f (k:Nat) (l0:List (S71)):Option (Bool):=impl_StoreOK.l0 k l0 l0 (l0.length:Int) 0
theorem impl_StoreOK.geq (t:TypeId) (a b:ByteArray):binOp .geq t (.string a) (.string b)=pure (.bool !(Op.bytesLess a.toList b.toList)):=by simp [binOp,Op.stringOp]
attribute [local go_sem] impl_StoreOK.geq
set_option maxHeartbeats 8000000 in
set_option maxRecDepth 100000 in
theorem impl_StoreOK.calls (k:Nat) (A0:Option Addr) (c0:Nat) (l0:List (S71)) (r:Bool) (w:World) (hr0:Kd.C k71 w A0 l0.length l0) (hc0:l0.length≤c0) (h:impl_StoreOK.f k l0=some r) :
  Calls Tryd.prog 87 #[.slice A0 l0.length c0] w fun e w'=>e = .returned (.bool r)∧Below w.heap.size w w':=by
 have hu78:=Tryd.underlying71
 have HR0:=ζa hr0
 clear hr0 hc0
 have HB:=ζa (Below.refl w.heap.size w)
 have H':=ζa (show impl_StoreOK.l0 k l0 l0 (l0.length:Int) 0=some r from h)
 clear h
 go_enter Tryd.func87,Tryd.ntmps87
 go_wp2
 go_loopg [7] k (fun kq v7 w' => ∃ i:Int,v7 = .int .i64 i∧Aside0 (impl_StoreOK.l0 kq l0 l0 (l0.length:Int) i=some r)∧Aside0 (kq≤k)∧Aside0 (Below w.heap.size w w'))
 case atStart=>exact ⟨0,(by rfl),H',⟨Nat.le_refl _⟩,HB⟩
 case round =>
  clear H' HB
  obtain ⟨i,rfl,HA,HK1,HB⟩:=hrel
  cases gk with
  | zero=>exact absurd HA.out (by simp [impl_StoreOK.l0])
  | succ k1 =>
   have H:=HA.out
   clear HA
   simp only [impl_StoreOK.l0] at H
   by_cases c2:i<(l0.length:Int)
   ·
    rw [if_pos c2] at H
    have c2b0:decide (i<(l0.length:Int))=τ:=decide_eq_true c2
    by_cases c3:0≤i
    ·
     rw [if_pos c3,if_pos c2] at H
     obtain ⟨ad,e1,hx0,hx1⟩:=at_T71 HR0.out i c3 c2
     cases e1
     replace hx0:=(HB.out.cell (World.block_lt_of_cell? w _ hx0)).trans hx0
     replace hx1:=(HB.out.cell (World.block_lt_of_cell? w _ hx1)).trans hx1
     obtain ⟨b1,h1,H⟩:=Option.bind_eq_some_iff.mp H
     have A5:=ζa h1
     clear h1
     have prev:0<i → ∃ s t:ByteArray,s=(rd_T71 l0 (i - 1)).f0∧w.cell? (ad.add ((i - 1).toNat * 2))=some (.string s)∧t=s:=fun hp=>by
      obtain ⟨ad2,e2,hy0,_⟩:=at_T71 HR0.out (i - 1) (by omega) (by omega)
      obtain rfl:ad=ad2:=by injection e2
      exact ⟨_,_,rfl,hy0,rfl⟩
     have PV:=ζa prev
     clear prev
     have c3b:decide (0≤i)=τ:=decide_eq_true c3
     go_upto_region 4 with (fail)
     have hcz0:(wr.alloc (.cells #[.string (rd_T71 l0 i).f0,.string (rd_T71 l0 i).f1] 71 (0,0))).cell? ⟨wr.heap.size,0,none⟩=some (.string (rd_T71 l0 i).f0):=(World.cell?_alloc_mark wr _ 71 (0,0) 0).trans rfl
     have hcz1:(wr.alloc (.cells #[.string (rd_T71 l0 i).f0,.string (rd_T71 l0 i).f1] 71 (0,0))).cell? ⟨wr.heap.size,1,none⟩=some (.string (rd_T71 l0 i).f1):=(World.cell?_alloc_mark wr _ 71 (0,0) 1).trans rfl
     have PV2:Aside0 (0<i → ∃ s:ByteArray,s=(rd_T71 l0 (i - 1)).f0∧(wr.alloc (.cells #[.string (rd_T71 l0 i).f0,.string (rd_T71 l0 i).f1] 71 (0,0))).cell? (ad.add ((i - 1).toNat * 2))=some (.string s)):=⟨fun hp=>by
      obtain ⟨s,_,hs,hy,_⟩:=PV.out hp
      exact ⟨s,hs,((HB.out.alloc (HB.out.size) _).cell (World.block_lt_of_cell? w _ hy)).trans hy⟩⟩
     have HB2:=ζa (HB.out.alloc (HB.out.size) (.cells #[.string (rd_T71 l0 i).f0,.string (rd_T71 l0 i).f1] 71 (0,0)))
     clear HB PV hx0 hx1
     generalize wr.alloc (.cells #[.string (rd_T71 l0 i).f0,.string (rd_T71 l0 i).f1] 71 (0,0))=W4 at *
     generalize wr.heap.size=gb at *
     clear c3
     cases b1 with
     | false =>
      obtain rfl:=Option.some.inj H
      go_quiet ((go_at_call 124;(with_reducible refine (impl_isKey.calls _ _ _ A5.out).mono ?_);rintro e w' ⟨rfl,⟨nd,rfl⟩⟩;(try exact ⟨rfl,_,World.drewN_drewN _ _ _⟩)))
      go_wp2
      go_ret
      exact ⟨rfl,by repeat (first|(with_reducible first|exact HB2.out|apply δk|apply δi|apply δj)|exact HB2.out)⟩
     | true =>
      rw [if_pos rfl] at H
      obtain ⟨b2,h2,H⟩:=Option.bind_eq_some_iff.mp H
      have A6:=ζa h2
      clear h2
      cases b2 with
      | false =>
       obtain rfl:=Option.some.inj H
       go_quiet (first|(go_at_call 124;(with_reducible refine (impl_isKey.calls _ _ _ A5.out).mono ?_);rintro e w' ⟨rfl,⟨nd,rfl⟩⟩;(try exact ⟨rfl,_,World.drewN_drewN _ _ _⟩))|(go_at_call 125;(with_reducible refine (impl_isValue.calls _ _ _ A6.out).mono ?_);rintro e w' ⟨rfl,⟨nd,rfl⟩⟩;(try exact ⟨rfl,_,World.drewN_drewN _ _ _⟩)))
       go_wp2
       go_ret
       exact ⟨rfl,by repeat (first|(with_reducible first|exact HB2.out|apply δk|apply δi|apply δj)|exact HB2.out)⟩
      | true =>
       rw [if_pos rfl] at H
       have hmax:(l0.length:Int)≤9223372036854775807:=by have:=Kd.C_max HR0.out;omega
       have hmx:=ζa hmax
       clear hmax
       by_cases c4:i > 0
       ·
        have hw1:IntKind.i64.wrap (i - 1)=i - 1:=IntWalk.i64_in _ (by have:=hmx.out;omega)
        have hw2:ζm (i - 1)=i - 1:=IntWalk.wrap64_in _ (by have:=hmx.out;omega)
        rw [if_pos c4,hw2,if_pos (by omega),if_pos (by omega)] at H
        obtain ⟨s,hs,hy⟩:=PV2.out c4
        rw [← hs] at H
        have c4b0:decide (i > 0)=τ:=decide_eq_true c4
        have c4b1:decide (0<i)=τ:=decide_eq_true c4
        have c5:0≤i - 1:=by omega
        have c6:i - 1<(l0.length:Int):=by omega
        clear c4 PV2 hs c2 hw2
        obtain ⟨j,hj⟩ : ∃ j,j=i - 1:=⟨_,rfl⟩
        rw [← hj] at hy c5 c6
        replace hw1:=hw1.trans hj.symm
        clear hj
        have c5b:decide (0≤j)=τ:=decide_eq_true c5
        have c6b:decide (j<(l0.length:Int))=τ:=decide_eq_true c6
        cases hb:Op.bytesLess s.toList ((rd_T71 l0 i).f0).toList with
        | false =>
         rw [hb] at H
         obtain rfl:=Option.some.inj H
         go_quiet (first|(go_at_call 124;(with_reducible refine (impl_isKey.calls _ _ _ A5.out).mono ?_);rintro e w' ⟨rfl,⟨nd,rfl⟩⟩;(try exact ⟨rfl,_,World.drewN_drewN _ _ _⟩))|(go_at_call 125;(with_reducible refine (impl_isValue.calls _ _ _ A6.out).mono ?_);rintro e w' ⟨rfl,⟨nd,rfl⟩⟩;(try exact ⟨rfl,_,World.drewN_drewN _ _ _⟩)))
         go_wp2
         go_ret
         exact ⟨rfl,by repeat (first|(with_reducible first|exact HB2.out|apply δk|apply δi|apply δj)|exact HB2.out)⟩
        | true =>
         rw [hb,if_pos rfl] at H
         have HN:=ζa H
         clear H
         go_quiet (first|(go_at_call 124;(with_reducible refine (impl_isKey.calls _ _ _ A5.out).mono ?_);rintro e w' ⟨rfl,⟨nd,rfl⟩⟩;(try exact ⟨rfl,_,World.drewN_drewN _ _ _⟩))|(go_at_call 125;(with_reducible refine (impl_isValue.calls _ _ _ A6.out).mono ?_);rintro e w' ⟨rfl,⟨nd,rfl⟩⟩;(try exact ⟨rfl,_,World.drewN_drewN _ _ _⟩)))
         go_wp2
         go_roundg k1
         case measure=>omega
         case rel=>exact ⟨_,rfl,HN,⟨by have:=HK1.out;omega⟩,⟨by repeat ((with_reducible first|exact HB2.out|apply δi))⟩⟩
       ·
        rw [if_neg c4] at H
        have c4b0:decide (i > 0)=φ:=decide_eq_false c4
        have c4b1:decide (0<i)=φ:=decide_eq_false c4
        clear c4 c2 PV2
        have HN:=ζa H
        clear H
        go_quiet (first|(go_at_call 124;(with_reducible refine (impl_isKey.calls _ _ _ A5.out).mono ?_);rintro e w' ⟨rfl,⟨nd,rfl⟩⟩;(try exact ⟨rfl,_,World.drewN_drewN _ _ _⟩))|(go_at_call 125;(with_reducible refine (impl_isValue.calls _ _ _ A6.out).mono ?_);rintro e w' ⟨rfl,⟨nd,rfl⟩⟩;(try exact ⟨rfl,_,World.drewN_drewN _ _ _⟩)))
        go_wp2
        go_roundg k1
        case measure=>omega
        case rel=>exact ⟨_,rfl,HN,⟨by have:=HK1.out;omega⟩,⟨by repeat ((with_reducible first|exact HB2.out|apply δi))⟩⟩
    ·
     rw [if_neg c3] at H
     exact absurd H (by simp)
   ·
    rw [if_neg c2] at H
    have c2b0:decide (i<(l0.length:Int))=φ:=decide_eq_false c2
    clear c2
    obtain rfl:=Option.some.inj H
    go_wp2
    go_ret
    exact ⟨by rfl,HB.out⟩


open Go.Proofs.YteghpdmlpefnfaaDoorW.PrintWords renaming gate_callee → δv, pw_below_drewN → δi, below_step → δr

/-! ### impl_storeCode: function 51 -/
def impl_storeCode.j0:Nat→List (S71)→Bool→Option (Int)
 | 0,_,_=>none
 | k+1,x0,x5=>if x5=τ then (some 2) else ((impl_StoreOK.f k x0).bind fun t261=>(if t261=τ then (some 0) else (some 1)))
def impl_storeCode.f (k:Nat) (l0:List (S71)) (l1:List ByteArray):Option (Int):=(impl_isList_impl_Pair.f l0).bind fun t259=>(if t259=τ then ((impl_isText.f l1).bind fun t260=>(impl_storeCode.j0 k l0 (!t260))) else (impl_storeCode.j0 k l0 τ))
set_option maxHeartbeats 8000000 in
set_option maxRecDepth 100000 in
theorem impl_storeCode.calls (k:Nat) (A0:Option Addr) (c0:Nat) (l0:List (S71)) (A1:Option Addr) (c1:Nat) (l1:List ByteArray) (r:Int) (w:World) (hr0:Kd.C k71 w A0 l0.length l0) (hc0:l0.length≤c0) (hr1:Kd.C Kd.string w A1 l1.length l1) (hc1:l1.length≤c1) (h:impl_storeCode.f k l0 l1=some r) :
  Calls Tryd.prog 51 #[.slice A0 l0.length c0,.slice A1 l1.length c1] w fun e w'=>e = .returned (.int .i64 r)∧Below w.heap.size w w':=by
 have HR0:=ζa hr0
 have HC0:=ζa hc0
 clear hr0 hc0
 have HR1:=ζa hr1
 have HC1:=ζa hc1
 clear hr1 hc1
 have HB:=ζa (Below.refl w.heap.size w)
 have H:((impl_isList_impl_Pair.f l0).bind fun t259=>(if t259=τ then ((impl_isText.f l1).bind fun t260=>(impl_storeCode.j0 k l0 (!t260))) else (impl_storeCode.j0 k l0 τ)))=some r:=h
 clear h
 have HC3:=ζa H
 clear H
 go_enter Tryd.func51,Tryd.ntmps51
 go_upto_region 1 with (fail)
 go_cut [5] (fun v5 wc => ∃ (kq:Nat) (x5_2:Bool),v5 = .bool x5_2∧Aside0 (impl_storeCode.j0 kq l0 x5_2=some r)∧Aside0 (kq≤k)∧Aside0 (Below w.heap.size w wc))
 case first =>
  have H:=HC3.out
  clear HC3
  replace H:=Option.bind_eq_some_iff.mp H
  obtain ⟨t259,A40,H⟩:=H
  replace H:(if t259=τ then ((impl_isText.f l1).bind fun t260=>(impl_storeCode.j0 k l0 (!t260))) else (impl_storeCode.j0 k l0 τ))=some r:=H
  have A4:=ζa A40
  clear A40
  by_cases c5:t259=τ
  ·
   subst c5
   have H1:((impl_isText.f l1).bind fun t260=>(impl_storeCode.j0 k l0 (!t260)))=some r:=by rw [if_pos rfl] at H;exact H
   clear H
   have H:=H1
   clear H1
   replace H:=Option.bind_eq_some_iff.mp H
   obtain ⟨t260,A60,H⟩:=H
   replace H:(impl_storeCode.j0 k l0 (!t260))=some r:=H
   have A6:=ζa A60
   clear A60
   have H':=ζa H
   clear H
   go_wp2_with (first|((with_reducible refine δv (f:=86) rfl ?_);refine goesL_ (some 7) rfl rfl Tryd.func86 (by kernel_rfl) rfl #[.slice A0 l0.length c0] rfl (by (try simp only [δd,δe,δf]);rfl) ?_;(with_reducible refine (impl_isList_impl_Pair.calls _ _ l0 τ _ ?side1 ?side2 A4.out).mono ?_);(case side1=>repeat (exact (Kd.C_below HR0.out HB.out)));(case side2=>exact HC0.out);rintro e w' ⟨rfl,⟨nd,rfl⟩⟩;refine ⟨_,rfl,?_⟩)|(go_at_call 36;(with_reducible refine (impl_isText.calls _ _ l1 t260 _ ?side1 ?side2 A6.out).mono ?_);(case side1=>repeat (exact (Kd.C_below HR1.out (by repeat ((with_reducible first|exact HB.out|apply δi))))));(case side2=>exact HC1.out);rintro e w' ⟨rfl,⟨nd,rfl⟩⟩))
   go_meet
   case rel=>exact ⟨_,(!t260),(by rfl),H',⟨by omega⟩,⟨by repeat ((with_reducible first|exact HB.out|apply δi))⟩⟩
  ·
   replace c5:=Bool.eq_false_iff.mpr c5
   subst c5
   have H1:(impl_storeCode.j0 k l0 τ)=some r:=by rw [if_neg (show ¬ (φ=τ) by decide)] at H;exact H
   clear H
   have H:=H1
   clear H1
   have H':=ζa H
   clear H
   go_wp2_with (((with_reducible refine δv (f:=86) rfl ?_);refine goesL_ (some 7) rfl rfl Tryd.func86 (by kernel_rfl) rfl #[.slice A0 l0.length c0] rfl (by (try simp only [δd,δe,δf]);rfl) ?_;(with_reducible refine (impl_isList_impl_Pair.calls _ _ l0 φ _ ?side1 ?side2 A4.out).mono ?_);(case side1=>repeat (exact (Kd.C_below HR0.out HB.out)));(case side2=>exact HC0.out);rintro e w' ⟨rfl,⟨nd,rfl⟩⟩;refine ⟨_,rfl,?_⟩))
   go_meet
   case rel=>exact ⟨_,(τ),(by rfl),H',⟨by omega⟩,⟨by repeat ((with_reducible first|exact HB.out|apply δi))⟩⟩
 case rest =>
  clear HC3
  try clear c1
  try clear p2
  try clear c5
  obtain ⟨kq,x5_2,rfl,HA,HJ2,HB⟩:=hcut
  cases kq with
  | zero=>exact absurd HA.out (by simp [impl_storeCode.j0])
  | succ kj2 =>
   have H:=HA.out
   clear HA
   simp only [impl_storeCode.j0] at H
   by_cases c7:x5_2=τ
   ·
    subst c7
    have H1:(some 2)=some r:=by rw [if_pos rfl] at H;exact H
    clear H
    have H:=H1
    clear H1
    obtain rfl:=Option.some.inj H
    go_wp2
    go_ret
    exact ⟨by rfl,by repeat ((with_reducible exact HB.out))⟩
   ·
    replace c7:=Bool.eq_false_iff.mpr c7
    subst c7
    have H1:((impl_StoreOK.f kj2 l0).bind fun t261=>(if t261=τ then (some 0) else (some 1)))=some r:=by rw [if_neg (show ¬ (φ=τ) by decide)] at H;exact H
    clear H
    have H:=H1
    clear H1
    replace H:=Option.bind_eq_some_iff.mp H
    obtain ⟨t261,A80,H⟩:=H
    replace H:(if t261=τ then (some 0) else (some 1))=some r:=H
    have A8:=ζa A80
    clear A80
    by_cases c9:t261=τ
    ·
     subst c9
     have H1:(some 0)=some r:=by rw [if_pos rfl] at H;exact H
     clear H
     have H:=H1
     clear H1
     obtain rfl:=Option.some.inj H
     go_wp2_with (((with_reducible refine δv (f:=87) rfl ?_);refine goesL_ (some 16) rfl rfl Tryd.func87 (by kernel_rfl) rfl #[.slice A0 l0.length c0] rfl (by (try simp only [δd,δe,δf]);rfl) ?_;(with_reducible refine (impl_StoreOK.calls kj2 _ _ l0 τ _ ?side1 ?side2 A8.out).mono ?_);(case side1=>repeat (exact (Kd.C_below HR0.out HB.out)));(case side2=>exact HC0.out);rintro e w10 ⟨rfl,hb⟩;refine ⟨_,rfl,?_⟩;have n0_:=ζa (δr (by exact HB.out) hb);clear HB;have HB:=n0_;clear n0_;(try clear hb);(try clear hb2);(try clear hk);(try clear hi)))
     go_ret
     exact ⟨by rfl,by repeat ((with_reducible exact HB.out))⟩
    ·
     replace c9:=Bool.eq_false_iff.mpr c9
     subst c9
     have H1:(some 1)=some r:=by rw [if_neg (show ¬ (φ=τ) by decide)] at H;exact H
     clear H
     have H:=H1
     clear H1
     obtain rfl:=Option.some.inj H
     go_wp2_with (((with_reducible refine δv (f:=87) rfl ?_);refine goesL_ (some 16) rfl rfl Tryd.func87 (by kernel_rfl) rfl #[.slice A0 l0.length c0] rfl (by (try simp only [δd,δe,δf]);rfl) ?_;(with_reducible refine (impl_StoreOK.calls kj2 _ _ l0 φ _ ?side1 ?side2 A8.out).mono ?_);(case side1=>repeat (exact (Kd.C_below HR0.out HB.out)));(case side2=>exact HC0.out);rintro e w11 ⟨rfl,hb⟩;refine ⟨_,rfl,?_⟩;have n0_:=ζa (δr (by exact HB.out) hb);clear HB;have HB:=n0_;clear n0_;(try clear hb);(try clear hb2);(try clear hk);(try clear hi)))
     go_ret
     exact ⟨by rfl,by repeat ((with_reducible exact HB.out))⟩


open Bool renaming true → τ

/-! ### impl_orderKey: function 96 -/
def impl_orderKey.f (a0:ByteArray):Option (ByteArray):=if 2+a0.size≤9223372036854775807 then (some ((⟨#[111,47]⟩:ByteArray) ++ a0)) else (none)
set_option maxHeartbeats 8000000 in
set_option maxRecDepth 100000 in
theorem impl_orderKey.calls (a0:ByteArray) (r:ByteArray) (w:World) (h:impl_orderKey.f a0=some r) :
  Calls Tryd.prog 96 #[.string a0] w fun e w'=>e = .returned (.string r)∧Drawn0 w w':=by
 have H:(if 2+a0.size≤9223372036854775807 then (some ((⟨#[111,47]⟩:ByteArray) ++ a0)) else (none))=some r:=h
 clear h
 by_cases c2:2+a0.size≤9223372036854775807
 ·
  rw [if_pos c2] at H
  have c2b0:=eq_true c2
  have c2b1:decide (2+a0.size≤9223372036854775807)=τ:=decide_eq_true c2
  try have c2b2:(9223372036854775807<2+a0.size)=False:=eq_false (Nat.not_lt.2 c2)
  obtain rfl:=Option.some.inj H
  go_enter Tryd.func96,Tryd.ntmps96
  go_wp2
  go_ret
  exact ⟨by first|rfl|(simp;done)|(simp [*];done),by repeat (first|exact Drawn0.refl _|apply Drawn0.step)⟩
 ·
  rw [if_neg c2] at H
  exact absurd H (by simp)



/-! ### impl_numberOf: function 127 -/
def impl_numberOf.l0:Nat→ByteArray→Int→Int→Int→Option (Int)
 | 0,_,_,_,_=>none
 | k+1,x0,x3,x6,x7=>if x7<x6 then (if 0≤x7 then (if x7<(x0.size:Int) then (impl_numberOf.l0 k x0 (ζm ((ζm (x3 * 256))+(ζm (bt x0 x7)))) x6 (ζm (x7+1))) else (none)) else (none)) else (some x3)
def impl_numberOf.f (k:Nat) (a0:ByteArray):Option (Int):=impl_numberOf.l0 k a0 0 (a0.size:Int) 0
set_option maxHeartbeats 8000000 in
set_option maxRecDepth 100000 in
theorem impl_numberOf.calls (k:Nat) (a0:ByteArray) (r:Int) (w:World) (h:impl_numberOf.f k a0=some r) :
  Calls Tryd.prog 127 #[.string a0] w fun e w'=>e = .returned (.int .i64 r)∧Drawn0 w w':=by
 have H:(impl_numberOf.l0 k a0 0 (a0.size:Int) 0)=some r:=h
 clear h
 have H':=ζa H
 clear H
 go_enter Tryd.func127,Tryd.ntmps127
 go_wp2
 go_loopg [3,7] k (fun kq v3 v7 w' => ∃ (x3_1:Int) (x7_1:Int),v3 = .int .i64 x3_1∧v7 = .int .i64 x7_1∧Aside0 (impl_numberOf.l0 kq a0 x3_1 (a0.size:Int) x7_1=some r)∧Aside0 (kq≤k)∧Drawn0 w w')
 case atStart=>exact ⟨(0),(0),(by first|rfl|(simp;done)|(simp [*];done)),(by first|rfl|(simp;done)|(simp [*];done)),H',⟨Nat.le_refl _⟩,by repeat (first|exact Drawn0.refl _|apply Drawn0.step)⟩
 case round =>
  clear H'
  try clear c1
  obtain ⟨x3_1,x7_1,rfl,rfl,HA,HK1,⟨m1,rfl⟩⟩:=hrel
  cases gk with
  | zero=>exact absurd HA.out (by simp [impl_numberOf.l0])
  | succ k1 =>
   have H:=HA.out
   clear HA
   simp only [impl_numberOf.l0] at H
   by_cases c2:x7_1<(a0.size:Int)
   ·
    rw [if_pos c2] at H
    have c2b0:decide (x7_1<(a0.size:Int))=τ:=decide_eq_true c2
    clear c2
    by_cases c3:0≤x7_1
    ·
     rw [if_pos c3] at H
     have c3b0:decide (0≤x7_1)=τ:=decide_eq_true c3
     clear c3
     by_cases c4:x7_1<(a0.size:Int)
     ·
      rw [if_pos c4] at H
      have c4b0:decide (x7_1<(a0.size:Int))=τ:=decide_eq_true c4
      clear c4
      have H':=ζa H
      clear H
      have p5:0≤(x7_1:Int):=of_decide_eq_true (by first|(with_reducible assumption)|assumption)
      have q5:x7_1<(a0.size:Int):=of_decide_eq_true (by first|(with_reducible assumption)|assumption)
      have hx5:=bt_at a0 x7_1
      replace p5:=eq_true p5
      replace q5:=eq_true q5
      go_wp2
      go_roundg k1
      case measure=>have:=HK1.out;omega
      case rel=>exact ⟨(ζm ((ζm (x3_1 * 256))+(ζm (bt a0 x7_1)))),(ζm (x7_1+1)),(by first|rfl|(simp;done)|(simp [*];done)),(by first|rfl|(simp;done)|(simp [*];done)),H',⟨by have:=HK1.out;omega⟩,by repeat (first|exact Drawn0.refl _|apply Drawn0.step)⟩
     ·
      rw [if_neg c4] at H
      exact absurd H (by simp)
    ·
     rw [if_neg c3] at H
     exact absurd H (by simp)
   ·
    rw [if_neg c2] at H
    have c2b0:decide (x7_1<(a0.size:Int))=φ:=decide_eq_false c2
    clear c2
    obtain rfl:=Option.some.inj H
    go_wp2
    go_ret
    exact ⟨by first|rfl|(simp;done)|(simp [*];done),by repeat (first|exact Drawn0.refl _|apply Drawn0.step)⟩

end Go.Proofs.YteghpdmlpefnfaaDoor.Q
