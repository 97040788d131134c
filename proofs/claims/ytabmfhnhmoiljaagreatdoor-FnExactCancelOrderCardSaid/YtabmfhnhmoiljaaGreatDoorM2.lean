/- Parts of the proof: what single Go functions compute, each with its walk, and plain laws over these. -/
import Derived.Test.YtabmfhnhmoiljaaGreatDoorM0
import Derived.Test.YtabmfhnhmoiljaaGreatDoorM1
namespace Go.Proofs.YtabmfhnhmoiljaaGreatDoor.Q
open Go.RowKit Go.Proofs.YtabmfhnhmoiljaaGreatDoorW.PrintWords Go.Proofs.YtabmfhnhmoiljaaGreatDoorW.PrintLast Go.Proofs.YtabmfhnhmoiljaaGreatDoorW.PrintMore
open Go.Proofs.YtabmfhnhmoiljaaGreatDoorW.PrintWords renaming cell_far → δt, gate_dst → δx, box_event → δz, below_step → δr, below_size → δs, gate_callee → δv, blk_cell → δl, blk_frozen → δm, blk_put → δw, below_set → δq, blk_drew → δp, below_drew1 → δj, blk_drewN → δn, pw_below_drewN → δi
open Go.Proofs.YtabmfhnhmoiljaaGreatDoorW.PrintWords.Aside0 renaming mk → ζa
open List renaming map_toArray → δd, map_cons → δe, map_nil → δf, setIfInBounds_toArray → δa, set_cons_zero → δb, set_cons_succ → δc
open Go.Act renaming put → ζl
open Go.Proofs.YtabmfhnhmoiljaaGreatDoorW.PrintWords.Kd renaming R_drew → ζe, R_reads' → ζg, R_below → ζh, R_drewN → ζc, R_ne → ζf, R_far → ζi
open Go.Proofs.YtabmfhnhmoiljaaGreatDoorW.PrintLast renaming pure_ → ζk, any_of → ζj
open Bool renaming true → τ, false → φ
attribute [local go_sem] max2_int min2_int max_two min_two max_three min_three max_four min_four   -- for this text's walks alone
set_option linter.unusedVariables false
set_option linter.unusedSimpArgs false

/-! ### spec_l09Read: function 167 -/
def spec_l09Read.j0:Nat→ByteArray→List ByteArray→Bool→Option (ByteArray × ByteArray × Int × Int × Int × Bool × Bool)
 | 0,_,_,_=>none
 | k+1,x0,x6,x20=>if x20=τ then (some ((⟨#[]⟩:ByteArray),(⟨#[]⟩:ByteArray),0,0,0,φ,φ)) else (if 0<(x6.length:Int) then (if 1<(x6.length:Int) then ((spec_l02Of.f k (rdOf ByteArray.empty x6 1)).bind fun t698=>(if 2<(x6.length:Int) then ((spec_l02Of.f k (rdOf ByteArray.empty x6 2)).bind fun t700=>(if 3<(x6.length:Int) then ((spec_l02Of.f k (rdOf ByteArray.empty x6 3)).bind fun t702=>(if 4<(x6.length:Int) then ((spec_OrderOK.f k x0 (rdOf ByteArray.empty x6 0) t698 t700 t702 ((rdOf ByteArray.empty x6 4).toList == ([111,112,101,110]:List UInt8))).bind fun t705=>(if t705=τ then (if (rdOf ByteArray.empty x6 4).toList=([111,112,101,110]:List UInt8) then (some (x0,rdOf ByteArray.empty x6 0,t698,t700,t702,((rdOf ByteArray.empty x6 4).toList == ([111,112,101,110]:List UInt8)),τ)) else (some (x0,rdOf ByteArray.empty x6 0,t698,t700,t702,((rdOf ByteArray.empty x6 4).toList == ([111,112,101,110]:List UInt8)),((rdOf ByteArray.empty x6 4).toList == ([99,108,111,115,101,100]:List UInt8))))) else (some (x0,rdOf ByteArray.empty x6 0,t698,t700,t702,((rdOf ByteArray.empty x6 4).toList == ([111,112,101,110]:List UInt8)),φ)))) else (none))) else (none))) else (none))) else (none)) else (none))
def spec_l09Read.f (k:Nat) (a0:ByteArray) (a1:ByteArray):Option (ByteArray × ByteArray × Int × Int × Int × Bool × Bool):=(spec_l02Read.f k a1).bind fun bt692=>(if bt692.2=τ then (spec_l09Read.j0 k a0 bt692.1 ((bt692.1.length:Int) != 5)) else (spec_l09Read.j0 k a0 bt692.1 τ))
def spec_l09Read.T4:Bool × List (List Nat × List Nat):=(τ,[([],[]),([],[]),([1],[1]),([2],[2]),([],[]),([4],[4]),([5],[5]),([6],[6]),([],[]),([8],[8]),([9],[9]),([10,7],[10]),([],[]),([12],[12]),([13],[13]),([14,11],[14]),([],[]),([16],[16]),([17],[17]),([18],[18]),([0,3,7,11,15,19],[0,3,7,11,15,19]),([],[]),([21,20,15,0,1,2,3,4,5,6,7,8,9,10,11,12,13,14,15,16,17,18,19,20,21],[20,21])])
def spec_l09Read.B4:List Nat:=[0,0,2,6,0,16,48,112,0,256,768,2032,0,4096,12288,32752,0,65536,196608,458752,1048575,0,4194303]
theorem spec_l09Read.tab4:rtab .any (opsOf Tryz.f167 4)=spec_l09Read.T4:=by kernel_rfl
theorem spec_l09Read.bits4:waitsOk spec_l09Read.T4.2 spec_l09Read.B4=τ:=by kernel_rfl
def spec_l09Read.T5:Bool × List (List Nat × List Nat):=(τ,[([],[]),([],[]),([1],[1]),([2,2],[2]),([3],[3]),([4,3],[3,4]),([5,3,3],[3,5]),([6],[6]),([7,6],[6,7]),([8,6],[6,8]),([9,6],[6,9]),([6,10,3],[3,6,10]),([3,11],[3,11]),([0,6,0],[0]),([12,13,0,1,2,3,4,5,6,7,8,9,10,11,12,13],[12])])
def spec_l09Read.B5:List Nat:=[0,0,2,6,14,30,62,126,254,510,1022,2046,4094,127,16383]
theorem spec_l09Read.tab5:rtab .any (opsOf Tryz.f167 5)=spec_l09Read.T5:=by kernel_rfl
theorem spec_l09Read.bits5:waitsOk spec_l09Read.T5.2 spec_l09Read.B5=τ:=by kernel_rfl
theorem spec_l09Read.far6 {W:World} {g:Nat} {a:Addr} {i0 i1 i2 i3 i4 i5:Nat} (h:a.block≠g) (u0 u1 u2 u3 u4 u5:Value):((((((W.setCell ⟨g,i0,none⟩ u0).setCell ⟨g,i1,none⟩ u1).setCell ⟨g,i2,none⟩ u2).setCell ⟨g,i3,none⟩ u3).setCell ⟨g,i4,none⟩ u4).setCell ⟨g,i5,none⟩ u5).cell? a=W.cell? a :=
 (δt (p:=⟨g,i5,none⟩) h _).trans ((δt (p:=⟨g,i4,none⟩) h _).trans ((δt (p:=⟨g,i3,none⟩) h _).trans ((δt (p:=⟨g,i2,none⟩) h _).trans ((δt (p:=⟨g,i1,none⟩) h _).trans (δt (p:=⟨g,i0,none⟩) h _)))))
set_option maxHeartbeats 8000000 in
set_option maxRecDepth 100000 in
theorem spec_l09Read.calls (k:Nat) (a0:ByteArray) (a1:ByteArray) (r1:ByteArray) (r2:ByteArray) (r3:Int) (r4:Int) (r5:Int) (r6:Bool) (r7:Bool) (w:World) (h:spec_l09Read.f k a0 a1=some (r1,r2,r3,r4,r5,r6,r7)) :
  Calls Tryz.prog 167 #[.string a0,.string a1] w fun e w'=>e = .returned (.tuple #[.agg #[.string r1,.string r2,.int .i64 r3,.int .i64 r4,.int .i64 r5,.bool r6],.bool r7])∧Below w.heap.size w w':=by
 have hu66:=Tryz.underlying66
 have HB:=ζa (Below.refl w.heap.size w)
 have H:((spec_l02Read.f k a1).bind fun bt692=>(if bt692.2=τ then (spec_l09Read.j0 k a0 bt692.1 ((bt692.1.length:Int) != 5)) else (spec_l09Read.j0 k a0 bt692.1 τ)))=some (r1,r2,r3,r4,r5,r6,r7):=h
 clear h
 replace H:=Option.bind_eq_some_iff.mp H
 obtain ⟨⟨t692,t693⟩,A30,H⟩:=H
 replace H:(if t693=τ then (spec_l09Read.j0 k a0 t692 ((t692.length:Int) != 5)) else (spec_l09Read.j0 k a0 t692 τ))=some (r1,r2,r3,r4,r5,r6,r7):=H
 have A3:=ζa A30
 clear A30
 have HC4:=ζa H
 clear H
 go_enter Tryz.func167,Tryz.ntmps167
 go_upto_region 2 with (first|((with_reducible refine δx (N:=4) rfl ?_);(try (refine gate_guard (by rfl) ?_;dsimp only));refine δz ?hg (N:=4) ?hd (cs:=#[.string (⟨#[]⟩:ByteArray),.string (⟨#[]⟩:ByteArray),.int .i64 0,.int .i64 0,.int .i64 0,.bool φ]) (t:=66) ?hr ?_;(case hd=>rfl);(case hg=>rfl);(case hr=>(go_simp;done));intro gb691 hg w5 hbox hb;have n0_:=ζa (δr (by exact HB.out) hb);have n1_:=ζa (hbox);have n2_:=ζa ((by rw [hg];exact (δs (by exact HB.out)):w.heap.size≤gb691));have n3_:=ζa ((by rw [hg];exact (δs (by exact HB.out)):w.heap.size≤gb691));clear HB;have HB:=n0_;have BK691:=n1_;have GW691:=n2_;have GE691:=n3_;clear n0_ n1_ n2_ n3_;clear hb hbox hg)|((with_reducible refine δv (f:=148) rfl ?_);refine goesL_ (some 11) rfl rfl Tryz.func148 (by kernel_rfl) rfl #[.string a1] rfl (by (try simp only [δd,δe,δf]);rfl) ?_;(with_reducible refine (spec_l02Read.calls k a1 t692 t693 _ A3.out).mono ?_);rintro e w6 ⟨v694,rfl,ho0,hb⟩;refine ⟨_,rfl,?_⟩;have n0_:=ζa (Kd.R_lower ho0 (δs (by exact HB.out)));have n1_:=ζa (blk_below (g:=gb691) (o:=.cells #[.string (⟨#[]⟩:ByteArray),.string (⟨#[]⟩:ByteArray),.int .i64 0,.int .i64 0,.int .i64 0,.bool φ] 66 (0,0)) (by exact BK691.out) hb);have n2_:=ζa (δr (by exact HB.out) hb);clear BK691;clear HB;have HO695:=n0_;have BK691:=n1_;have HB:=n2_;clear n0_ n1_ n2_;(try clear hb);(try clear hb2);(try clear hk);(try clear hi);(try clear ho0)))
 (try simp only [ζl,δa,δb,δc])
 go_cut [20] (fun v20 wc => ∃ (kq:Nat) (x20_3:Bool),v20 = .bool x20_3∧Aside0 (spec_l09Read.j0 kq a0 t692 x20_3=some (r1,r2,r3,r4,r5,r6,r7))∧Aside0 (kq≤k)∧Aside0 (Kd.R Kd.string 9 wc w.heap.size (fun _=>True) v694 t692)∧Aside0 (wc.heap[gb691]? = some (.cells #[.string (⟨#[]⟩:ByteArray),.string (⟨#[]⟩:ByteArray),.int .i64 0,.int .i64 0,.int .i64 0,.bool φ] 66 (0,0)))∧Aside0 (Below w.heap.size w wc))
 case first =>
  have H:=HC4.out
  clear HC4
  by_cases c7:t693=τ
  ·
   subst c7
   have H1:(spec_l09Read.j0 k a0 t692 ((t692.length:Int) != 5))=some (r1,r2,r3,r4,r5,r6,r7):=by rw [if_pos rfl] at H;exact H
   clear H
   have H:=H1
   clear H1
   have H':=ζa H
   clear H
   obtain ⟨Ao8,co8,eo8⟩:=Kd.R_slice HO695.out
   subst eo8
   go_wp2
   go_meet
   case rel=>exact ⟨_,(((t692.length:Int) != 5)),(by rfl),H',⟨by omega⟩,⟨by exact HO695.out⟩,⟨by exact BK691.out⟩,⟨by repeat ((with_reducible exact HB.out))⟩⟩
  ·
   replace c7:=Bool.eq_false_iff.mpr c7
   subst c7
   have H1:(spec_l09Read.j0 k a0 t692 τ)=some (r1,r2,r3,r4,r5,r6,r7):=by rw [if_neg (show ¬ (φ=τ) by decide)] at H;exact H
   clear H
   have H:=H1
   clear H1
   have H':=ζa H
   clear H
   go_wp2
   go_meet
   case rel=>exact ⟨_,(τ),(by rfl),H',⟨by omega⟩,⟨by exact HO695.out⟩,⟨by exact BK691.out⟩,⟨by repeat ((with_reducible exact HB.out))⟩⟩
 case rest =>
  clear HC4
  try clear c1
  try clear p2
  try clear c7
  obtain ⟨kq,x20_3,rfl,HA,HJ3,HO_6,BK691,HB⟩:=hcut
  cases kq with
  | zero=>exact absurd HA.out (by simp [spec_l09Read.j0])
  | succ kj3 =>
   have H:=HA.out
   clear HA
   simp only [spec_l09Read.j0] at H
   by_cases c9:x20_3=τ
   ·
    subst c9
    have H1:(some ((⟨#[]⟩:ByteArray),(⟨#[]⟩:ByteArray),0,0,0,φ,φ))=some (r1,r2,r3,r4,r5,r6,r7):=by rw [if_pos rfl] at H;exact H
    clear H
    have H:=H1
    clear H1
    simp only [Option.some.injEq,Prod.mk.injEq] at H
    obtain ⟨rfl,rfl,rfl,rfl,rfl,rfl,rfl⟩:=H
    have hcz10_0:wc.cell? ⟨gb691,0,none⟩=some (.string (⟨#[]⟩:ByteArray)):=(δl BK691.out 0).trans rfl
    have hcz10_1:wc.cell? ⟨gb691,1,none⟩=some (.string (⟨#[]⟩:ByteArray)):=(δl BK691.out 1).trans rfl
    have hcz10_2:wc.cell? ⟨gb691,2,none⟩=some (.int .i64 0):=(δl BK691.out 2).trans rfl
    have hcz10_3:wc.cell? ⟨gb691,3,none⟩=some (.int .i64 0):=(δl BK691.out 3).trans rfl
    have hcz10_4:wc.cell? ⟨gb691,4,none⟩=some (.int .i64 0):=(δl BK691.out 4).trans rfl
    have hcz10_5:wc.cell? ⟨gb691,5,none⟩=some (.bool φ):=(δl BK691.out 5).trans rfl
    have hfz10_0:=δm BK691.out 0
    have hfz10_1:=δm BK691.out 1
    have hfz10_2:=δm BK691.out 2
    have hfz10_3:=δm BK691.out 3
    have hfz10_4:=δm BK691.out 4
    have hfz10_5:=δm BK691.out 5
    go_wp2
    refine bodyPost_ret (results_ct rfl _ _ gb691 66 #[.string (⟨#[]⟩:ByteArray),.string (⟨#[]⟩:ByteArray),.int .i64 0,.int .i64 0,.int .i64 0,.bool φ] (0,0) _ rfl (by refine δw (cs:=#[.string (⟨#[]⟩:ByteArray),.string (⟨#[]⟩:ByteArray),.int .i64 0,.int .i64 0,.int .i64 0,.bool φ]) ?_ 5 _ (by rfl);refine δw (cs:=#[.string (⟨#[]⟩:ByteArray),.string (⟨#[]⟩:ByteArray),.int .i64 0,.int .i64 0,.int .i64 0,.bool φ]) ?_ 4 _ rfl;refine δw (cs:=#[.string (⟨#[]⟩:ByteArray),.string (⟨#[]⟩:ByteArray),.int .i64 0,.int .i64 0,.int .i64 0,.bool φ]) ?_ 3 _ rfl;refine δw (cs:=#[.string (⟨#[]⟩:ByteArray),.string (⟨#[]⟩:ByteArray),.int .i64 0,.int .i64 0,.int .i64 0,.bool φ]) ?_ 2 _ rfl;refine δw (cs:=#[.string (⟨#[]⟩:ByteArray),.string (⟨#[]⟩:ByteArray),.int .i64 0,.int .i64 0,.int .i64 0,.bool φ]) ?_ 1 _ rfl;refine δw (cs:=#[.string (⟨#[]⟩:ByteArray),.string (⟨#[]⟩:ByteArray),.int .i64 0,.int .i64 0,.int .i64 0,.bool φ]) ?_ 0 _ rfl;exact BK691.out) Tryz.underlying66 rfl (by kernel_rfl)) rfl ?_
    exact ⟨by rfl,by repeat ((with_reducible first|exact HB.out|refine δq ?_ GE691.out))⟩
   ·
    replace c9:=Bool.eq_false_iff.mpr c9
    subst c9
    have H1:(if 0<(t692.length:Int) then (if 1<(t692.length:Int) then ((spec_l02Of.f kj3 (rdOf ByteArray.empty t692 1)).bind fun t698=>(if 2<(t692.length:Int) then ((spec_l02Of.f kj3 (rdOf ByteArray.empty t692 2)).bind fun t700=>(if 3<(t692.length:Int) then ((spec_l02Of.f kj3 (rdOf ByteArray.empty t692 3)).bind fun t702=>(if 4<(t692.length:Int) then ((spec_OrderOK.f kj3 a0 (rdOf ByteArray.empty t692 0) t698 t700 t702 ((rdOf ByteArray.empty t692 4).toList == ([111,112,101,110]:List UInt8))).bind fun t705=>(if t705=τ then (if (rdOf ByteArray.empty t692 4).toList=([111,112,101,110]:List UInt8) then (some (a0,rdOf ByteArray.empty t692 0,t698,t700,t702,((rdOf ByteArray.empty t692 4).toList == ([111,112,101,110]:List UInt8)),τ)) else (some (a0,rdOf ByteArray.empty t692 0,t698,t700,t702,((rdOf ByteArray.empty t692 4).toList == ([111,112,101,110]:List UInt8)),((rdOf ByteArray.empty t692 4).toList == ([99,108,111,115,101,100]:List UInt8))))) else (some (a0,rdOf ByteArray.empty t692 0,t698,t700,t702,((rdOf ByteArray.empty t692 4).toList == ([111,112,101,110]:List UInt8)),φ)))) else (none))) else (none))) else (none))) else (none)) else (none))=some (r1,r2,r3,r4,r5,r6,r7):=by rw [if_neg (show ¬ (φ=τ) by decide)] at H;exact H
    clear H
    have H:=H1
    clear H1
    by_cases c11:0<(t692.length:Int)
    ·
     rw [if_pos c11] at H
     have c11b0:decide (0<(t692.length:Int))=τ:=decide_eq_true c11
     have c11b1:decide (0<t692.length)=τ:=decide_eq_true (by omega)
     clear c11
     by_cases c12:1<(t692.length:Int)
     ·
      rw [if_pos c12] at H
      have c12b0:decide (1<(t692.length:Int))=τ:=decide_eq_true c12
      have c12b1:decide (1<t692.length)=τ:=decide_eq_true (by omega)
      clear c12
      replace H:=Option.bind_eq_some_iff.mp H
      obtain ⟨t698,A130,H⟩:=H
      replace H:(if 2<(t692.length:Int) then ((spec_l02Of.f kj3 (rdOf ByteArray.empty t692 2)).bind fun t700=>(if 3<(t692.length:Int) then ((spec_l02Of.f kj3 (rdOf ByteArray.empty t692 3)).bind fun t702=>(if 4<(t692.length:Int) then ((spec_OrderOK.f kj3 a0 (rdOf ByteArray.empty t692 0) t698 t700 t702 ((rdOf ByteArray.empty t692 4).toList == ([111,112,101,110]:List UInt8))).bind fun t705=>(if t705=τ then (if (rdOf ByteArray.empty t692 4).toList=([111,112,101,110]:List UInt8) then (some (a0,rdOf ByteArray.empty t692 0,t698,t700,t702,((rdOf ByteArray.empty t692 4).toList == ([111,112,101,110]:List UInt8)),τ)) else (some (a0,rdOf ByteArray.empty t692 0,t698,t700,t702,((rdOf ByteArray.empty t692 4).toList == ([111,112,101,110]:List UInt8)),((rdOf ByteArray.empty t692 4).toList == ([99,108,111,115,101,100]:List UInt8))))) else (some (a0,rdOf ByteArray.empty t692 0,t698,t700,t702,((rdOf ByteArray.empty t692 4).toList == ([111,112,101,110]:List UInt8)),φ)))) else (none))) else (none))) else (none))=some (r1,r2,r3,r4,r5,r6,r7):=H
      have A13:=ζa A130
      clear A130
      by_cases c14:2<(t692.length:Int)
      ·
       rw [if_pos c14] at H
       have c14b0:decide (2<(t692.length:Int))=τ:=decide_eq_true c14
       have c14b1:decide (2<t692.length)=τ:=decide_eq_true (by omega)
       clear c14
       replace H:=Option.bind_eq_some_iff.mp H
       obtain ⟨t700,A150,H⟩:=H
       replace H:(if 3<(t692.length:Int) then ((spec_l02Of.f kj3 (rdOf ByteArray.empty t692 3)).bind fun t702=>(if 4<(t692.length:Int) then ((spec_OrderOK.f kj3 a0 (rdOf ByteArray.empty t692 0) t698 t700 t702 ((rdOf ByteArray.empty t692 4).toList == ([111,112,101,110]:List UInt8))).bind fun t705=>(if t705=τ then (if (rdOf ByteArray.empty t692 4).toList=([111,112,101,110]:List UInt8) then (some (a0,rdOf ByteArray.empty t692 0,t698,t700,t702,((rdOf ByteArray.empty t692 4).toList == ([111,112,101,110]:List UInt8)),τ)) else (some (a0,rdOf ByteArray.empty t692 0,t698,t700,t702,((rdOf ByteArray.empty t692 4).toList == ([111,112,101,110]:List UInt8)),((rdOf ByteArray.empty t692 4).toList == ([99,108,111,115,101,100]:List UInt8))))) else (some (a0,rdOf ByteArray.empty t692 0,t698,t700,t702,((rdOf ByteArray.empty t692 4).toList == ([111,112,101,110]:List UInt8)),φ)))) else (none))) else (none))=some (r1,r2,r3,r4,r5,r6,r7):=H
       have A15:=ζa A150
       clear A150
       by_cases c16:3<(t692.length:Int)
       ·
        rw [if_pos c16] at H
        have c16b0:decide (3<(t692.length:Int))=τ:=decide_eq_true c16
        have c16b1:decide (3<t692.length)=τ:=decide_eq_true (by omega)
        clear c16
        replace H:=Option.bind_eq_some_iff.mp H
        obtain ⟨t702,A170,H⟩:=H
        replace H:(if 4<(t692.length:Int) then ((spec_OrderOK.f kj3 a0 (rdOf ByteArray.empty t692 0) t698 t700 t702 ((rdOf ByteArray.empty t692 4).toList == ([111,112,101,110]:List UInt8))).bind fun t705=>(if t705=τ then (if (rdOf ByteArray.empty t692 4).toList=([111,112,101,110]:List UInt8) then (some (a0,rdOf ByteArray.empty t692 0,t698,t700,t702,((rdOf ByteArray.empty t692 4).toList == ([111,112,101,110]:List UInt8)),τ)) else (some (a0,rdOf ByteArray.empty t692 0,t698,t700,t702,((rdOf ByteArray.empty t692 4).toList == ([111,112,101,110]:List UInt8)),((rdOf ByteArray.empty t692 4).toList == ([99,108,111,115,101,100]:List UInt8))))) else (some (a0,rdOf ByteArray.empty t692 0,t698,t700,t702,((rdOf ByteArray.empty t692 4).toList == ([111,112,101,110]:List UInt8)),φ)))) else (none))=some (r1,r2,r3,r4,r5,r6,r7):=H
        have A17:=ζa A170
        clear A170
        by_cases c18:4<(t692.length:Int)
        ·
         rw [if_pos c18] at H
         have c18b0:decide (4<(t692.length:Int))=τ:=decide_eq_true c18
         have c18b1:decide (4<t692.length)=τ:=decide_eq_true (by omega)
         clear c18
         replace H:=Option.bind_eq_some_iff.mp H
         obtain ⟨t705,A190,H⟩:=H
         replace H:(if t705=τ then (if (rdOf ByteArray.empty t692 4).toList=([111,112,101,110]:List UInt8) then (some (a0,rdOf ByteArray.empty t692 0,t698,t700,t702,((rdOf ByteArray.empty t692 4).toList == ([111,112,101,110]:List UInt8)),τ)) else (some (a0,rdOf ByteArray.empty t692 0,t698,t700,t702,((rdOf ByteArray.empty t692 4).toList == ([111,112,101,110]:List UInt8)),((rdOf ByteArray.empty t692 4).toList == ([99,108,111,115,101,100]:List UInt8))))) else (some (a0,rdOf ByteArray.empty t692 0,t698,t700,t702,((rdOf ByteArray.empty t692 4).toList == ([111,112,101,110]:List UInt8)),φ)))=some (r1,r2,r3,r4,r5,r6,r7):=H
         have A19:=ζa A190
         clear A190
         try go_wp2
         have n0_:=ζa (ζe HO_6.out)
         have n1_:=ζa (δp BK691.out)
         have n2_:=ζa (δj HB.out)
         clear HO_6
         clear BK691
         clear HB
         have HO_6:=n0_
         have BK691:=n1_
         have HB:=n2_
         clear n0_ n1_ n2_
         obtain ⟨Ao42,co42,eo42⟩:=Kd.R_slice HO_6.out
         (subst eo42)
         have p696:0≤(0:Int):=(by omega)
         have q696:0<(t692.length:Int):=of_decide_eq_true (by (with_reducible assumption))
         obtain ⟨ad696,e696,hx696_0⟩:=Kd.at_string (ζg HO_6.out).2.2 0 p696 q696
         cases e696
         have qi696:(0<t692.length)=True:=eq_true (by omega)
         (try rw [show ((0:Int)).toNat=0 from rfl] at hx696_0)
         (try rw [Addr.add_zero'] at hx696_0)
         replace p696:=eq_true p696
         replace q696:=eq_true q696
         have p697:0≤(1:Int):=(by omega)
         have q697:1<(t692.length:Int):=of_decide_eq_true (by (with_reducible assumption))
         obtain ⟨ad697,e697,hx697_0⟩:=Kd.at_string (ζg HO_6.out).2.2 1 p697 q697
         obtain rfl:ad696=ad697:=(by injection e697)
         (try simp only [show (1:Int).toNat=1 from rfl,Nat.reduceMul,Nat.reduceEqDiff,Go.Addr.add,↓reduceIte] at hx697_0)
         have qi697:(1<t692.length)=True:=eq_true (by omega)
         (try rw [show ((1:Int)).toNat=1 from rfl] at hx697_0)
         replace p697:=eq_true p697
         replace q697:=eq_true q697
         have p699:0≤(2:Int):=(by omega)
         have q699:2<(t692.length:Int):=of_decide_eq_true (by (with_reducible assumption))
         obtain ⟨ad699,e699,hx699_0⟩:=Kd.at_string (ζg HO_6.out).2.2 2 p699 q699
         obtain rfl:ad696=ad699:=(by injection e699)
         (try simp only [show (2:Int).toNat=2 from rfl,Nat.reduceMul,Nat.reduceEqDiff,Go.Addr.add,↓reduceIte] at hx699_0)
         have qi699:(2<t692.length)=True:=eq_true (by omega)
         (try rw [show ((2:Int)).toNat=2 from rfl] at hx699_0)
         replace p699:=eq_true p699
         replace q699:=eq_true q699
         have p701:0≤(3:Int):=(by omega)
         have q701:3<(t692.length:Int):=of_decide_eq_true (by (with_reducible assumption))
         obtain ⟨ad701,e701,hx701_0⟩:=Kd.at_string (ζg HO_6.out).2.2 3 p701 q701
         obtain rfl:ad696=ad701:=(by injection e701)
         (try simp only [show (3:Int).toNat=3 from rfl,Nat.reduceMul,Nat.reduceEqDiff,Go.Addr.add,↓reduceIte] at hx701_0)
         have qi701:(3<t692.length)=True:=eq_true (by omega)
         (try rw [show ((3:Int)).toNat=3 from rfl] at hx701_0)
         replace p701:=eq_true p701
         replace q701:=eq_true q701
         have p703:0≤(4:Int):=(by omega)
         have q703:4<(t692.length:Int):=of_decide_eq_true (by (with_reducible assumption))
         obtain ⟨ad703,e703,hx703_0⟩:=Kd.at_string (ζg HO_6.out).2.2 4 p703 q703
         obtain rfl:ad696=ad703:=(by injection e703)
         (try simp only [show (4:Int).toNat=4 from rfl,Nat.reduceMul,Nat.reduceEqDiff,Go.Addr.add,↓reduceIte] at hx703_0)
         have qi703:(4<t692.length)=True:=eq_true (by omega)
         (try rw [show ((4:Int)).toNat=4 from rfl] at hx703_0)
         replace p703:=eq_true p703
         replace q703:=eq_true q703
         refine start_ (n:=23) (S:=fun w'=>w'.cell? ad696=some (.string (rdOf ByteArray.empty t692 0))∧w'.cell? ⟨ad696.block,ad696.off+1,none⟩=some (.string (rdOf ByteArray.empty t692 1))∧w'.cell? ⟨ad696.block,ad696.off+2,none⟩=some (.string (rdOf ByteArray.empty t692 2))∧w'.cell? ⟨ad696.block,ad696.off+3,none⟩=some (.string (rdOf ByteArray.empty t692 3))∧w'.cell? ⟨ad696.block,ad696.off+4,none⟩=some (.string (rdOf ByteArray.empty t692 4))) (ds:=[]) #[φ,φ,φ,φ,φ,φ,φ,φ,φ,φ,φ,φ,φ,φ,φ,φ,φ,φ,φ,φ,φ,φ,φ] (by kernel_rfl) rfl rfl ⟨hx696_0,hx697_0,hx699_0,hx701_0,hx703_0⟩ (fun hHeld => ?_);refine with_tabW spec_l09Read.tab4 spec_l09Read.bits4 (fun HT_ HW_ => ?_)
         generalize wc.drew=w41 at HO_6 BK691 HB hx696_0 hx697_0 hx699_0 hx701_0 hx703_0 hHeld ⊢
         refine ζk (i:=0) (N:=some 22) (v:=?_) (a':=?_) #[τ,φ,φ,φ,φ,φ,φ,φ,φ,φ,φ,φ,φ,φ,φ,φ,φ,φ,φ,φ,φ,φ,φ] rfl rfl (ζj HT_.out (by kernel_rfl)) (fun _ _ _ h=>h) (Or.inl ⟨by rfl,?_⟩) ?_ ?_
         rotate_left
         · intro w';go_simp;with_reducible rfl
         rotate_left
         · simp only [ζl,δa,δb,δc,i64_w,i32_w];rfl
         refine ζk (i:=1) (N:=some 23) (v:=?_) (a':=?_) #[τ,τ,φ,φ,φ,φ,φ,φ,φ,φ,φ,φ,φ,φ,φ,φ,φ,φ,φ,φ,φ,φ,φ] rfl rfl (ζj HT_.out (by kernel_rfl)) (fun _ _ _ h=>h) (Or.inl ⟨by rfl,?_⟩) ?_ ?_
         rotate_left
         · intro w';go_simp;with_reducible rfl
         rotate_left
         · simp only [ζl,δa,δb,δc,i64_w,i32_w];rfl
         refine ζk (i:=2) (N:=some 24) (v:=?_) (a':=?_) #[τ,τ,τ,φ,φ,φ,φ,φ,φ,φ,φ,φ,φ,φ,φ,φ,φ,φ,φ,φ,φ,φ,φ] rfl rfl (ζj HT_.out (by kernel_rfl)) (fun _ _ _ h=>h) (Or.inl ⟨by rfl,?_⟩) ?_ ?_
         rotate_left
         · intro w';go_simp;with_reducible rfl
         rotate_left
         · simp only [ζl,δa,δb,δc,i64_w,i32_w];rfl
         refine ζk (i:=4) (N:=some 26) (v:=?_) (a':=?_) #[τ,τ,τ,φ,τ,φ,φ,φ,φ,φ,φ,φ,φ,φ,φ,φ,φ,φ,φ,φ,φ,φ,φ] rfl rfl (ζj HT_.out (by kernel_rfl)) (fun _ _ _ h=>h) (Or.inl ⟨by rfl,?_⟩) ?_ ?_
         rotate_left
         · intro w';go_simp;with_reducible rfl
         rotate_left
         · simp only [ζl,δa,δb,δc,i64_w,i32_w];rfl
         refine ζk (i:=5) (N:=some 27) (v:=?_) (a':=?_) #[τ,τ,τ,φ,τ,τ,φ,φ,φ,φ,φ,φ,φ,φ,φ,φ,φ,φ,φ,φ,φ,φ,φ] rfl rfl (ζj HT_.out (by kernel_rfl)) (fun _ _ _ h=>h) (Or.inl ⟨by rfl,?_⟩) ?_ ?_
         rotate_left
         · intro w';go_simp;with_reducible rfl
         rotate_left
         · simp only [ζl,δa,δb,δc,i64_w,i32_w];rfl
         refine ζk (i:=8) (N:=some 30) (v:=?_) (a':=?_) #[τ,τ,τ,φ,τ,τ,φ,φ,τ,φ,φ,φ,φ,φ,φ,φ,φ,φ,φ,φ,φ,φ,φ] rfl rfl (ζj HT_.out (by kernel_rfl)) (fun _ _ _ h=>h) (Or.inl ⟨by rfl,?_⟩) ?_ ?_
         rotate_left
         · intro w';go_simp;with_reducible rfl
         rotate_left
         · simp only [ζl,δa,δb,δc,i64_w,i32_w];rfl
         refine ζk (i:=9) (N:=some 31) (v:=?_) (a':=?_) #[τ,τ,τ,φ,τ,τ,φ,φ,τ,τ,φ,φ,φ,φ,φ,φ,φ,φ,φ,φ,φ,φ,φ] rfl rfl (ζj HT_.out (by kernel_rfl)) (fun _ _ _ h=>h) (Or.inl ⟨by rfl,?_⟩) ?_ ?_
         rotate_left
         · intro w';go_simp;with_reducible rfl
         rotate_left
         · simp only [ζl,δa,δb,δc,i64_w,i32_w];rfl
         refine ζk (i:=12) (N:=some 34) (v:=?_) (a':=?_) #[τ,τ,τ,φ,τ,τ,φ,φ,τ,τ,φ,φ,τ,φ,φ,φ,φ,φ,φ,φ,φ,φ,φ] rfl rfl (ζj HT_.out (by kernel_rfl)) (fun _ _ _ h=>h) (Or.inl ⟨by rfl,?_⟩) ?_ ?_
         rotate_left
         · intro w';go_simp;with_reducible rfl
         rotate_left
         · simp only [ζl,δa,δb,δc,i64_w,i32_w];rfl
         refine ζk (i:=13) (N:=some 35) (v:=?_) (a':=?_) #[τ,τ,τ,φ,τ,τ,φ,φ,τ,τ,φ,φ,τ,τ,φ,φ,φ,φ,φ,φ,φ,φ,φ] rfl rfl (ζj HT_.out (by kernel_rfl)) (fun _ _ _ h=>h) (Or.inl ⟨by rfl,?_⟩) ?_ ?_
         rotate_left
         · intro w';go_simp;with_reducible rfl
         rotate_left
         · simp only [ζl,δa,δb,δc,i64_w,i32_w];rfl
         refine ζk (i:=16) (N:=some 38) (v:=?_) (a':=?_) #[τ,τ,τ,φ,τ,τ,φ,φ,τ,τ,φ,φ,τ,τ,φ,φ,τ,φ,φ,φ,φ,φ,φ] rfl rfl (ζj HT_.out (by kernel_rfl)) (fun _ _ _ h=>h) (Or.inl ⟨by rfl,?_⟩) ?_ ?_
         rotate_left
         · intro w';go_simp;with_reducible rfl
         rotate_left
         · simp only [ζl,δa,δb,δc,i64_w,i32_w];rfl
         refine ζk (i:=17) (N:=some 39) (v:=?_) (a':=?_) #[τ,τ,τ,φ,τ,τ,φ,φ,τ,τ,φ,φ,τ,τ,φ,φ,τ,τ,φ,φ,φ,φ,φ] rfl rfl (ζj HT_.out (by kernel_rfl)) (fun _ _ _ h=>h) (Or.inl ⟨by rfl,?_⟩) ?_ ?_
         rotate_left
         · intro w';go_simp;with_reducible rfl
         rotate_left
         · simp only [ζl,δa,δb,δc,i64_w,i32_w];rfl
         refine take_ (i:=3) (N:=some 25) (v:=?_) (a':=?_) #[τ,τ,τ,τ,τ,τ,φ,φ,τ,τ,φ,φ,τ,τ,φ,φ,τ,τ,φ,φ,φ,φ,φ] rfl rfl (take_ofW HT_.out HW_.out (by kernel_rfl)) (fun _ _ _ h=>h) (Or.inl ⟨by rfl,?_⟩) hHeld ?_ ?_
         rotate_left
         · rintro w' ⟨s0,s1,s2,s3,s4⟩;go_simp;with_reducible rfl
         rotate_left
         · simp only [ζl,δa,δb,δc,i64_w,i32_w];rfl
         refine take_ (i:=6) (N:=some 28) (v:=?_) (a':=?_) #[τ,τ,τ,τ,τ,τ,τ,φ,τ,τ,φ,φ,τ,τ,φ,φ,τ,τ,φ,φ,φ,φ,φ] rfl rfl (take_ofW HT_.out HW_.out (by kernel_rfl)) (fun _ _ _ h=>h) (Or.inl ⟨by rfl,?_⟩) hHeld ?_ ?_
         rotate_left
         · rintro w' ⟨s0,s1,s2,s3,s4⟩;go_simp;with_reducible rfl
         rotate_left
         · simp only [ζl,δa,δb,δc,i64_w,i32_w];rfl
         refine take_ (i:=10) (N:=some 32) (v:=?_) (a':=?_) #[τ,τ,τ,τ,τ,τ,τ,φ,τ,τ,τ,φ,τ,τ,φ,φ,τ,τ,φ,φ,φ,φ,φ] rfl rfl (take_ofW HT_.out HW_.out (by kernel_rfl)) (fun _ _ _ h=>h) (Or.inl ⟨by rfl,?_⟩) hHeld ?_ ?_
         rotate_left
         · rintro w' ⟨s0,s1,s2,s3,s4⟩;go_simp;with_reducible rfl
         rotate_left
         · simp only [ζl,δa,δb,δc,i64_w,i32_w];rfl
         refine take_ (i:=14) (N:=some 36) (v:=?_) (a':=?_) #[τ,τ,τ,τ,τ,τ,τ,φ,τ,τ,τ,φ,τ,τ,τ,φ,τ,τ,φ,φ,φ,φ,φ] rfl rfl (take_ofW HT_.out HW_.out (by kernel_rfl)) (fun _ _ _ h=>h) (Or.inl ⟨by rfl,?_⟩) hHeld ?_ ?_
         rotate_left
         · rintro w' ⟨s0,s1,s2,s3,s4⟩;go_simp;with_reducible rfl
         rotate_left
         · simp only [ζl,δa,δb,δc,i64_w,i32_w];rfl
         refine take_ (i:=18) (N:=some 40) (v:=?_) (a':=?_) #[τ,τ,τ,τ,τ,τ,τ,φ,τ,τ,τ,φ,τ,τ,τ,φ,τ,τ,τ,φ,φ,φ,φ] rfl rfl (take_ofW HT_.out HW_.out (by kernel_rfl)) (fun _ _ _ h=>h) (Or.inl ⟨by rfl,?_⟩) hHeld ?_ ?_
         rotate_left
         · rintro w' ⟨s0,s1,s2,s3,s4⟩;go_simp;with_reducible rfl
         rotate_left
         · simp only [ζl,δa,δb,δc,i64_w,i32_w];rfl
         refine ζk (i:=19) (N:=some 41) (v:=?_) (a':=?_) #[τ,τ,τ,τ,τ,τ,τ,φ,τ,τ,τ,φ,τ,τ,τ,φ,τ,τ,τ,τ,φ,φ,φ] rfl rfl (ζj HT_.out (by kernel_rfl)) (fun _ _ _ h=>h) (Or.inl ⟨by rfl,?_⟩) ?_ ?_
         rotate_left
         · intro w';go_simp;with_reducible rfl
         rotate_left
         · simp only [ζl,δa,δb,δc,i64_w,i32_w];rfl
         refine join_ (σ:=Nat) 1 #[τ,τ,τ,τ,τ,τ,τ,τ,τ,τ,τ,τ,τ,τ,τ,τ,τ,τ,τ,τ,τ,τ,φ] (fun s_ => [(29,.int .i64 t698),(33,.int .i64 t700),(37,.int .i64 t702),(8,.pointer (some ⟨s_,0,none⟩)),(42,.agg #[.string a0,.string (rdOf ByteArray.empty t692 0),.int .i64 t698,.int .i64 t700,.int .i64 t702,.bool ((rdOf ByteArray.empty t692 4).toList == ([111,112,101,110]:List UInt8))])]) (fun s_ w'=>(w'.cell? ad696=some (.string (rdOf ByteArray.empty t692 0))∧w'.cell? ⟨ad696.block,ad696.off+1,none⟩=some (.string (rdOf ByteArray.empty t692 1))∧w'.cell? ⟨ad696.block,ad696.off+2,none⟩=some (.string (rdOf ByteArray.empty t692 2))∧w'.cell? ⟨ad696.block,ad696.off+3,none⟩=some (.string (rdOf ByteArray.empty t692 3))∧w'.cell? ⟨ad696.block,ad696.off+4,none⟩=some (.string (rdOf ByteArray.empty t692 4)))∧(Kd.R Kd.string 9 w' w.heap.size (fun _=>True) (.slice (some ad696) t692.length co42) t692)∧(w'.heap[gb691]? = some (.cells #[.string (⟨#[]⟩:ByteArray),.string (⟨#[]⟩:ByteArray),.int .i64 0,.int .i64 0,.int .i64 0,.bool φ] 66 (0,0)))∧(w'.heap[s_]? = some (.cells #[.string (⟨#[]⟩:ByteArray),.string (⟨#[]⟩:ByteArray),.int .i64 0,.int .i64 0,.int .i64 0,.bool φ] 66 (0,0)))∧(w.heap.size≤s_)∧(w.heap.size≤s_)∧(gb691≠s_)∧(s_≠gb691)∧(Below w.heap.size w w')) ?_ ?_
         rotate_left
         ·
          intro hCont
          refine two_ (i:=7) (j:=21) (Ni:=some 29) (Nj:=some 8) #[τ,τ,τ,τ,τ,τ,τ,τ,τ,τ,τ,φ,τ,τ,τ,φ,τ,τ,τ,τ,φ,φ,φ] #[τ,τ,τ,τ,τ,τ,τ,φ,τ,τ,τ,φ,τ,τ,τ,φ,τ,τ,τ,τ,φ,τ,φ] rfl rfl rfl rfl (two_of HT_.out (by kernel_rfl)) (by decide) (by decide) (fun K hK => ?_) (fun K hK => ?_)
          ·
           skip
           refine goes_ Tryz.func149 (by kernel_rfl) rfl #[.string (rdOf ByteArray.empty t692 1)] (by rfl) rfl rfl (by (try simp only [δd,δe,δf]);rfl) ?_
           with_reducible refine (spec_l02Of.calls kj3 (rdOf ByteArray.empty t692 1) t698 _ A13.out).mono ?_
           rintro e w' ⟨rfl,⟨nd,rfl⟩⟩
           refine ⟨_,rfl,?_⟩
           refine hK.out _ _ ⟨hHeld.1,hHeld.2.1,hHeld.2.2.1,hHeld.2.2.2.1,hHeld.2.2.2.2⟩ (fun hHeld => ?_)
           clear hK K
           refine norm_ (a':=?_) ?_ ?_
           rotate_left
           ·
            show ζl _ (some 29) _=_
            simp only [ζl,δa,δb,δc,i64_w,i32_w];rfl
           refine two_ (i:=11) (j:=21) (Ni:=some 33) (Nj:=some 8) #[τ,τ,τ,τ,τ,τ,τ,τ,τ,τ,τ,τ,τ,τ,τ,φ,τ,τ,τ,τ,φ,φ,φ] #[τ,τ,τ,τ,τ,τ,τ,τ,τ,τ,τ,φ,τ,τ,τ,φ,τ,τ,τ,τ,φ,τ,φ] rfl rfl rfl rfl (two_of HT_.out (by kernel_rfl)) (by decide) (by decide) (fun K hK => ?_) (fun K hK => ?_)
           ·
            skip
            refine goes_ Tryz.func149 (by kernel_rfl) rfl #[.string (rdOf ByteArray.empty t692 2)] (by rfl) rfl rfl (by (try simp only [δd,δe,δf]);rfl) ?_
            with_reducible refine (spec_l02Of.calls kj3 (rdOf ByteArray.empty t692 2) t700 _ A15.out).mono ?_
            rintro e w' ⟨rfl,⟨nd,rfl⟩⟩
            refine ⟨_,rfl,?_⟩
            refine hK.out _ _ ⟨hHeld.1,hHeld.2.1,hHeld.2.2.1,hHeld.2.2.2.1,hHeld.2.2.2.2⟩ (fun hHeld => ?_)
            clear hK K
            refine norm_ (a':=?_) ?_ ?_
            rotate_left
            ·
             show ζl _ (some 33) _=_
             simp only [ζl,δa,δb,δc,i64_w,i32_w];rfl
            refine two_ (i:=15) (j:=21) (Ni:=some 37) (Nj:=some 8) #[τ,τ,τ,τ,τ,τ,τ,τ,τ,τ,τ,τ,τ,τ,τ,τ,τ,τ,τ,τ,φ,φ,φ] #[τ,τ,τ,τ,τ,τ,τ,τ,τ,τ,τ,τ,τ,τ,τ,φ,τ,τ,τ,τ,φ,τ,φ] rfl rfl rfl rfl (two_of HT_.out (by kernel_rfl)) (by decide) (by decide) (fun K hK => ?_) (fun K hK => ?_)
            ·
             skip
             refine goes_ Tryz.func149 (by kernel_rfl) rfl #[.string (rdOf ByteArray.empty t692 3)] (by rfl) rfl rfl (by (try simp only [δd,δe,δf]);rfl) ?_
             with_reducible refine (spec_l02Of.calls kj3 (rdOf ByteArray.empty t692 3) t702 _ A17.out).mono ?_
             rintro e w' ⟨rfl,⟨nd,rfl⟩⟩
             refine ⟨_,rfl,?_⟩
             refine hK.out _ _ ⟨hHeld.1,hHeld.2.1,hHeld.2.2.1,hHeld.2.2.2.1,hHeld.2.2.2.2⟩ (fun hHeld => ?_)
             clear hK K
             refine norm_ (a':=?_) ?_ ?_
             rotate_left
             ·
              show ζl _ (some 37) _=_
              simp only [ζl,δa,δb,δc,i64_w,i32_w];rfl
             refine ζk (i:=20) (N:=some 42) (v:=?_) (a':=?_) #[τ,τ,τ,τ,τ,τ,τ,τ,τ,τ,τ,τ,τ,τ,τ,τ,τ,τ,τ,τ,τ,φ,φ] rfl rfl (ζj HT_.out (by kernel_rfl)) (fun _ _ _ h=>h) (Or.inl ⟨by rfl,?_⟩) ?_ ?_
             rotate_left
             · intro w';go_simp;with_reducible rfl
             rotate_left
             · simp only [ζl,δa,δb,δc,i64_w,i32_w];rfl
             refine one_ (i:=21) (N:=some 8) #[τ,τ,τ,τ,τ,τ,τ,τ,τ,τ,τ,τ,τ,τ,τ,τ,τ,τ,τ,τ,τ,τ,φ] rfl rfl (one_of HT_.out (by kernel_rfl)) (by decide) (fun K hK => ?_)
             refine box_step ?hg (N:=8) ?hd (cs:=#[.string (⟨#[]⟩:ByteArray),.string (⟨#[]⟩:ByteArray),.int .i64 0,.int .i64 0,.int .i64 0,.bool φ]) (t:=66) ?hr ?_;(case hd=>rfl);(case hg=>rfl);(case hr=>(go_simp;done))
             intro gb704 hg w43 hbox hb
             have HS0_:=(hb.cell (World.block_lt_of_cell? _ _ (hHeld.1))).trans (hHeld.1)
             have HS1_:=(hb.cell (World.block_lt_of_cell? _ _ (hHeld.2.1))).trans (hHeld.2.1)
             have HS2_:=(hb.cell (World.block_lt_of_cell? _ _ (hHeld.2.2.1))).trans (hHeld.2.2.1)
             have HS3_:=(hb.cell (World.block_lt_of_cell? _ _ (hHeld.2.2.2.1))).trans (hHeld.2.2.2.1)
             have HS4_:=(hb.cell (World.block_lt_of_cell? _ _ (hHeld.2.2.2.2))).trans (hHeld.2.2.2.2)
             have n0_:=ζa (ζh (by (with_reducible repeat (apply ζc));exact HO_6.out) hb)
             have n1_:=ζa (blk_below (g:=gb691) (o:=.cells #[.string (⟨#[]⟩:ByteArray),.string (⟨#[]⟩:ByteArray),.int .i64 0,.int .i64 0,.int .i64 0,.bool φ] 66 (0,0)) (by (with_reducible repeat (refine δn ?_ _));exact BK691.out) hb)
             have n2_:=ζa (δr (by repeat ((with_reducible first|exact HB.out|apply δi))) hb)
             have n3_:=ζa (hbox)
             have n4_:=ζa ((by rw [hg];exact (δs (by repeat ((with_reducible first|exact HB.out|apply δi)))):w.heap.size≤gb704))
             have n5_:=ζa ((by rw [hg];exact (δs (by repeat ((with_reducible first|exact HB.out|apply δi)))):w.heap.size≤gb704))
             have n6_:=ζa ((by rw [hg];exact Nat.ne_of_lt (blk_lt (g:=gb691) (o:=.cells #[.string (⟨#[]⟩:ByteArray),.string (⟨#[]⟩:ByteArray),.int .i64 0,.int .i64 0,.int .i64 0,.bool φ] 66 (0,0)) (by (with_reducible repeat (refine δn ?_ _));exact BK691.out)):gb691≠gb704))
             have n7_:=ζa ((by rw [hg];exact Nat.ne_of_gt (blk_lt (g:=gb691) (o:=.cells #[.string (⟨#[]⟩:ByteArray),.string (⟨#[]⟩:ByteArray),.int .i64 0,.int .i64 0,.int .i64 0,.bool φ] 66 (0,0)) (by (with_reducible repeat (refine δn ?_ _));exact BK691.out)):gb704≠gb691))
             clear HO_6
             clear BK691
             clear HB
             have HO_6:=n0_
             have BK691:=n1_
             have HB:=n2_
             have BK704:=n3_
             have GW704:=n4_
             have GE704:=n5_
             have NB691_704:=n6_
             have NB704_691:=n7_
             clear n0_ n1_ n2_ n3_ n4_ n5_ n6_ n7_
             clear hb hbox hg
             refine hK.out _ _ ⟨HS0_,HS1_,HS2_,HS3_,HS4_⟩ (fun hHeld => ?_)
             clear hK K
             refine norm_ (a':=?_) ?_ ?_
             rotate_left
             ·
              show ζl _ (some 8) _=_
              simp only [ζl,δa,δb,δc,i64_w,i32_w];rfl
             exact norm_ (by simp only [putAll,ζl,δa,δb,δc]) (hCont (gb704) _ ⟨hHeld,(by exact HO_6.out),(by exact BK691.out),(by exact BK704.out),GW704.out,GE704.out,NB691_704.out,NB704_691.out,(by exact HB.out)⟩)
            ·
             skip
             refine box_step ?hg (N:=8) ?hd (cs:=#[.string (⟨#[]⟩:ByteArray),.string (⟨#[]⟩:ByteArray),.int .i64 0,.int .i64 0,.int .i64 0,.bool φ]) (t:=66) ?hr ?_;(case hd=>rfl);(case hg=>rfl);(case hr=>(go_simp;done))
             intro gb704 hg w43 hbox hb
             have HS0_:=(hb.cell (World.block_lt_of_cell? _ _ (hHeld.1))).trans (hHeld.1)
             have HS1_:=(hb.cell (World.block_lt_of_cell? _ _ (hHeld.2.1))).trans (hHeld.2.1)
             have HS2_:=(hb.cell (World.block_lt_of_cell? _ _ (hHeld.2.2.1))).trans (hHeld.2.2.1)
             have HS3_:=(hb.cell (World.block_lt_of_cell? _ _ (hHeld.2.2.2.1))).trans (hHeld.2.2.2.1)
             have HS4_:=(hb.cell (World.block_lt_of_cell? _ _ (hHeld.2.2.2.2))).trans (hHeld.2.2.2.2)
             have n0_:=ζa (ζh (by (with_reducible repeat (apply ζc));exact HO_6.out) hb)
             have n1_:=ζa (blk_below (g:=gb691) (o:=.cells #[.string (⟨#[]⟩:ByteArray),.string (⟨#[]⟩:ByteArray),.int .i64 0,.int .i64 0,.int .i64 0,.bool φ] 66 (0,0)) (by (with_reducible repeat (refine δn ?_ _));exact BK691.out) hb)
             have n2_:=ζa (δr (by repeat ((with_reducible first|exact HB.out|apply δi))) hb)
             have n3_:=ζa (hbox)
             have n4_:=ζa ((by rw [hg];exact (δs (by repeat ((with_reducible first|exact HB.out|apply δi)))):w.heap.size≤gb704))
             have n5_:=ζa ((by rw [hg];exact (δs (by repeat ((with_reducible first|exact HB.out|apply δi)))):w.heap.size≤gb704))
             have n6_:=ζa ((by rw [hg];exact Nat.ne_of_lt (blk_lt (g:=gb691) (o:=.cells #[.string (⟨#[]⟩:ByteArray),.string (⟨#[]⟩:ByteArray),.int .i64 0,.int .i64 0,.int .i64 0,.bool φ] 66 (0,0)) (by (with_reducible repeat (refine δn ?_ _));exact BK691.out)):gb691≠gb704))
             have n7_:=ζa ((by rw [hg];exact Nat.ne_of_gt (blk_lt (g:=gb691) (o:=.cells #[.string (⟨#[]⟩:ByteArray),.string (⟨#[]⟩:ByteArray),.int .i64 0,.int .i64 0,.int .i64 0,.bool φ] 66 (0,0)) (by (with_reducible repeat (refine δn ?_ _));exact BK691.out)):gb704≠gb691))
             clear HO_6
             clear BK691
             clear HB
             have HO_6:=n0_
             have BK691:=n1_
             have HB:=n2_
             have BK704:=n3_
             have GW704:=n4_
             have GE704:=n5_
             have NB691_704:=n6_
             have NB704_691:=n7_
             clear n0_ n1_ n2_ n3_ n4_ n5_ n6_ n7_
             clear hb hbox hg
             refine hK.out _ _ ⟨HS0_,HS1_,HS2_,HS3_,HS4_⟩ (fun hHeld => ?_)
             clear hK K
             refine norm_ (a':=?_) ?_ ?_
             rotate_left
             ·
              show ζl _ (some 8) _=_
              simp only [ζl,δa,δb,δc,i64_w,i32_w];rfl
             refine one_ (i:=15) (N:=some 37) #[τ,τ,τ,τ,τ,τ,τ,τ,τ,τ,τ,τ,τ,τ,τ,τ,τ,τ,τ,τ,φ,τ,φ] rfl rfl (one_of HT_.out (by kernel_rfl)) (by decide) (fun K hK => ?_)
             refine goes_ Tryz.func149 (by kernel_rfl) rfl #[.string (rdOf ByteArray.empty t692 3)] (by rfl) rfl rfl (by (try simp only [δd,δe,δf]);rfl) ?_
             with_reducible refine (spec_l02Of.calls kj3 (rdOf ByteArray.empty t692 3) t702 _ A17.out).mono ?_
             rintro e w' ⟨rfl,⟨nd,rfl⟩⟩
             refine ⟨_,rfl,?_⟩
             refine hK.out _ _ ⟨hHeld.1,hHeld.2.1,hHeld.2.2.1,hHeld.2.2.2.1,hHeld.2.2.2.2⟩ (fun hHeld => ?_)
             clear hK K
             refine norm_ (a':=?_) ?_ ?_
             rotate_left
             ·
              show ζl _ (some 37) _=_
              simp only [ζl,δa,δb,δc,i64_w,i32_w];rfl
             refine ζk (i:=20) (N:=some 42) (v:=?_) (a':=?_) #[τ,τ,τ,τ,τ,τ,τ,τ,τ,τ,τ,τ,τ,τ,τ,τ,τ,τ,τ,τ,τ,τ,φ] rfl rfl (ζj HT_.out (by kernel_rfl)) (fun _ _ _ h=>h) (Or.inl ⟨by rfl,?_⟩) ?_ ?_
             rotate_left
             · intro w';go_simp;with_reducible rfl
             rotate_left
             · simp only [ζl,δa,δb,δc,i64_w,i32_w];rfl
             exact norm_ (by simp only [putAll,ζl,δa,δb,δc]) (hCont (gb704) _ ⟨hHeld,(by (with_reducible repeat (apply ζc));exact HO_6.out),(by (with_reducible repeat (refine δn ?_ _));exact BK691.out),(by (with_reducible repeat (refine δn ?_ _));exact BK704.out),GW704.out,GE704.out,NB691_704.out,NB704_691.out,(by repeat ((with_reducible first|exact HB.out|apply δi)))⟩)
           ·
            skip
            refine box_step ?hg (N:=8) ?hd (cs:=#[.string (⟨#[]⟩:ByteArray),.string (⟨#[]⟩:ByteArray),.int .i64 0,.int .i64 0,.int .i64 0,.bool φ]) (t:=66) ?hr ?_;(case hd=>rfl);(case hg=>rfl);(case hr=>(go_simp;done))
            intro gb704 hg w43 hbox hb
            have HS0_:=(hb.cell (World.block_lt_of_cell? _ _ (hHeld.1))).trans (hHeld.1)
            have HS1_:=(hb.cell (World.block_lt_of_cell? _ _ (hHeld.2.1))).trans (hHeld.2.1)
            have HS2_:=(hb.cell (World.block_lt_of_cell? _ _ (hHeld.2.2.1))).trans (hHeld.2.2.1)
            have HS3_:=(hb.cell (World.block_lt_of_cell? _ _ (hHeld.2.2.2.1))).trans (hHeld.2.2.2.1)
            have HS4_:=(hb.cell (World.block_lt_of_cell? _ _ (hHeld.2.2.2.2))).trans (hHeld.2.2.2.2)
            have n0_:=ζa (ζh (by (with_reducible repeat (apply ζc));exact HO_6.out) hb)
            have n1_:=ζa (blk_below (g:=gb691) (o:=.cells #[.string (⟨#[]⟩:ByteArray),.string (⟨#[]⟩:ByteArray),.int .i64 0,.int .i64 0,.int .i64 0,.bool φ] 66 (0,0)) (by (with_reducible repeat (refine δn ?_ _));exact BK691.out) hb)
            have n2_:=ζa (δr (by repeat ((with_reducible first|exact HB.out|apply δi))) hb)
            have n3_:=ζa (hbox)
            have n4_:=ζa ((by rw [hg];exact (δs (by repeat ((with_reducible first|exact HB.out|apply δi)))):w.heap.size≤gb704))
            have n5_:=ζa ((by rw [hg];exact (δs (by repeat ((with_reducible first|exact HB.out|apply δi)))):w.heap.size≤gb704))
            have n6_:=ζa ((by rw [hg];exact Nat.ne_of_lt (blk_lt (g:=gb691) (o:=.cells #[.string (⟨#[]⟩:ByteArray),.string (⟨#[]⟩:ByteArray),.int .i64 0,.int .i64 0,.int .i64 0,.bool φ] 66 (0,0)) (by (with_reducible repeat (refine δn ?_ _));exact BK691.out)):gb691≠gb704))
            have n7_:=ζa ((by rw [hg];exact Nat.ne_of_gt (blk_lt (g:=gb691) (o:=.cells #[.string (⟨#[]⟩:ByteArray),.string (⟨#[]⟩:ByteArray),.int .i64 0,.int .i64 0,.int .i64 0,.bool φ] 66 (0,0)) (by (with_reducible repeat (refine δn ?_ _));exact BK691.out)):gb704≠gb691))
            clear HO_6
            clear BK691
            clear HB
            have HO_6:=n0_
            have BK691:=n1_
            have HB:=n2_
            have BK704:=n3_
            have GW704:=n4_
            have GE704:=n5_
            have NB691_704:=n6_
            have NB704_691:=n7_
            clear n0_ n1_ n2_ n3_ n4_ n5_ n6_ n7_
            clear hb hbox hg
            refine hK.out _ _ ⟨HS0_,HS1_,HS2_,HS3_,HS4_⟩ (fun hHeld => ?_)
            clear hK K
            refine norm_ (a':=?_) ?_ ?_
            rotate_left
            ·
             show ζl _ (some 8) _=_
             simp only [ζl,δa,δb,δc,i64_w,i32_w];rfl
            refine one_ (i:=11) (N:=some 33) #[τ,τ,τ,τ,τ,τ,τ,τ,τ,τ,τ,τ,τ,τ,τ,φ,τ,τ,τ,τ,φ,τ,φ] rfl rfl (one_of HT_.out (by kernel_rfl)) (by decide) (fun K hK => ?_)
            refine goes_ Tryz.func149 (by kernel_rfl) rfl #[.string (rdOf ByteArray.empty t692 2)] (by rfl) rfl rfl (by (try simp only [δd,δe,δf]);rfl) ?_
            with_reducible refine (spec_l02Of.calls kj3 (rdOf ByteArray.empty t692 2) t700 _ A15.out).mono ?_
            rintro e w' ⟨rfl,⟨nd,rfl⟩⟩
            refine ⟨_,rfl,?_⟩
            refine hK.out _ _ ⟨hHeld.1,hHeld.2.1,hHeld.2.2.1,hHeld.2.2.2.1,hHeld.2.2.2.2⟩ (fun hHeld => ?_)
            clear hK K
            refine norm_ (a':=?_) ?_ ?_
            rotate_left
            ·
             show ζl _ (some 33) _=_
             simp only [ζl,δa,δb,δc,i64_w,i32_w];rfl
            refine one_ (i:=15) (N:=some 37) #[τ,τ,τ,τ,τ,τ,τ,τ,τ,τ,τ,τ,τ,τ,τ,τ,τ,τ,τ,τ,φ,τ,φ] rfl rfl (one_of HT_.out (by kernel_rfl)) (by decide) (fun K hK => ?_)
            refine goes_ Tryz.func149 (by kernel_rfl) rfl #[.string (rdOf ByteArray.empty t692 3)] (by rfl) rfl rfl (by (try simp only [δd,δe,δf]);rfl) ?_
            with_reducible refine (spec_l02Of.calls kj3 (rdOf ByteArray.empty t692 3) t702 _ A17.out).mono ?_
            rintro e w' ⟨rfl,⟨nd,rfl⟩⟩
            refine ⟨_,rfl,?_⟩
            refine hK.out _ _ ⟨hHeld.1,hHeld.2.1,hHeld.2.2.1,hHeld.2.2.2.1,hHeld.2.2.2.2⟩ (fun hHeld => ?_)
            clear hK K
            refine norm_ (a':=?_) ?_ ?_
            rotate_left
            ·
             show ζl _ (some 37) _=_
             simp only [ζl,δa,δb,δc,i64_w,i32_w];rfl
            refine ζk (i:=20) (N:=some 42) (v:=?_) (a':=?_) #[τ,τ,τ,τ,τ,τ,τ,τ,τ,τ,τ,τ,τ,τ,τ,τ,τ,τ,τ,τ,τ,τ,φ] rfl rfl (ζj HT_.out (by kernel_rfl)) (fun _ _ _ h=>h) (Or.inl ⟨by rfl,?_⟩) ?_ ?_
            rotate_left
            · intro w';go_simp;with_reducible rfl
            rotate_left
            · simp only [ζl,δa,δb,δc,i64_w,i32_w];rfl
            exact norm_ (by simp only [putAll,ζl,δa,δb,δc]) (hCont (gb704) _ ⟨hHeld,(by (with_reducible repeat (apply ζc));exact HO_6.out),(by (with_reducible repeat (refine δn ?_ _));exact BK691.out),(by (with_reducible repeat (refine δn ?_ _));exact BK704.out),GW704.out,GE704.out,NB691_704.out,NB704_691.out,(by repeat ((with_reducible first|exact HB.out|apply δi)))⟩)
          ·
           skip
           refine box_step ?hg (N:=8) ?hd (cs:=#[.string (⟨#[]⟩:ByteArray),.string (⟨#[]⟩:ByteArray),.int .i64 0,.int .i64 0,.int .i64 0,.bool φ]) (t:=66) ?hr ?_;(case hd=>rfl);(case hg=>rfl);(case hr=>(go_simp;done))
           intro gb704 hg w43 hbox hb
           have HS0_:=(hb.cell (World.block_lt_of_cell? _ _ (hHeld.1))).trans (hHeld.1)
           have HS1_:=(hb.cell (World.block_lt_of_cell? _ _ (hHeld.2.1))).trans (hHeld.2.1)
           have HS2_:=(hb.cell (World.block_lt_of_cell? _ _ (hHeld.2.2.1))).trans (hHeld.2.2.1)
           have HS3_:=(hb.cell (World.block_lt_of_cell? _ _ (hHeld.2.2.2.1))).trans (hHeld.2.2.2.1)
           have HS4_:=(hb.cell (World.block_lt_of_cell? _ _ (hHeld.2.2.2.2))).trans (hHeld.2.2.2.2)
           have n0_:=ζa (ζh (by exact HO_6.out) hb)
           have n1_:=ζa (blk_below (g:=gb691) (o:=.cells #[.string (⟨#[]⟩:ByteArray),.string (⟨#[]⟩:ByteArray),.int .i64 0,.int .i64 0,.int .i64 0,.bool φ] 66 (0,0)) (by exact BK691.out) hb)
           have n2_:=ζa (δr (by exact HB.out) hb)
           have n3_:=ζa (hbox)
           have n4_:=ζa ((by rw [hg];exact (δs (by exact HB.out)):w.heap.size≤gb704))
           have n5_:=ζa ((by rw [hg];exact (δs (by exact HB.out)):w.heap.size≤gb704))
           have n6_:=ζa ((by rw [hg];exact Nat.ne_of_lt (blk_lt (g:=gb691) (o:=.cells #[.string (⟨#[]⟩:ByteArray),.string (⟨#[]⟩:ByteArray),.int .i64 0,.int .i64 0,.int .i64 0,.bool φ] 66 (0,0)) (by exact BK691.out)):gb691≠gb704))
           have n7_:=ζa ((by rw [hg];exact Nat.ne_of_gt (blk_lt (g:=gb691) (o:=.cells #[.string (⟨#[]⟩:ByteArray),.string (⟨#[]⟩:ByteArray),.int .i64 0,.int .i64 0,.int .i64 0,.bool φ] 66 (0,0)) (by exact BK691.out)):gb704≠gb691))
           clear HO_6
           clear BK691
           clear HB
           have HO_6:=n0_
           have BK691:=n1_
           have HB:=n2_
           have BK704:=n3_
           have GW704:=n4_
           have GE704:=n5_
           have NB691_704:=n6_
           have NB704_691:=n7_
           clear n0_ n1_ n2_ n3_ n4_ n5_ n6_ n7_
           clear hb hbox hg
           refine hK.out _ _ ⟨HS0_,HS1_,HS2_,HS3_,HS4_⟩ (fun hHeld => ?_)
           clear hK K
           refine norm_ (a':=?_) ?_ ?_
           rotate_left
           ·
            show ζl _ (some 8) _=_
            simp only [ζl,δa,δb,δc,i64_w,i32_w];rfl
           refine one_ (i:=7) (N:=some 29) #[τ,τ,τ,τ,τ,τ,τ,τ,τ,τ,τ,φ,τ,τ,τ,φ,τ,τ,τ,τ,φ,τ,φ] rfl rfl (one_of HT_.out (by kernel_rfl)) (by decide) (fun K hK => ?_)
           refine goes_ Tryz.func149 (by kernel_rfl) rfl #[.string (rdOf ByteArray.empty t692 1)] (by rfl) rfl rfl (by (try simp only [δd,δe,δf]);rfl) ?_
           with_reducible refine (spec_l02Of.calls kj3 (rdOf ByteArray.empty t692 1) t698 _ A13.out).mono ?_
           rintro e w' ⟨rfl,⟨nd,rfl⟩⟩
           refine ⟨_,rfl,?_⟩
           refine hK.out _ _ ⟨hHeld.1,hHeld.2.1,hHeld.2.2.1,hHeld.2.2.2.1,hHeld.2.2.2.2⟩ (fun hHeld => ?_)
           clear hK K
           refine norm_ (a':=?_) ?_ ?_
           rotate_left
           ·
            show ζl _ (some 29) _=_
            simp only [ζl,δa,δb,δc,i64_w,i32_w];rfl
           refine one_ (i:=11) (N:=some 33) #[τ,τ,τ,τ,τ,τ,τ,τ,τ,τ,τ,τ,τ,τ,τ,φ,τ,τ,τ,τ,φ,τ,φ] rfl rfl (one_of HT_.out (by kernel_rfl)) (by decide) (fun K hK => ?_)
           refine goes_ Tryz.func149 (by kernel_rfl) rfl #[.string (rdOf ByteArray.empty t692 2)] (by rfl) rfl rfl (by (try simp only [δd,δe,δf]);rfl) ?_
           with_reducible refine (spec_l02Of.calls kj3 (rdOf ByteArray.empty t692 2) t700 _ A15.out).mono ?_
           rintro e w' ⟨rfl,⟨nd,rfl⟩⟩
           refine ⟨_,rfl,?_⟩
           refine hK.out _ _ ⟨hHeld.1,hHeld.2.1,hHeld.2.2.1,hHeld.2.2.2.1,hHeld.2.2.2.2⟩ (fun hHeld => ?_)
           clear hK K
           refine norm_ (a':=?_) ?_ ?_
           rotate_left
           ·
            show ζl _ (some 33) _=_
            simp only [ζl,δa,δb,δc,i64_w,i32_w];rfl
           refine one_ (i:=15) (N:=some 37) #[τ,τ,τ,τ,τ,τ,τ,τ,τ,τ,τ,τ,τ,τ,τ,τ,τ,τ,τ,τ,φ,τ,φ] rfl rfl (one_of HT_.out (by kernel_rfl)) (by decide) (fun K hK => ?_)
           refine goes_ Tryz.func149 (by kernel_rfl) rfl #[.string (rdOf ByteArray.empty t692 3)] (by rfl) rfl rfl (by (try simp only [δd,δe,δf]);rfl) ?_
           with_reducible refine (spec_l02Of.calls kj3 (rdOf ByteArray.empty t692 3) t702 _ A17.out).mono ?_
           rintro e w' ⟨rfl,⟨nd,rfl⟩⟩
           refine ⟨_,rfl,?_⟩
           refine hK.out _ _ ⟨hHeld.1,hHeld.2.1,hHeld.2.2.1,hHeld.2.2.2.1,hHeld.2.2.2.2⟩ (fun hHeld => ?_)
           clear hK K
           refine norm_ (a':=?_) ?_ ?_
           rotate_left
           ·
            show ζl _ (some 37) _=_
            simp only [ζl,δa,δb,δc,i64_w,i32_w];rfl
           refine ζk (i:=20) (N:=some 42) (v:=?_) (a':=?_) #[τ,τ,τ,τ,τ,τ,τ,τ,τ,τ,τ,τ,τ,τ,τ,τ,τ,τ,τ,τ,τ,τ,φ] rfl rfl (ζj HT_.out (by kernel_rfl)) (fun _ _ _ h=>h) (Or.inl ⟨by rfl,?_⟩) ?_ ?_
           rotate_left
           · intro w';go_simp;with_reducible rfl
           rotate_left
           · simp only [ζl,δa,δb,δc,i64_w,i32_w];rfl
           exact norm_ (by simp only [putAll,ζl,δa,δb,δc]) (hCont (gb704) _ ⟨hHeld,(by (with_reducible repeat (apply ζc));exact HO_6.out),(by (with_reducible repeat (refine δn ?_ _));exact BK691.out),(by (with_reducible repeat (refine δn ?_ _));exact BK704.out),GW704.out,GE704.out,NB691_704.out,NB704_691.out,(by repeat ((with_reducible first|exact HB.out|apply δi)))⟩)
         rintro gb704 w44 ⟨hS_,h0_,h1_,h2_,h3_,h4_,h5_,h6_,h7_⟩
         have n0_:Aside0 (Kd.R Kd.string 9 w44 w.heap.size (fun _=>True) (.slice (some ad696) t692.length co42) t692):=⟨h0_⟩
         have n1_:Aside0 (w44.heap[gb691]? = some (.cells #[.string (⟨#[]⟩:ByteArray),.string (⟨#[]⟩:ByteArray),.int .i64 0,.int .i64 0,.int .i64 0,.bool φ] 66 (0,0))):=⟨h1_⟩
         have n2_:Aside0 (w44.heap[gb704]? = some (.cells #[.string (⟨#[]⟩:ByteArray),.string (⟨#[]⟩:ByteArray),.int .i64 0,.int .i64 0,.int .i64 0,.bool φ] 66 (0,0))):=⟨h2_⟩
         have n3_:Aside0 (w.heap.size≤gb704):=⟨h3_⟩
         have n4_:Aside0 (w.heap.size≤gb704):=⟨h4_⟩
         have n5_:Aside0 (gb691≠gb704):=⟨h5_⟩
         have n6_:Aside0 (gb704≠gb691):=⟨h6_⟩
         have n7_:Aside0 (Below w.heap.size w w44):=⟨h7_⟩
         clear HO_6
         clear BK691
         clear HB
         clear h0_ h1_ h2_ h3_ h4_ h5_ h6_ h7_
         have HO_6:=n0_
         have BK691:=n1_
         have BK704:=n2_
         have GW704:=n3_
         have GE704:=n4_
         have NB691_704:=n5_
         have NB704_691:=n6_
         have HB:=n7_
         clear n0_ n1_ n2_ n3_ n4_ n5_ n6_ n7_
         have hHeld:w44.cell? ad696=some (.string (rdOf ByteArray.empty t692 0))∧w44.cell? ⟨ad696.block,ad696.off+1,none⟩=some (.string (rdOf ByteArray.empty t692 1))∧w44.cell? ⟨ad696.block,ad696.off+2,none⟩=some (.string (rdOf ByteArray.empty t692 2))∧w44.cell? ⟨ad696.block,ad696.off+3,none⟩=some (.string (rdOf ByteArray.empty t692 3))∧w44.cell? ⟨ad696.block,ad696.off+4,none⟩=some (.string (rdOf ByteArray.empty t692 4)):=hS_
         refine norm_ (a':=?_) ?_ ?_
         rotate_left
         · simp only [putAll,ζl,δa,δb,δc];rfl
         refine one_ (i:=22) (N:=none) #[τ,τ,τ,τ,τ,τ,τ,τ,τ,τ,τ,τ,τ,τ,τ,τ,τ,τ,τ,τ,τ,τ,τ] rfl rfl (one_of HT_.out (by kernel_rfl)) (by decide) (fun K hK => ?_)
         have hs45:w44.cell? ⟨gb704,0,none⟩=some (.string (⟨#[]⟩:ByteArray)):=(δl BK704.out 0).trans rfl
         have hfs45:=δm BK704.out 0
         have hns45_0:=NB691_704.out
         have hms45_0:=NB704_691.out
         have hs46:w44.cell? ⟨gb704,1,none⟩=some (.string (⟨#[]⟩:ByteArray)):=(δl BK704.out 1).trans rfl
         have hfs46:=δm BK704.out 1
         have hns46_0:=NB691_704.out
         have hms46_0:=NB704_691.out
         have hs47:w44.cell? ⟨gb704,2,none⟩=some (.int .i64 0):=(δl BK704.out 2).trans rfl
         have hfs47:=δm BK704.out 2
         have hns47_0:=NB691_704.out
         have hms47_0:=NB704_691.out
         have hs48:w44.cell? ⟨gb704,3,none⟩=some (.int .i64 0):=(δl BK704.out 3).trans rfl
         have hfs48:=δm BK704.out 3
         have hns48_0:=NB691_704.out
         have hms48_0:=NB704_691.out
         have hs49:w44.cell? ⟨gb704,4,none⟩=some (.int .i64 0):=(δl BK704.out 4).trans rfl
         have hfs49:=δm BK704.out 4
         have hns49_0:=NB691_704.out
         have hms49_0:=NB704_691.out
         have hs50:w44.cell? ⟨gb704,5,none⟩=some (.bool φ):=(δl BK704.out 5).trans rfl
         have hfs50:=δm BK704.out 5
         have hns50_0:=NB691_704.out
         have hms50_0:=NB704_691.out
         refine skip_ (w1:=?_) (by rfl) rfl ?_ ?_
         rotate_left
         ·
          go_simp
          rfl
         refine hK.out _ _ ⟨(spec_l09Read.far6 (g:=gb704) (fun e_=>ζf HO_6.out BK704.out (by decide) (by rw [← e_];rfl)) _ _ _ _ _ _).trans hHeld.1,(spec_l09Read.far6 (g:=gb704) (fun e_=>ζf HO_6.out BK704.out (by decide) (by rw [← e_];rfl)) _ _ _ _ _ _).trans hHeld.2.1,(spec_l09Read.far6 (g:=gb704) (fun e_=>ζf HO_6.out BK704.out (by decide) (by rw [← e_];rfl)) _ _ _ _ _ _).trans hHeld.2.2.1,(spec_l09Read.far6 (g:=gb704) (fun e_=>ζf HO_6.out BK704.out (by decide) (by rw [← e_];rfl)) _ _ _ _ _ _).trans hHeld.2.2.2.1,(spec_l09Read.far6 (g:=gb704) (fun e_=>ζf HO_6.out BK704.out (by decide) (by rw [← e_];rfl)) _ _ _ _ _ _).trans hHeld.2.2.2.2⟩ (fun hHeld => ?_)
         clear hK K
         refine done_ (done_of HT_.out (by kernel_rfl)) ?_
         try go_wp2
         have n0_:Aside0 (Kd.R Kd.string 9 ((((((w44.setCell ⟨gb704,0,none⟩ (.string a0)).setCell ⟨gb704,1,none⟩ (.string (rdOf ByteArray.empty t692 0))).setCell ⟨gb704,2,none⟩ (.int .i64 t698)).setCell ⟨gb704,3,none⟩ (.int .i64 t700)).setCell ⟨gb704,4,none⟩ (.int .i64 t702)).setCell ⟨gb704,5,none⟩ (.bool ((rdOf ByteArray.empty t692 4).toList == ([111,112,101,110]:List UInt8)))) w.heap.size (fun _=>True) (.slice (some ad696) t692.length co42) t692):=⟨by exact Kd.R_mono (ζi (p:=⟨gb704,5,none⟩) (ζi (p:=⟨gb704,4,none⟩) (ζi (p:=⟨gb704,3,none⟩) (ζi (p:=⟨gb704,2,none⟩) (ζi (p:=⟨gb704,1,none⟩) (ζi (p:=⟨gb704,0,none⟩) (Kd.R_types HO_6.out BK704.out (by decide)) (fun _ hk=>hk.2) (.string a0)) (fun _ hk=>hk.2) (.string (rdOf ByteArray.empty t692 0))) (fun _ hk=>hk.2) (.int .i64 t698)) (fun _ hk=>hk.2) (.int .i64 t700)) (fun _ hk=>hk.2) (.int .i64 t702)) (fun _ hk=>hk.2) (.bool ((rdOf ByteArray.empty t692 4).toList == ([111,112,101,110]:List UInt8)))) (fun _ hk=>trivial)⟩
         have n1_:Aside0 (((((((w44.setCell ⟨gb704,0,none⟩ (.string a0)).setCell ⟨gb704,1,none⟩ (.string (rdOf ByteArray.empty t692 0))).setCell ⟨gb704,2,none⟩ (.int .i64 t698)).setCell ⟨gb704,3,none⟩ (.int .i64 t700)).setCell ⟨gb704,4,none⟩ (.int .i64 t702)).setCell ⟨gb704,5,none⟩ (.bool ((rdOf ByteArray.empty t692 4).toList == ([111,112,101,110]:List UInt8)))).heap[gb691]? = some (.cells #[.string (⟨#[]⟩:ByteArray),.string (⟨#[]⟩:ByteArray),.int .i64 0,.int .i64 0,.int .i64 0,.bool φ] 66 (0,0))):=⟨by refine blk_far ?_ NB691_704.out _;refine blk_far ?_ NB691_704.out _;refine blk_far ?_ NB691_704.out _;refine blk_far ?_ NB691_704.out _;refine blk_far ?_ NB691_704.out _;refine blk_far ?_ NB691_704.out _;exact BK691.out⟩
         have n2_:Aside0 (((((((w44.setCell ⟨gb704,0,none⟩ (.string a0)).setCell ⟨gb704,1,none⟩ (.string (rdOf ByteArray.empty t692 0))).setCell ⟨gb704,2,none⟩ (.int .i64 t698)).setCell ⟨gb704,3,none⟩ (.int .i64 t700)).setCell ⟨gb704,4,none⟩ (.int .i64 t702)).setCell ⟨gb704,5,none⟩ (.bool ((rdOf ByteArray.empty t692 4).toList == ([111,112,101,110]:List UInt8)))).heap[gb704]? = some (.cells #[.string a0,.string (rdOf ByteArray.empty t692 0),.int .i64 t698,.int .i64 t700,.int .i64 t702,.bool ((rdOf ByteArray.empty t692 4).toList == ([111,112,101,110]:List UInt8))] 66 (0,0))):=⟨by refine δw (cs:=#[.string a0,.string (rdOf ByteArray.empty t692 0),.int .i64 t698,.int .i64 t700,.int .i64 t702,.bool φ]) ?_ 5 _ rfl;refine δw (cs:=#[.string a0,.string (rdOf ByteArray.empty t692 0),.int .i64 t698,.int .i64 t700,.int .i64 0,.bool φ]) ?_ 4 _ rfl;refine δw (cs:=#[.string a0,.string (rdOf ByteArray.empty t692 0),.int .i64 t698,.int .i64 0,.int .i64 0,.bool φ]) ?_ 3 _ rfl;refine δw (cs:=#[.string a0,.string (rdOf ByteArray.empty t692 0),.int .i64 0,.int .i64 0,.int .i64 0,.bool φ]) ?_ 2 _ rfl;refine δw (cs:=#[.string a0,.string (⟨#[]⟩:ByteArray),.int .i64 0,.int .i64 0,.int .i64 0,.bool φ]) ?_ 1 _ rfl;refine δw (cs:=#[.string (⟨#[]⟩:ByteArray),.string (⟨#[]⟩:ByteArray),.int .i64 0,.int .i64 0,.int .i64 0,.bool φ]) ?_ 0 _ rfl;exact BK704.out⟩
         have n3_:Aside0 (Below w.heap.size w ((((((w44.setCell ⟨gb704,0,none⟩ (.string a0)).setCell ⟨gb704,1,none⟩ (.string (rdOf ByteArray.empty t692 0))).setCell ⟨gb704,2,none⟩ (.int .i64 t698)).setCell ⟨gb704,3,none⟩ (.int .i64 t700)).setCell ⟨gb704,4,none⟩ (.int .i64 t702)).setCell ⟨gb704,5,none⟩ (.bool ((rdOf ByteArray.empty t692 4).toList == ([111,112,101,110]:List UInt8))))):=⟨by repeat ((with_reducible first|exact HB.out|refine δq ?_ GE704.out))⟩
         (try clear HO_6)
         (try clear BK691)
         (try clear BK704)
         (try clear HB)
         generalize ((((((w44.setCell ⟨gb704,0,none⟩ (.string a0)).setCell ⟨gb704,1,none⟩ (.string (rdOf ByteArray.empty t692 0))).setCell ⟨gb704,2,none⟩ (.int .i64 t698)).setCell ⟨gb704,3,none⟩ (.int .i64 t700)).setCell ⟨gb704,4,none⟩ (.int .i64 t702)).setCell ⟨gb704,5,none⟩ (.bool ((rdOf ByteArray.empty t692 4).toList == ([111,112,101,110]:List UInt8))))=w51 at n0_ n1_ n2_ n3_ ⊢
         have HO_6:=n0_
         have BK691:=n1_
         have BK704:=n2_
         have HB:=n3_
         clear n0_ n1_ n2_ n3_
         have n0_:=ζa (ζe HO_6.out)
         have n1_:=ζa (δp BK691.out)
         have n2_:=ζa (δp BK704.out)
         have n3_:=ζa (δj HB.out)
         clear HO_6
         clear BK691
         clear BK704
         clear HB
         have HO_6:=n0_
         have BK691:=n1_
         have BK704:=n2_
         have HB:=n3_
         clear n0_ n1_ n2_ n3_
         have p706:0≤(4:Int):=(by omega)
         have q706:4<(t692.length:Int):=of_decide_eq_true (by (with_reducible assumption))
         obtain ⟨ad706,e706,hx706_0⟩:=Kd.at_string (ζg HO_6.out).2.2 4 p706 q706
         obtain rfl:ad696=ad706:=(by injection e706)
         (try simp only [show (4:Int).toNat=4 from rfl,Nat.reduceMul,Nat.reduceEqDiff,Go.Addr.add,↓reduceIte] at hx706_0)
         have qi706:(4<t692.length)=True:=eq_true (by omega)
         (try rw [show ((4:Int)).toNat=4 from rfl] at hx706_0)
         replace p706:=eq_true p706
         replace q706:=eq_true q706
         by_cases c20:t705=τ
         ·
          subst c20
          have H1:(if (rdOf ByteArray.empty t692 4).toList=([111,112,101,110]:List UInt8) then (some (a0,rdOf ByteArray.empty t692 0,t698,t700,t702,((rdOf ByteArray.empty t692 4).toList == ([111,112,101,110]:List UInt8)),τ)) else (some (a0,rdOf ByteArray.empty t692 0,t698,t700,t702,((rdOf ByteArray.empty t692 4).toList == ([111,112,101,110]:List UInt8)),((rdOf ByteArray.empty t692 4).toList == ([99,108,111,115,101,100]:List UInt8)))))=some (r1,r2,r3,r4,r5,r6,r7):=by rw [if_pos rfl] at H;exact H
          clear H
          have H:=H1
          clear H1
          by_cases c21:(rdOf ByteArray.empty t692 4).toList=([111,112,101,110]:List UInt8)
          ·
           rw [if_pos c21] at H
           have c21b0:((rdOf ByteArray.empty t692 4).toList == ([111,112,101,110]:List UInt8))=τ:=beq_iff_eq.mpr c21
           have c21b1:((rdOf ByteArray.empty t692 4).toList != ([111,112,101,110]:List UInt8))=φ:=bne_eq_false_iff_eq.mpr c21
           clear c21
           simp only [Option.some.injEq,Prod.mk.injEq] at H
           obtain ⟨rfl,rfl,rfl,rfl,rfl,rfl,rfl⟩:=H
           have C21B0_:=ζa c21b0
           clear c21b0
           have C21B1_:=ζa c21b1
           clear c21b1
           refine start_ (n:=15) (S:=fun w'=>w'.cell? ⟨gb704,0,none⟩=some (.string a0)∧w'.cell? ⟨gb704,1,none⟩=some (.string (rdOf ByteArray.empty t692 0))∧w'.cell? ⟨gb704,2,none⟩=some (.int .i64 t698)∧w'.cell? ⟨gb704,3,none⟩=some (.int .i64 t700)∧w'.cell? ⟨gb704,4,none⟩=some (.int .i64 t702)∧w'.cell? ⟨gb704,5,none⟩=some (.bool ((rdOf ByteArray.empty t692 4).toList == ([111,112,101,110]:List UInt8)))) (ds:=[]) #[φ,φ,φ,φ,φ,φ,φ,φ,φ,φ,φ,φ,φ,φ,φ] (by kernel_rfl) rfl rfl ⟨(δl BK704.out 0).trans rfl,(δl BK704.out 1).trans rfl,(δl BK704.out 2).trans rfl,(δl BK704.out 3).trans rfl,(δl BK704.out 4).trans rfl,(δl BK704.out 5).trans rfl⟩ (fun hHeld => ?_);refine with_tabW spec_l09Read.tab5 spec_l09Read.bits5 (fun HT_ HW_ => ?_)
           generalize w51.drew=w33 at HO_6 BK691 BK704 HB hHeld ⊢
           refine take_ (i:=0) (N:=some 43) (v:=?_) (a':=?_) #[τ,φ,φ,φ,φ,φ,φ,φ,φ,φ,φ,φ,φ,φ,φ] rfl rfl (take_ofW HT_.out HW_.out (by kernel_rfl)) (fun _ _ _ h=>h) (Or.inl ⟨by rfl,?_⟩) hHeld ?_ ?_
           rotate_left
           · rintro w' ⟨s0,s1,s2,s3,s4,s5⟩;go_simp;with_reducible rfl
           rotate_left
           · simp only [ζl,δa,δb,δc,i64_w,i32_w];rfl
           refine take_ (i:=1) (N:=some 44) (v:=?_) (a':=?_) #[τ,τ,φ,φ,φ,φ,φ,φ,φ,φ,φ,φ,φ,φ,φ] rfl rfl (take_ofW HT_.out HW_.out (by kernel_rfl)) (fun _ _ _ h=>h) (Or.inl ⟨by rfl,?_⟩) hHeld ?_ ?_
           rotate_left
           · rintro w' ⟨s0,s1,s2,s3,s4,s5⟩;go_simp;with_reducible rfl
           rotate_left
           · simp only [ζl,δa,δb,δc,i64_w,i32_w];rfl
           refine one_ (i:=2) (N:=some 45) #[τ,τ,τ,φ,φ,φ,φ,φ,φ,φ,φ,φ,φ,φ,φ] rfl rfl (one_of HT_.out (by kernel_rfl)) (by decide) (fun K hK => ?_)
           refine goes_ Tryz.func101 (by kernel_rfl) rfl #[.agg #[.string a0,.string (rdOf ByteArray.empty t692 0),.int .i64 t698,.int .i64 t700,.int .i64 t702,.bool ((rdOf ByteArray.empty t692 4).toList == ([111,112,101,110]:List UInt8))]] (by rfl) rfl rfl (by (try simp only [δd,δe,δf]);rfl) ?_
           with_reducible refine (spec_OrderOK.calls kj3 a0 (rdOf ByteArray.empty t692 0) t698 t700 t702 ((rdOf ByteArray.empty t692 4).toList == ([111,112,101,110]:List UInt8)) τ _ A19.out).mono ?_
           rintro e w34 ⟨rfl,hb⟩
           have c21b0:=C21B0_.out
           have c21b1:=C21B1_.out
           refine ⟨_,rfl,?_⟩
           have n0_:=ζa (ζh (by exact HO_6.out) hb)
           have n1_:=ζa (blk_below (g:=gb691) (o:=.cells #[.string (⟨#[]⟩:ByteArray),.string (⟨#[]⟩:ByteArray),.int .i64 0,.int .i64 0,.int .i64 0,.bool φ] 66 (0,0)) (by exact BK691.out) hb)
           have n2_:=ζa (blk_below (g:=gb704) (o:=.cells #[.string a0,.string (rdOf ByteArray.empty t692 0),.int .i64 t698,.int .i64 t700,.int .i64 t702,.bool ((rdOf ByteArray.empty t692 4).toList == ([111,112,101,110]:List UInt8))] 66 (0,0)) (by exact BK704.out) hb)
           have n3_:=ζa (δr (by exact HB.out) hb)
           clear HO_6
           clear BK691
           clear BK704
           clear HB
           have HO_6:=n0_
           have BK691:=n1_
           have BK704:=n2_
           have HB:=n3_
           clear n0_ n1_ n2_ n3_
           (try clear hb)
           (try clear hb2)
           (try clear hk)
           (try clear hi)
           refine hK.out _ _ ⟨(δl BK704.out 0).trans rfl,(δl BK704.out 1).trans rfl,(δl BK704.out 2).trans rfl,(δl BK704.out 3).trans rfl,(δl BK704.out 4).trans rfl,(δl BK704.out 5).trans rfl⟩ (fun hHeld => ?_)
           clear hK K
           refine norm_ (a':=?_) ?_ ?_
           rotate_left
           ·
            show ζl _ (some 45) _=_
            simp only [ζl,δa,δb,δc,i64_w,i32_w];rfl
           refine ζk (i:=3) (N:=some 46) (v:=?_) (a':=?_) #[τ,τ,τ,τ,φ,φ,φ,φ,φ,φ,φ,φ,φ,φ,φ] rfl rfl (ζj HT_.out (by kernel_rfl)) (fun _ _ _ h=>h) (Or.inl ⟨by rfl,?_⟩) ?_ ?_
           rotate_left
           · intro w';go_simp;with_reducible rfl
           rotate_left
           · simp only [ζl,δa,δb,δc,i64_w,i32_w];rfl
           refine ζk (i:=4) (N:=some 47) (v:=?_) (a':=?_) #[τ,τ,τ,τ,τ,φ,φ,φ,φ,φ,φ,φ,φ,φ,φ] rfl rfl (ζj HT_.out (by kernel_rfl)) (fun _ _ _ h=>h) (Or.inl ⟨by rfl,?_⟩) ?_ ?_
           rotate_left
           · intro w';go_simp;with_reducible rfl
           rotate_left
           · simp only [ζl,δa,δb,δc,i64_w,i32_w];rfl
           refine take_ (i:=5) (N:=some 48) (v:=?_) (a':=?_) #[τ,τ,τ,τ,τ,τ,φ,φ,φ,φ,φ,φ,φ,φ,φ] rfl rfl (take_ofW HT_.out HW_.out (by kernel_rfl)) (fun _ _ _ h=>h) (Or.inl ⟨by rfl,?_⟩) hHeld ?_ ?_
           rotate_left
           · rintro w' ⟨s0,s1,s2,s3,s4,s5⟩;go_simp;with_reducible rfl
           rotate_left
           · simp only [ζl,δa,δb,δc,i64_w,i32_w];rfl
           refine ζk (i:=6) (N:=some 49) (v:=?_) (a':=?_) #[τ,τ,τ,τ,τ,τ,τ,φ,φ,φ,φ,φ,φ,φ,φ] rfl rfl (ζj HT_.out (by kernel_rfl)) (fun _ _ _ h=>h) (Or.inl ⟨by rfl,?_⟩) ?_ ?_
           rotate_left
           · intro w';go_simp;with_reducible rfl
           rotate_left
           · simp only [ζl,δa,δb,δc,i64_w,i32_w];rfl
           refine ζk (i:=7) (N:=some 50) (v:=undef) (a':=?_) #[τ,τ,τ,τ,τ,τ,τ,τ,φ,φ,φ,φ,φ,φ,φ] rfl rfl (ζj HT_.out (by kernel_rfl)) (fun _ _ _ h=>h) (Or.inr ⟨by rfl,rfl⟩) ?_ ?_
           rotate_left
           · simp only [ζl,δa,δb,δc,i64_w,i32_w];rfl
           refine ζk (i:=8) (N:=some 51) (v:=undef) (a':=?_) #[τ,τ,τ,τ,τ,τ,τ,τ,τ,φ,φ,φ,φ,φ,φ] rfl rfl (ζj HT_.out (by kernel_rfl)) (fun _ _ _ h=>h) (Or.inr ⟨by rfl,rfl⟩) ?_ ?_
           rotate_left
           · simp only [ζl,δa,δb,δc,i64_w,i32_w];rfl
           refine ζk (i:=9) (N:=some 52) (v:=undef) (a':=?_) #[τ,τ,τ,τ,τ,τ,τ,τ,τ,τ,φ,φ,φ,φ,φ] rfl rfl (ζj HT_.out (by kernel_rfl)) (fun _ _ _ h=>h) (Or.inr ⟨by rfl,rfl⟩) ?_ ?_
           rotate_left
           · simp only [ζl,δa,δb,δc,i64_w,i32_w];rfl
           refine ζk (i:=10) (N:=some 53) (v:=undef) (a':=?_) #[τ,τ,τ,τ,τ,τ,τ,τ,τ,τ,τ,φ,φ,φ,φ] rfl rfl (ζj HT_.out (by kernel_rfl)) (fun _ _ _ h=>h) (Or.inr ⟨by rfl,rfl⟩) ?_ ?_
           rotate_left
           · simp only [ζl,δa,δb,δc,i64_w,i32_w];rfl
           refine ζk (i:=11) (N:=some 54) (v:=?_) (a':=?_) #[τ,τ,τ,τ,τ,τ,τ,τ,τ,τ,τ,τ,φ,φ,φ] rfl rfl (ζj HT_.out (by kernel_rfl)) (fun _ _ _ h=>h) (Or.inl ⟨by rfl,?_⟩) ?_ ?_
           rotate_left
           · intro w';go_simp;with_reducible rfl
           rotate_left
           · simp only [ζl,δa,δb,δc,i64_w,i32_w];rfl
           refine ζk (i:=12) (N:=some 55) (v:=?_) (a':=?_) #[τ,τ,τ,τ,τ,τ,τ,τ,τ,τ,τ,τ,τ,φ,φ] rfl rfl (ζj HT_.out (by kernel_rfl)) (fun _ _ _ h=>h) (Or.inl ⟨by rfl,?_⟩) ?_ ?_
           rotate_left
           · intro w';go_simp;with_reducible rfl
           rotate_left
           · simp only [ζl,δa,δb,δc,i64_w,i32_w];rfl
           refine one_ (i:=13) (N:=none) #[τ,τ,τ,τ,τ,τ,τ,τ,τ,τ,τ,τ,τ,τ,φ] rfl rfl (one_of HT_.out (by kernel_rfl)) (by decide) (fun K hK => ?_)
           have hs35:w34.cell? ⟨gb691,0,none⟩=some (.string (⟨#[]⟩:ByteArray)):=(δl BK691.out 0).trans rfl
           have hfs35:=δm BK691.out 0
           have hns35_1:=NB704_691.out
           have hms35_1:=NB691_704.out
           have hs36:w34.cell? ⟨gb691,1,none⟩=some (.string (⟨#[]⟩:ByteArray)):=(δl BK691.out 1).trans rfl
           have hfs36:=δm BK691.out 1
           have hns36_1:=NB704_691.out
           have hms36_1:=NB691_704.out
           have hs37:w34.cell? ⟨gb691,2,none⟩=some (.int .i64 0):=(δl BK691.out 2).trans rfl
           have hfs37:=δm BK691.out 2
           have hns37_1:=NB704_691.out
           have hms37_1:=NB691_704.out
           have hs38:w34.cell? ⟨gb691,3,none⟩=some (.int .i64 0):=(δl BK691.out 3).trans rfl
           have hfs38:=δm BK691.out 3
           have hns38_1:=NB704_691.out
           have hms38_1:=NB691_704.out
           have hs39:w34.cell? ⟨gb691,4,none⟩=some (.int .i64 0):=(δl BK691.out 4).trans rfl
           have hfs39:=δm BK691.out 4
           have hns39_1:=NB704_691.out
           have hms39_1:=NB691_704.out
           have hs40:w34.cell? ⟨gb691,5,none⟩=some (.bool φ):=(δl BK691.out 5).trans rfl
           have hfs40:=δm BK691.out 5
           have hns40_1:=NB704_691.out
           have hms40_1:=NB691_704.out
           refine skip_ (w1:=?_) (by rfl) rfl ?_ ?_
           rotate_left
           ·
            go_simp
            rfl
           refine hK.out _ _ ⟨(spec_l09Read.far6 (g:=gb691) NB704_691.out _ _ _ _ _ _).trans hHeld.1,(spec_l09Read.far6 (g:=gb691) NB704_691.out _ _ _ _ _ _).trans hHeld.2.1,(spec_l09Read.far6 (g:=gb691) NB704_691.out _ _ _ _ _ _).trans hHeld.2.2.1,(spec_l09Read.far6 (g:=gb691) NB704_691.out _ _ _ _ _ _).trans hHeld.2.2.2.1,(spec_l09Read.far6 (g:=gb691) NB704_691.out _ _ _ _ _ _).trans hHeld.2.2.2.2.1,(spec_l09Read.far6 (g:=gb691) NB704_691.out _ _ _ _ _ _).trans hHeld.2.2.2.2.2⟩ (fun hHeld => ?_)
           clear hK K
           refine ζk (i:=14) (N:=some 5) (v:=?_) (a':=?_) #[τ,τ,τ,τ,τ,τ,τ,τ,τ,τ,τ,τ,τ,τ,τ] rfl rfl (ζj HT_.out (by kernel_rfl)) (fun _ _ _ h=>h) (Or.inl ⟨by rfl,?_⟩) ?_ ?_
           rotate_left
           · intro w';go_simp;with_reducible rfl
           rotate_left
           · simp only [ζl,δa,δb,δc,i64_w,i32_w];rfl
           refine done_ (done_of HT_.out (by kernel_rfl)) ?_
           try go_wp2
           refine bodyPost_ret (results_ct rfl _ _ gb691 66 #[.string a0,.string (rdOf ByteArray.empty t692 0),.int .i64 t698,.int .i64 t700,.int .i64 t702,.bool ((rdOf ByteArray.empty t692 4).toList == ([111,112,101,110]:List UInt8))] (0,0) _ rfl (by refine δw (cs:=#[.string a0,.string (rdOf ByteArray.empty t692 0),.int .i64 t698,.int .i64 t700,.int .i64 t702,.bool φ]) ?_ 5 _ (by (rw [c21b0];rfl));refine δw (cs:=#[.string a0,.string (rdOf ByteArray.empty t692 0),.int .i64 t698,.int .i64 t700,.int .i64 0,.bool φ]) ?_ 4 _ rfl;refine δw (cs:=#[.string a0,.string (rdOf ByteArray.empty t692 0),.int .i64 t698,.int .i64 0,.int .i64 0,.bool φ]) ?_ 3 _ rfl;refine δw (cs:=#[.string a0,.string (rdOf ByteArray.empty t692 0),.int .i64 0,.int .i64 0,.int .i64 0,.bool φ]) ?_ 2 _ rfl;refine δw (cs:=#[.string a0,.string (⟨#[]⟩:ByteArray),.int .i64 0,.int .i64 0,.int .i64 0,.bool φ]) ?_ 1 _ rfl;refine δw (cs:=#[.string (⟨#[]⟩:ByteArray),.string (⟨#[]⟩:ByteArray),.int .i64 0,.int .i64 0,.int .i64 0,.bool φ]) ?_ 0 _ rfl;exact BK691.out) Tryz.underlying66 rfl (by kernel_rfl)) rfl ?_
           exact ⟨by first|(simp [*,errW_none,errW_some] <;> rfl),by repeat ((with_reducible first|exact HB.out|refine δq ?_ GE691.out))⟩
          ·
           rw [if_neg c21] at H
           have c21b0:((rdOf ByteArray.empty t692 4).toList == ([111,112,101,110]:List UInt8))=φ:=beq_eq_false_iff_ne.mpr c21
           have c21b1:((rdOf ByteArray.empty t692 4).toList != ([111,112,101,110]:List UInt8))=τ:=bne_iff_ne.mpr c21
           simp only [Option.some.injEq,Prod.mk.injEq] at H
           obtain ⟨rfl,rfl,rfl,rfl,rfl,rfl,rfl⟩:=H
           have C21B0_:=ζa c21b0
           clear c21b0
           have C21B1_:=ζa c21b1
           clear c21b1
           refine start_ (n:=15) (S:=fun w'=>w'.cell? ⟨gb704,0,none⟩=some (.string a0)∧w'.cell? ⟨gb704,1,none⟩=some (.string (rdOf ByteArray.empty t692 0))∧w'.cell? ⟨gb704,2,none⟩=some (.int .i64 t698)∧w'.cell? ⟨gb704,3,none⟩=some (.int .i64 t700)∧w'.cell? ⟨gb704,4,none⟩=some (.int .i64 t702)∧w'.cell? ⟨gb704,5,none⟩=some (.bool ((rdOf ByteArray.empty t692 4).toList == ([111,112,101,110]:List UInt8)))∧w'.cell? ⟨ad696.block,ad696.off+4,none⟩=some (.string (rdOf ByteArray.empty t692 4))) (ds:=[]) #[φ,φ,φ,φ,φ,φ,φ,φ,φ,φ,φ,φ,φ,φ,φ] (by kernel_rfl) rfl rfl ⟨(δl BK704.out 0).trans rfl,(δl BK704.out 1).trans rfl,(δl BK704.out 2).trans rfl,(δl BK704.out 3).trans rfl,(δl BK704.out 4).trans rfl,(δl BK704.out 5).trans rfl,hx706_0⟩ (fun hHeld => ?_);refine with_tabW spec_l09Read.tab5 spec_l09Read.bits5 (fun HT_ HW_ => ?_)
           generalize w51.drew=w52 at HO_6 BK691 BK704 HB hx706_0 hHeld ⊢
           refine take_ (i:=0) (N:=some 43) (v:=?_) (a':=?_) #[τ,φ,φ,φ,φ,φ,φ,φ,φ,φ,φ,φ,φ,φ,φ] rfl rfl (take_ofW HT_.out HW_.out (by kernel_rfl)) (fun _ _ _ h=>h) (Or.inl ⟨by rfl,?_⟩) hHeld ?_ ?_
           rotate_left
           · rintro w' ⟨s0,s1,s2,s3,s4,s5,s6⟩;go_simp;with_reducible rfl
           rotate_left
           · simp only [ζl,δa,δb,δc,i64_w,i32_w];rfl
           refine take_ (i:=1) (N:=some 44) (v:=?_) (a':=?_) #[τ,τ,φ,φ,φ,φ,φ,φ,φ,φ,φ,φ,φ,φ,φ] rfl rfl (take_ofW HT_.out HW_.out (by kernel_rfl)) (fun _ _ _ h=>h) (Or.inl ⟨by rfl,?_⟩) hHeld ?_ ?_
           rotate_left
           · rintro w' ⟨s0,s1,s2,s3,s4,s5,s6⟩;go_simp;with_reducible rfl
           rotate_left
           · simp only [ζl,δa,δb,δc,i64_w,i32_w];rfl
           refine one_ (i:=2) (N:=some 45) #[τ,τ,τ,φ,φ,φ,φ,φ,φ,φ,φ,φ,φ,φ,φ] rfl rfl (one_of HT_.out (by kernel_rfl)) (by decide) (fun K hK => ?_)
           refine goes_ Tryz.func101 (by kernel_rfl) rfl #[.agg #[.string a0,.string (rdOf ByteArray.empty t692 0),.int .i64 t698,.int .i64 t700,.int .i64 t702,.bool ((rdOf ByteArray.empty t692 4).toList == ([111,112,101,110]:List UInt8))]] (by rfl) rfl rfl (by (try simp only [δd,δe,δf]);rfl) ?_
           with_reducible refine (spec_OrderOK.calls kj3 a0 (rdOf ByteArray.empty t692 0) t698 t700 t702 ((rdOf ByteArray.empty t692 4).toList == ([111,112,101,110]:List UInt8)) τ _ A19.out).mono ?_
           rintro e w53 ⟨rfl,hb⟩
           have c21b0:=C21B0_.out
           have c21b1:=C21B1_.out
           have HS6_:=(hb.cell (World.block_lt_of_cell? _ _ (hHeld.2.2.2.2.2.2))).trans (hHeld.2.2.2.2.2.2)
           refine ⟨_,rfl,?_⟩
           have n0_:=ζa (ζh (by exact HO_6.out) hb)
           have n1_:=ζa (blk_below (g:=gb691) (o:=.cells #[.string (⟨#[]⟩:ByteArray),.string (⟨#[]⟩:ByteArray),.int .i64 0,.int .i64 0,.int .i64 0,.bool φ] 66 (0,0)) (by exact BK691.out) hb)
           have n2_:=ζa (blk_below (g:=gb704) (o:=.cells #[.string a0,.string (rdOf ByteArray.empty t692 0),.int .i64 t698,.int .i64 t700,.int .i64 t702,.bool ((rdOf ByteArray.empty t692 4).toList == ([111,112,101,110]:List UInt8))] 66 (0,0)) (by exact BK704.out) hb)
           have n3_:=ζa (δr (by exact HB.out) hb)
           clear HO_6
           clear BK691
           clear BK704
           clear HB
           have HO_6:=n0_
           have BK691:=n1_
           have BK704:=n2_
           have HB:=n3_
           clear n0_ n1_ n2_ n3_
           (try clear hb)
           (try clear hb2)
           (try clear hk)
           (try clear hi)
           refine hK.out _ _ ⟨(δl BK704.out 0).trans rfl,(δl BK704.out 1).trans rfl,(δl BK704.out 2).trans rfl,(δl BK704.out 3).trans rfl,(δl BK704.out 4).trans rfl,(δl BK704.out 5).trans rfl,HS6_⟩ (fun hHeld => ?_)
           clear hK K
           refine norm_ (a':=?_) ?_ ?_
           rotate_left
           ·
            show ζl _ (some 45) _=_
            simp only [ζl,δa,δb,δc,i64_w,i32_w];rfl
           refine ζk (i:=3) (N:=some 46) (v:=?_) (a':=?_) #[τ,τ,τ,τ,φ,φ,φ,φ,φ,φ,φ,φ,φ,φ,φ] rfl rfl (ζj HT_.out (by kernel_rfl)) (fun _ _ _ h=>h) (Or.inl ⟨by rfl,?_⟩) ?_ ?_
           rotate_left
           · intro w';go_simp;with_reducible rfl
           rotate_left
           · simp only [ζl,δa,δb,δc,i64_w,i32_w];rfl
           refine ζk (i:=4) (N:=some 47) (v:=?_) (a':=?_) #[τ,τ,τ,τ,τ,φ,φ,φ,φ,φ,φ,φ,φ,φ,φ] rfl rfl (ζj HT_.out (by kernel_rfl)) (fun _ _ _ h=>h) (Or.inl ⟨by rfl,?_⟩) ?_ ?_
           rotate_left
           · intro w';go_simp;with_reducible rfl
           rotate_left
           · simp only [ζl,δa,δb,δc,i64_w,i32_w];rfl
           refine take_ (i:=5) (N:=some 48) (v:=?_) (a':=?_) #[τ,τ,τ,τ,τ,τ,φ,φ,φ,φ,φ,φ,φ,φ,φ] rfl rfl (take_ofW HT_.out HW_.out (by kernel_rfl)) (fun _ _ _ h=>h) (Or.inl ⟨by rfl,?_⟩) hHeld ?_ ?_
           rotate_left
           · rintro w' ⟨s0,s1,s2,s3,s4,s5,s6⟩;go_simp;with_reducible rfl
           rotate_left
           · simp only [ζl,δa,δb,δc,i64_w,i32_w];rfl
           refine ζk (i:=6) (N:=some 49) (v:=?_) (a':=?_) #[τ,τ,τ,τ,τ,τ,τ,φ,φ,φ,φ,φ,φ,φ,φ] rfl rfl (ζj HT_.out (by kernel_rfl)) (fun _ _ _ h=>h) (Or.inl ⟨by rfl,?_⟩) ?_ ?_
           rotate_left
           · intro w';go_simp;with_reducible rfl
           rotate_left
           · simp only [ζl,δa,δb,δc,i64_w,i32_w];rfl
           refine ζk (i:=7) (N:=some 50) (v:=?_) (a':=?_) #[τ,τ,τ,τ,τ,τ,τ,τ,φ,φ,φ,φ,φ,φ,φ] rfl rfl (ζj HT_.out (by kernel_rfl)) (fun _ _ _ h=>h) (Or.inl ⟨by rfl,?_⟩) ?_ ?_
           rotate_left
           · intro w';go_simp;with_reducible rfl
           rotate_left
           · simp only [ζl,δa,δb,δc,i64_w,i32_w];rfl
           refine ζk (i:=8) (N:=some 51) (v:=?_) (a':=?_) #[τ,τ,τ,τ,τ,τ,τ,τ,τ,φ,φ,φ,φ,φ,φ] rfl rfl (ζj HT_.out (by kernel_rfl)) (fun _ _ _ h=>h) (Or.inl ⟨by rfl,?_⟩) ?_ ?_
           rotate_left
           · intro w';go_simp;with_reducible rfl
           rotate_left
           · simp only [ζl,δa,δb,δc,i64_w,i32_w];rfl
           refine take_ (i:=9) (N:=some 52) (v:=?_) (a':=?_) #[τ,τ,τ,τ,τ,τ,τ,τ,τ,τ,φ,φ,φ,φ,φ] rfl rfl (take_ofW HT_.out HW_.out (by kernel_rfl)) (fun _ _ _ h=>h) (Or.inl ⟨by rfl,?_⟩) hHeld ?_ ?_
           rotate_left
           · rintro w' ⟨s0,s1,s2,s3,s4,s5,s6⟩;go_simp;with_reducible rfl
           rotate_left
           · simp only [ζl,δa,δb,δc,i64_w,i32_w];rfl
           refine ζk (i:=10) (N:=some 53) (v:=?_) (a':=?_) #[τ,τ,τ,τ,τ,τ,τ,τ,τ,τ,τ,φ,φ,φ,φ] rfl rfl (ζj HT_.out (by kernel_rfl)) (fun _ _ _ h=>h) (Or.inl ⟨by rfl,?_⟩) ?_ ?_
           rotate_left
           · intro w';go_simp;with_reducible rfl
           rotate_left
           · simp only [ζl,δa,δb,δc,i64_w,i32_w];rfl
           refine ζk (i:=11) (N:=some 54) (v:=?_) (a':=?_) #[τ,τ,τ,τ,τ,τ,τ,τ,τ,τ,τ,τ,φ,φ,φ] rfl rfl (ζj HT_.out (by kernel_rfl)) (fun _ _ _ h=>h) (Or.inl ⟨by rfl,?_⟩) ?_ ?_
           rotate_left
           · intro w';go_simp;with_reducible rfl
           rotate_left
           · simp only [ζl,δa,δb,δc,i64_w,i32_w];rfl
           refine ζk (i:=12) (N:=some 55) (v:=?_) (a':=?_) #[τ,τ,τ,τ,τ,τ,τ,τ,τ,τ,τ,τ,τ,φ,φ] rfl rfl (ζj HT_.out (by kernel_rfl)) (fun _ _ _ h=>h) (Or.inl ⟨by rfl,?_⟩) ?_ ?_
           rotate_left
           · intro w';go_simp;with_reducible rfl
           rotate_left
           · simp only [ζl,δa,δb,δc,i64_w,i32_w];rfl
           refine one_ (i:=13) (N:=none) #[τ,τ,τ,τ,τ,τ,τ,τ,τ,τ,τ,τ,τ,τ,φ] rfl rfl (one_of HT_.out (by kernel_rfl)) (by decide) (fun K hK => ?_)
           have hs54:w53.cell? ⟨gb691,0,none⟩=some (.string (⟨#[]⟩:ByteArray)):=(δl BK691.out 0).trans rfl
           have hfs54:=δm BK691.out 0
           have hns54_1:=NB704_691.out
           have hms54_1:=NB691_704.out
           have hs55:w53.cell? ⟨gb691,1,none⟩=some (.string (⟨#[]⟩:ByteArray)):=(δl BK691.out 1).trans rfl
           have hfs55:=δm BK691.out 1
           have hns55_1:=NB704_691.out
           have hms55_1:=NB691_704.out
           have hs56:w53.cell? ⟨gb691,2,none⟩=some (.int .i64 0):=(δl BK691.out 2).trans rfl
           have hfs56:=δm BK691.out 2
           have hns56_1:=NB704_691.out
           have hms56_1:=NB691_704.out
           have hs57:w53.cell? ⟨gb691,3,none⟩=some (.int .i64 0):=(δl BK691.out 3).trans rfl
           have hfs57:=δm BK691.out 3
           have hns57_1:=NB704_691.out
           have hms57_1:=NB691_704.out
           have hs58:w53.cell? ⟨gb691,4,none⟩=some (.int .i64 0):=(δl BK691.out 4).trans rfl
           have hfs58:=δm BK691.out 4
           have hns58_1:=NB704_691.out
           have hms58_1:=NB691_704.out
           have hs59:w53.cell? ⟨gb691,5,none⟩=some (.bool φ):=(δl BK691.out 5).trans rfl
           have hfs59:=δm BK691.out 5
           have hns59_1:=NB704_691.out
           have hms59_1:=NB691_704.out
           refine skip_ (w1:=?_) (by rfl) rfl ?_ ?_
           rotate_left
           ·
            go_simp
            rfl
           refine hK.out _ _ ⟨(spec_l09Read.far6 (g:=gb691) NB704_691.out _ _ _ _ _ _).trans hHeld.1,(spec_l09Read.far6 (g:=gb691) NB704_691.out _ _ _ _ _ _).trans hHeld.2.1,(spec_l09Read.far6 (g:=gb691) NB704_691.out _ _ _ _ _ _).trans hHeld.2.2.1,(spec_l09Read.far6 (g:=gb691) NB704_691.out _ _ _ _ _ _).trans hHeld.2.2.2.1,(spec_l09Read.far6 (g:=gb691) NB704_691.out _ _ _ _ _ _).trans hHeld.2.2.2.2.1,(spec_l09Read.far6 (g:=gb691) NB704_691.out _ _ _ _ _ _).trans hHeld.2.2.2.2.2.1,(spec_l09Read.far6 (g:=gb691) (fun e_=>ζf HO_6.out BK691.out (by decide) (by rw [← e_];rfl)) _ _ _ _ _ _).trans hHeld.2.2.2.2.2.2⟩ (fun hHeld => ?_)
           clear hK K
           refine ζk (i:=14) (N:=some 5) (v:=?_) (a':=?_) #[τ,τ,τ,τ,τ,τ,τ,τ,τ,τ,τ,τ,τ,τ,τ] rfl rfl (ζj HT_.out (by kernel_rfl)) (fun _ _ _ h=>h) (Or.inl ⟨by rfl,?_⟩) ?_ ?_
           rotate_left
           · intro w';go_simp;with_reducible rfl
           rotate_left
           · simp only [ζl,δa,δb,δc,i64_w,i32_w];rfl
           refine done_ (done_of HT_.out (by kernel_rfl)) ?_
           try go_wp2
           refine bodyPost_ret (results_ct rfl _ _ gb691 66 #[.string a0,.string (rdOf ByteArray.empty t692 0),.int .i64 t698,.int .i64 t700,.int .i64 t702,.bool ((rdOf ByteArray.empty t692 4).toList == ([111,112,101,110]:List UInt8))] (0,0) _ rfl (by refine δw (cs:=#[.string a0,.string (rdOf ByteArray.empty t692 0),.int .i64 t698,.int .i64 t700,.int .i64 t702,.bool φ]) ?_ 5 _ (by (rw [c21b0];rfl));refine δw (cs:=#[.string a0,.string (rdOf ByteArray.empty t692 0),.int .i64 t698,.int .i64 t700,.int .i64 0,.bool φ]) ?_ 4 _ rfl;refine δw (cs:=#[.string a0,.string (rdOf ByteArray.empty t692 0),.int .i64 t698,.int .i64 0,.int .i64 0,.bool φ]) ?_ 3 _ rfl;refine δw (cs:=#[.string a0,.string (rdOf ByteArray.empty t692 0),.int .i64 0,.int .i64 0,.int .i64 0,.bool φ]) ?_ 2 _ rfl;refine δw (cs:=#[.string a0,.string (⟨#[]⟩:ByteArray),.int .i64 0,.int .i64 0,.int .i64 0,.bool φ]) ?_ 1 _ rfl;refine δw (cs:=#[.string (⟨#[]⟩:ByteArray),.string (⟨#[]⟩:ByteArray),.int .i64 0,.int .i64 0,.int .i64 0,.bool φ]) ?_ 0 _ rfl;exact BK691.out) Tryz.underlying66 rfl (by kernel_rfl)) rfl ?_
           exact ⟨by first|(simp [*,errW_none,errW_some] <;> rfl),by repeat ((with_reducible first|exact HB.out|refine δq ?_ GE691.out))⟩
         ·
          replace c20:=Bool.eq_false_iff.mpr c20
          subst c20
          have H1:(some (a0,rdOf ByteArray.empty t692 0,t698,t700,t702,((rdOf ByteArray.empty t692 4).toList == ([111,112,101,110]:List UInt8)),φ))=some (r1,r2,r3,r4,r5,r6,r7):=by rw [if_neg (show ¬ (φ=τ) by decide)] at H;exact H
          clear H
          have H:=H1
          clear H1
          simp only [Option.some.injEq,Prod.mk.injEq] at H
          obtain ⟨rfl,rfl,rfl,rfl,rfl,rfl,rfl⟩:=H
          refine start_ (n:=15) (S:=fun w'=>w'.cell? ⟨gb704,0,none⟩=some (.string a0)∧w'.cell? ⟨gb704,1,none⟩=some (.string (rdOf ByteArray.empty t692 0))∧w'.cell? ⟨gb704,2,none⟩=some (.int .i64 t698)∧w'.cell? ⟨gb704,3,none⟩=some (.int .i64 t700)∧w'.cell? ⟨gb704,4,none⟩=some (.int .i64 t702)∧w'.cell? ⟨gb704,5,none⟩=some (.bool ((rdOf ByteArray.empty t692 4).toList == ([111,112,101,110]:List UInt8)))) (ds:=[]) #[φ,φ,φ,φ,φ,φ,φ,φ,φ,φ,φ,φ,φ,φ,φ] (by kernel_rfl) rfl rfl ⟨(δl BK704.out 0).trans rfl,(δl BK704.out 1).trans rfl,(δl BK704.out 2).trans rfl,(δl BK704.out 3).trans rfl,(δl BK704.out 4).trans rfl,(δl BK704.out 5).trans rfl⟩ (fun hHeld => ?_);refine with_tabW spec_l09Read.tab5 spec_l09Read.bits5 (fun HT_ HW_ => ?_)
          generalize w51.drew=w71 at HO_6 BK691 BK704 HB hHeld ⊢
          refine take_ (i:=0) (N:=some 43) (v:=?_) (a':=?_) #[τ,φ,φ,φ,φ,φ,φ,φ,φ,φ,φ,φ,φ,φ,φ] rfl rfl (take_ofW HT_.out HW_.out (by kernel_rfl)) (fun _ _ _ h=>h) (Or.inl ⟨by rfl,?_⟩) hHeld ?_ ?_
          rotate_left
          · rintro w' ⟨s0,s1,s2,s3,s4,s5⟩;go_simp;with_reducible rfl
          rotate_left
          · simp only [ζl,δa,δb,δc,i64_w,i32_w];rfl
          refine take_ (i:=1) (N:=some 44) (v:=?_) (a':=?_) #[τ,τ,φ,φ,φ,φ,φ,φ,φ,φ,φ,φ,φ,φ,φ] rfl rfl (take_ofW HT_.out HW_.out (by kernel_rfl)) (fun _ _ _ h=>h) (Or.inl ⟨by rfl,?_⟩) hHeld ?_ ?_
          rotate_left
          · rintro w' ⟨s0,s1,s2,s3,s4,s5⟩;go_simp;with_reducible rfl
          rotate_left
          · simp only [ζl,δa,δb,δc,i64_w,i32_w];rfl
          refine one_ (i:=2) (N:=some 45) #[τ,τ,τ,φ,φ,φ,φ,φ,φ,φ,φ,φ,φ,φ,φ] rfl rfl (one_of HT_.out (by kernel_rfl)) (by decide) (fun K hK => ?_)
          refine goes_ Tryz.func101 (by kernel_rfl) rfl #[.agg #[.string a0,.string (rdOf ByteArray.empty t692 0),.int .i64 t698,.int .i64 t700,.int .i64 t702,.bool ((rdOf ByteArray.empty t692 4).toList == ([111,112,101,110]:List UInt8))]] (by rfl) rfl rfl (by (try simp only [δd,δe,δf]);rfl) ?_
          with_reducible refine (spec_OrderOK.calls kj3 a0 (rdOf ByteArray.empty t692 0) t698 t700 t702 ((rdOf ByteArray.empty t692 4).toList == ([111,112,101,110]:List UInt8)) φ _ A19.out).mono ?_
          rintro e w72 ⟨rfl,hb⟩
          refine ⟨_,rfl,?_⟩
          have n0_:=ζa (ζh (by exact HO_6.out) hb)
          have n1_:=ζa (blk_below (g:=gb691) (o:=.cells #[.string (⟨#[]⟩:ByteArray),.string (⟨#[]⟩:ByteArray),.int .i64 0,.int .i64 0,.int .i64 0,.bool φ] 66 (0,0)) (by exact BK691.out) hb)
          have n2_:=ζa (blk_below (g:=gb704) (o:=.cells #[.string a0,.string (rdOf ByteArray.empty t692 0),.int .i64 t698,.int .i64 t700,.int .i64 t702,.bool ((rdOf ByteArray.empty t692 4).toList == ([111,112,101,110]:List UInt8))] 66 (0,0)) (by exact BK704.out) hb)
          have n3_:=ζa (δr (by exact HB.out) hb)
          clear HO_6
          clear BK691
          clear BK704
          clear HB
          have HO_6:=n0_
          have BK691:=n1_
          have BK704:=n2_
          have HB:=n3_
          clear n0_ n1_ n2_ n3_
          (try clear hb)
          (try clear hb2)
          (try clear hk)
          (try clear hi)
          refine hK.out _ _ ⟨(δl BK704.out 0).trans rfl,(δl BK704.out 1).trans rfl,(δl BK704.out 2).trans rfl,(δl BK704.out 3).trans rfl,(δl BK704.out 4).trans rfl,(δl BK704.out 5).trans rfl⟩ (fun hHeld => ?_)
          clear hK K
          refine norm_ (a':=?_) ?_ ?_
          rotate_left
          ·
           show ζl _ (some 45) _=_
           simp only [ζl,δa,δb,δc,i64_w,i32_w];rfl
          refine ζk (i:=3) (N:=some 46) (v:=?_) (a':=?_) #[τ,τ,τ,τ,φ,φ,φ,φ,φ,φ,φ,φ,φ,φ,φ] rfl rfl (ζj HT_.out (by kernel_rfl)) (fun _ _ _ h=>h) (Or.inl ⟨by rfl,?_⟩) ?_ ?_
          rotate_left
          · intro w';go_simp;with_reducible rfl
          rotate_left
          · simp only [ζl,δa,δb,δc,i64_w,i32_w];rfl
          refine ζk (i:=4) (N:=some 47) (v:=undef) (a':=?_) #[τ,τ,τ,τ,τ,φ,φ,φ,φ,φ,φ,φ,φ,φ,φ] rfl rfl (ζj HT_.out (by kernel_rfl)) (fun _ _ _ h=>h) (Or.inr ⟨by rfl,rfl⟩) ?_ ?_
          rotate_left
          · simp only [ζl,δa,δb,δc,i64_w,i32_w];rfl
          refine ζk (i:=5) (N:=some 48) (v:=undef) (a':=?_) #[τ,τ,τ,τ,τ,τ,φ,φ,φ,φ,φ,φ,φ,φ,φ] rfl rfl (ζj HT_.out (by kernel_rfl)) (fun _ _ _ h=>h) (Or.inr ⟨by rfl,rfl⟩) ?_ ?_
          rotate_left
          · simp only [ζl,δa,δb,δc,i64_w,i32_w];rfl
          refine ζk (i:=6) (N:=some 49) (v:=undef) (a':=?_) #[τ,τ,τ,τ,τ,τ,τ,φ,φ,φ,φ,φ,φ,φ,φ] rfl rfl (ζj HT_.out (by kernel_rfl)) (fun _ _ _ h=>h) (Or.inr ⟨by rfl,rfl⟩) ?_ ?_
          rotate_left
          · simp only [ζl,δa,δb,δc,i64_w,i32_w];rfl
          refine ζk (i:=7) (N:=some 50) (v:=undef) (a':=?_) #[τ,τ,τ,τ,τ,τ,τ,τ,φ,φ,φ,φ,φ,φ,φ] rfl rfl (ζj HT_.out (by kernel_rfl)) (fun _ _ _ h=>h) (Or.inr ⟨by rfl,rfl⟩) ?_ ?_
          rotate_left
          · simp only [ζl,δa,δb,δc,i64_w,i32_w];rfl
          refine ζk (i:=8) (N:=some 51) (v:=undef) (a':=?_) #[τ,τ,τ,τ,τ,τ,τ,τ,τ,φ,φ,φ,φ,φ,φ] rfl rfl (ζj HT_.out (by kernel_rfl)) (fun _ _ _ h=>h) (Or.inr ⟨by rfl,rfl⟩) ?_ ?_
          rotate_left
          · simp only [ζl,δa,δb,δc,i64_w,i32_w];rfl
          refine ζk (i:=9) (N:=some 52) (v:=undef) (a':=?_) #[τ,τ,τ,τ,τ,τ,τ,τ,τ,τ,φ,φ,φ,φ,φ] rfl rfl (ζj HT_.out (by kernel_rfl)) (fun _ _ _ h=>h) (Or.inr ⟨by rfl,rfl⟩) ?_ ?_
          rotate_left
          · simp only [ζl,δa,δb,δc,i64_w,i32_w];rfl
          refine ζk (i:=10) (N:=some 53) (v:=undef) (a':=?_) #[τ,τ,τ,τ,τ,τ,τ,τ,τ,τ,τ,φ,φ,φ,φ] rfl rfl (ζj HT_.out (by kernel_rfl)) (fun _ _ _ h=>h) (Or.inr ⟨by rfl,rfl⟩) ?_ ?_
          rotate_left
          · simp only [ζl,δa,δb,δc,i64_w,i32_w];rfl
          refine ζk (i:=11) (N:=some 54) (v:=undef) (a':=?_) #[τ,τ,τ,τ,τ,τ,τ,τ,τ,τ,τ,τ,φ,φ,φ] rfl rfl (ζj HT_.out (by kernel_rfl)) (fun _ _ _ h=>h) (Or.inr ⟨by rfl,rfl⟩) ?_ ?_
          rotate_left
          · simp only [ζl,δa,δb,δc,i64_w,i32_w];rfl
          refine ζk (i:=12) (N:=some 55) (v:=?_) (a':=?_) #[τ,τ,τ,τ,τ,τ,τ,τ,τ,τ,τ,τ,τ,φ,φ] rfl rfl (ζj HT_.out (by kernel_rfl)) (fun _ _ _ h=>h) (Or.inl ⟨by rfl,?_⟩) ?_ ?_
          rotate_left
          · intro w';go_simp;with_reducible rfl
          rotate_left
          · simp only [ζl,δa,δb,δc,i64_w,i32_w];rfl
          refine one_ (i:=13) (N:=none) #[τ,τ,τ,τ,τ,τ,τ,τ,τ,τ,τ,τ,τ,τ,φ] rfl rfl (one_of HT_.out (by kernel_rfl)) (by decide) (fun K hK => ?_)
          have hs73:w72.cell? ⟨gb691,0,none⟩=some (.string (⟨#[]⟩:ByteArray)):=(δl BK691.out 0).trans rfl
          have hfs73:=δm BK691.out 0
          have hns73_1:=NB704_691.out
          have hms73_1:=NB691_704.out
          have hs74:w72.cell? ⟨gb691,1,none⟩=some (.string (⟨#[]⟩:ByteArray)):=(δl BK691.out 1).trans rfl
          have hfs74:=δm BK691.out 1
          have hns74_1:=NB704_691.out
          have hms74_1:=NB691_704.out
          have hs75:w72.cell? ⟨gb691,2,none⟩=some (.int .i64 0):=(δl BK691.out 2).trans rfl
          have hfs75:=δm BK691.out 2
          have hns75_1:=NB704_691.out
          have hms75_1:=NB691_704.out
          have hs76:w72.cell? ⟨gb691,3,none⟩=some (.int .i64 0):=(δl BK691.out 3).trans rfl
          have hfs76:=δm BK691.out 3
          have hns76_1:=NB704_691.out
          have hms76_1:=NB691_704.out
          have hs77:w72.cell? ⟨gb691,4,none⟩=some (.int .i64 0):=(δl BK691.out 4).trans rfl
          have hfs77:=δm BK691.out 4
          have hns77_1:=NB704_691.out
          have hms77_1:=NB691_704.out
          have hs78:w72.cell? ⟨gb691,5,none⟩=some (.bool φ):=(δl BK691.out 5).trans rfl
          have hfs78:=δm BK691.out 5
          have hns78_1:=NB704_691.out
          have hms78_1:=NB691_704.out
          refine skip_ (w1:=?_) (by rfl) rfl ?_ ?_
          rotate_left
          ·
           go_simp
           rfl
          refine hK.out _ _ ⟨(spec_l09Read.far6 (g:=gb691) NB704_691.out _ _ _ _ _ _).trans hHeld.1,(spec_l09Read.far6 (g:=gb691) NB704_691.out _ _ _ _ _ _).trans hHeld.2.1,(spec_l09Read.far6 (g:=gb691) NB704_691.out _ _ _ _ _ _).trans hHeld.2.2.1,(spec_l09Read.far6 (g:=gb691) NB704_691.out _ _ _ _ _ _).trans hHeld.2.2.2.1,(spec_l09Read.far6 (g:=gb691) NB704_691.out _ _ _ _ _ _).trans hHeld.2.2.2.2.1,(spec_l09Read.far6 (g:=gb691) NB704_691.out _ _ _ _ _ _).trans hHeld.2.2.2.2.2⟩ (fun hHeld => ?_)
          clear hK K
          refine ζk (i:=14) (N:=some 5) (v:=?_) (a':=?_) #[τ,τ,τ,τ,τ,τ,τ,τ,τ,τ,τ,τ,τ,τ,τ] rfl rfl (ζj HT_.out (by kernel_rfl)) (fun _ _ _ h=>h) (Or.inl ⟨by rfl,?_⟩) ?_ ?_
          rotate_left
          · intro w';go_simp;with_reducible rfl
          rotate_left
          · simp only [ζl,δa,δb,δc,i64_w,i32_w];rfl
          refine done_ (done_of HT_.out (by kernel_rfl)) ?_
          try go_wp2
          refine bodyPost_ret (results_ct rfl _ _ gb691 66 #[.string a0,.string (rdOf ByteArray.empty t692 0),.int .i64 t698,.int .i64 t700,.int .i64 t702,.bool ((rdOf ByteArray.empty t692 4).toList == ([111,112,101,110]:List UInt8))] (0,0) _ rfl (by refine δw (cs:=#[.string a0,.string (rdOf ByteArray.empty t692 0),.int .i64 t698,.int .i64 t700,.int .i64 t702,.bool φ]) ?_ 5 _ (by rfl);refine δw (cs:=#[.string a0,.string (rdOf ByteArray.empty t692 0),.int .i64 t698,.int .i64 t700,.int .i64 0,.bool φ]) ?_ 4 _ rfl;refine δw (cs:=#[.string a0,.string (rdOf ByteArray.empty t692 0),.int .i64 t698,.int .i64 0,.int .i64 0,.bool φ]) ?_ 3 _ rfl;refine δw (cs:=#[.string a0,.string (rdOf ByteArray.empty t692 0),.int .i64 0,.int .i64 0,.int .i64 0,.bool φ]) ?_ 2 _ rfl;refine δw (cs:=#[.string a0,.string (⟨#[]⟩:ByteArray),.int .i64 0,.int .i64 0,.int .i64 0,.bool φ]) ?_ 1 _ rfl;refine δw (cs:=#[.string (⟨#[]⟩:ByteArray),.string (⟨#[]⟩:ByteArray),.int .i64 0,.int .i64 0,.int .i64 0,.bool φ]) ?_ 0 _ rfl;exact BK691.out) Tryz.underlying66 rfl (by kernel_rfl)) rfl ?_
          exact ⟨by rfl,by repeat ((with_reducible first|exact HB.out|refine δq ?_ GE691.out))⟩
        ·
         rw [if_neg c18] at H
         exact absurd H (by simp)
       ·
        rw [if_neg c16] at H
        exact absurd H (by simp)
      ·
       rw [if_neg c14] at H
       exact absurd H (by simp)
     ·
      rw [if_neg c12] at H
      exact absurd H (by simp)
    ·
     rw [if_neg c11] at H
     exact absurd H (by simp)


open Go.Proofs.YtabmfhnhmoiljaaGreatDoorW.PrintWords renaming gate_dst → δx, box_event → δz, below_step → δr, below_size → δs, gate_callee → δv, blk_drewN → δn, pw_below_drewN → δi, blk_cell → δl, blk_frozen → δm, blk_put → δw, below_set → δq
open List renaming map_toArray → δd, map_cons → δe, map_nil → δf

/-! ### spec_l09Find: function 111 -/
def spec_l09Find.f (k:Nat) (l0:List (S51)) (a1:ByteArray):Option (ByteArray × ByteArray × Int × Int × Int × Bool × Bool):=(spec_l09Key.f a1).bind fun t708=>((spec_l03Get.f k l0 t708).bind fun bt709=>(if bt709.2=τ then ((spec_l09Read.f k a1 bt709.1).bind fun bt711=>(some (bt711.1,bt711.2.1,bt711.2.2.1,bt711.2.2.2.1,bt711.2.2.2.2.1,bt711.2.2.2.2.2.1,bt711.2.2.2.2.2.2))) else (some ((⟨#[]⟩:ByteArray),(⟨#[]⟩:ByteArray),0,0,0,φ,φ))))
set_option maxHeartbeats 8000000 in
set_option maxRecDepth 100000 in
theorem spec_l09Find.calls (k:Nat) (A0:Option Addr) (c0:Nat) (l0:List (S51)) (a1:ByteArray) (r1:ByteArray) (r2:ByteArray) (r3:Int) (r4:Int) (r5:Int) (r6:Bool) (r7:Bool) (w:World) (hr0:Kd.C k51 w A0 l0.length l0) (hc0:l0.length≤c0) (h:spec_l09Find.f k l0 a1=some (r1,r2,r3,r4,r5,r6,r7)) :
  Calls Tryz.prog 111 #[.slice A0 l0.length c0,.string a1] w fun e w'=>e = .returned (.tuple #[.agg #[.string r1,.string r2,.int .i64 r3,.int .i64 r4,.int .i64 r5,.bool r6],.bool r7])∧Below w.heap.size w w':=by
 have hu66:=Tryz.underlying66
 have HR0:=ζa hr0
 have HC0:=ζa hc0
 clear hr0 hc0
 have HB:=ζa (Below.refl w.heap.size w)
 have H:((spec_l09Key.f a1).bind fun t708=>((spec_l03Get.f k l0 t708).bind fun bt709=>(if bt709.2=τ then ((spec_l09Read.f k a1 bt709.1).bind fun bt711=>(some (bt711.1,bt711.2.1,bt711.2.2.1,bt711.2.2.2.1,bt711.2.2.2.2.1,bt711.2.2.2.2.2.1,bt711.2.2.2.2.2.2))) else (some ((⟨#[]⟩:ByteArray),(⟨#[]⟩:ByteArray),0,0,0,φ,φ)))))=some (r1,r2,r3,r4,r5,r6,r7):=h
 clear h
 replace H:=Option.bind_eq_some_iff.mp H
 obtain ⟨t708,A30,H⟩:=H
 replace H:((spec_l03Get.f k l0 t708).bind fun bt709=>(if bt709.2=τ then ((spec_l09Read.f k a1 bt709.1).bind fun bt711=>(some (bt711.1,bt711.2.1,bt711.2.2.1,bt711.2.2.2.1,bt711.2.2.2.2.1,bt711.2.2.2.2.2.1,bt711.2.2.2.2.2.2))) else (some ((⟨#[]⟩:ByteArray),(⟨#[]⟩:ByteArray),0,0,0,φ,φ))))=some (r1,r2,r3,r4,r5,r6,r7):=H
 have A3:=ζa A30
 clear A30
 replace H:=Option.bind_eq_some_iff.mp H
 obtain ⟨⟨t709,t710⟩,A40,H⟩:=H
 replace H:(if t710=τ then ((spec_l09Read.f k a1 t709).bind fun bt711=>(some (bt711.1,bt711.2.1,bt711.2.2.1,bt711.2.2.2.1,bt711.2.2.2.2.1,bt711.2.2.2.2.2.1,bt711.2.2.2.2.2.2))) else (some ((⟨#[]⟩:ByteArray),(⟨#[]⟩:ByteArray),0,0,0,φ,φ)))=some (r1,r2,r3,r4,r5,r6,r7):=H
 have A4:=ζa A40
 clear A40
 by_cases c5:t710=τ
 ·
  subst c5
  have H1:((spec_l09Read.f k a1 t709).bind fun bt711=>(some (bt711.1,bt711.2.1,bt711.2.2.1,bt711.2.2.2.1,bt711.2.2.2.2.1,bt711.2.2.2.2.2.1,bt711.2.2.2.2.2.2)))=some (r1,r2,r3,r4,r5,r6,r7):=by rw [if_pos rfl] at H;exact H
  clear H
  have H:=H1
  clear H1
  replace H:=Option.bind_eq_some_iff.mp H
  obtain ⟨⟨t711,t712,t713,t714,t715,t716,t717⟩,A60,H⟩:=H
  replace H:(some (t711,t712,t713,t714,t715,t716,t717))=some (r1,r2,r3,r4,r5,r6,r7):=H
  have A6:=ζa A60
  clear A60
  simp only [Option.some.injEq,Prod.mk.injEq] at H
  obtain ⟨rfl,rfl,rfl,rfl,rfl,rfl,rfl⟩:=H
  go_enter Tryz.func111,Tryz.ntmps111
  go_wp2_with (first|((with_reducible refine δx (N:=4) rfl ?_);refine δz ?hg (N:=4) ?hd (cs:=#[.string (⟨#[]⟩:ByteArray),.string (⟨#[]⟩:ByteArray),.int .i64 0,.int .i64 0,.int .i64 0,.bool φ]) (t:=66) ?hr ?_;(case hd=>rfl);(case hg=>rfl);(case hr=>(go_simp;done));intro gb707 hg w7 hbox hb;have n0_:=ζa (δr (by exact HB.out) hb);have n1_:=ζa (hbox);have n2_:=ζa ((by rw [hg];exact (δs (by exact HB.out)):w.heap.size≤gb707));have n3_:=ζa ((by rw [hg];exact (δs (by exact HB.out)):w.heap.size≤gb707));clear HB;have HB:=n0_;have BK707:=n1_;have GW707:=n2_;have GE707:=n3_;clear n0_ n1_ n2_ n3_;clear hb hbox hg)|((with_reducible refine δv (f:=103) rfl ?_);refine goesL_ (some 11) rfl rfl Tryz.func103 (by kernel_rfl) rfl #[.string a1] rfl (by (try simp only [δd,δe,δf]);rfl) ?_;(with_reducible refine (spec_l09Key.calls a1 t708 _ A3.out).mono ?_);rintro e w' ⟨rfl,⟨nd,rfl⟩⟩;refine ⟨_,rfl,?_⟩;(try (rw [drewN_self w7];generalize hq_:World.drewN w7 _=w7;have n0_:Aside0 (w7.heap[gb707]? = some (.cells #[.string (⟨#[]⟩:ByteArray),.string (⟨#[]⟩:ByteArray),.int .i64 0,.int .i64 0,.int .i64 0,.bool φ] 66 (0,0))):=⟨by rw [← hq_];exact (by (with_reducible repeat (refine δn ?_ _));exact BK707.out)⟩;have n1_:Aside0 (Below w.heap.size w w7):=⟨by rw [← hq_];exact (by repeat ((with_reducible first|exact HB.out|apply δi)))⟩;clear BK707 HB hq_;have BK707:=n0_;have HB:=n1_;clear n0_ n1_)))|((with_reducible refine δv (f:=102) rfl ?_);refine goesL_ (some 12) rfl rfl Tryz.func102 (by kernel_rfl) rfl #[.slice A0 l0.length c0,.string t708] rfl (by (try simp only [δd,δe,δf]);rfl) ?_;(with_reducible refine (spec_l03Get.calls k _ _ l0 t708 t709 τ _ ?side1 ?side2 A4.out).mono ?_);(case side1=>repeat (exact (Kd.C_below HR0.out HB.out)));(case side2=>exact HC0.out);rintro e w' ⟨rfl,⟨nd,rfl⟩⟩;refine ⟨_,rfl,?_⟩;(try (rw [drewN_self w7];generalize hq_:World.drewN w7 _=w7;have n0_:Aside0 (w7.heap[gb707]? = some (.cells #[.string (⟨#[]⟩:ByteArray),.string (⟨#[]⟩:ByteArray),.int .i64 0,.int .i64 0,.int .i64 0,.bool φ] 66 (0,0))):=⟨by rw [← hq_];exact (by (with_reducible repeat (refine δn ?_ _));exact BK707.out)⟩;have n1_:Aside0 (Below w.heap.size w w7):=⟨by rw [← hq_];exact (by repeat ((with_reducible first|exact HB.out|apply δi)))⟩;clear BK707 HB hq_;have BK707:=n0_;have HB:=n1_;clear n0_ n1_)))|((with_reducible refine δv (f:=167) rfl ?_);refine goesL_ (some 20) rfl rfl Tryz.func167 (by kernel_rfl) rfl #[.string a1,.string t709] rfl (by (try simp only [δd,δe,δf]);rfl) ?_;(with_reducible refine (spec_l09Read.calls k a1 t709 t711 t712 t713 t714 t715 t716 t717 _ A6.out).mono ?_);rintro e w8 ⟨rfl,hb⟩;refine ⟨_,rfl,?_⟩;have n0_:=ζa (blk_below (g:=gb707) (o:=.cells #[.string (⟨#[]⟩:ByteArray),.string (⟨#[]⟩:ByteArray),.int .i64 0,.int .i64 0,.int .i64 0,.bool φ] 66 (0,0)) (by exact BK707.out) hb);have n1_:=ζa (δr (by exact HB.out) hb);clear BK707;clear HB;have BK707:=n0_;have HB:=n1_;clear n0_ n1_;(try clear hb);(try clear hb2);(try clear hk);(try clear hi);have hcz9_0:w8.cell? ⟨gb707,0,none⟩=some (.string (⟨#[]⟩:ByteArray)):=(δl BK707.out 0).trans rfl;have hcz9_1:w8.cell? ⟨gb707,1,none⟩=some (.string (⟨#[]⟩:ByteArray)):=(δl BK707.out 1).trans rfl;have hcz9_2:w8.cell? ⟨gb707,2,none⟩=some (.int .i64 0):=(δl BK707.out 2).trans rfl;have hcz9_3:w8.cell? ⟨gb707,3,none⟩=some (.int .i64 0):=(δl BK707.out 3).trans rfl;have hcz9_4:w8.cell? ⟨gb707,4,none⟩=some (.int .i64 0):=(δl BK707.out 4).trans rfl;have hcz9_5:w8.cell? ⟨gb707,5,none⟩=some (.bool φ):=(δl BK707.out 5).trans rfl;have hfz9_0:=δm BK707.out 0;have hfz9_1:=δm BK707.out 1;have hfz9_2:=δm BK707.out 2;have hfz9_3:=δm BK707.out 3;have hfz9_4:=δm BK707.out 4;have hfz9_5:=δm BK707.out 5))
  refine bodyPost_ret (results_ct rfl _ _ gb707 66 #[.string t711,.string t712,.int .i64 t713,.int .i64 t714,.int .i64 t715,.bool t716] (0,0) _ rfl (by refine δw (cs:=#[.string t711,.string t712,.int .i64 t713,.int .i64 t714,.int .i64 t715,.bool φ]) ?_ 5 _ rfl;refine δw (cs:=#[.string t711,.string t712,.int .i64 t713,.int .i64 t714,.int .i64 0,.bool φ]) ?_ 4 _ rfl;refine δw (cs:=#[.string t711,.string t712,.int .i64 t713,.int .i64 0,.int .i64 0,.bool φ]) ?_ 3 _ rfl;refine δw (cs:=#[.string t711,.string t712,.int .i64 0,.int .i64 0,.int .i64 0,.bool φ]) ?_ 2 _ rfl;refine δw (cs:=#[.string t711,.string (⟨#[]⟩:ByteArray),.int .i64 0,.int .i64 0,.int .i64 0,.bool φ]) ?_ 1 _ rfl;refine δw (cs:=#[.string (⟨#[]⟩:ByteArray),.string (⟨#[]⟩:ByteArray),.int .i64 0,.int .i64 0,.int .i64 0,.bool φ]) ?_ 0 _ rfl;exact BK707.out) Tryz.underlying66 rfl (by kernel_rfl)) rfl ?_
  exact ⟨by rfl,by repeat ((with_reducible first|exact HB.out|refine δq ?_ GE707.out))⟩
 ·
  replace c5:=Bool.eq_false_iff.mpr c5
  subst c5
  have H1:(some ((⟨#[]⟩:ByteArray),(⟨#[]⟩:ByteArray),0,0,0,φ,φ))=some (r1,r2,r3,r4,r5,r6,r7):=by rw [if_neg (show ¬ (φ=τ) by decide)] at H;exact H
  clear H
  have H:=H1
  clear H1
  simp only [Option.some.injEq,Prod.mk.injEq] at H
  obtain ⟨rfl,rfl,rfl,rfl,rfl,rfl,rfl⟩:=H
  go_enter Tryz.func111,Tryz.ntmps111
  go_wp2_with (first|((with_reducible refine δx (N:=4) rfl ?_);refine δz ?hg (N:=4) ?hd (cs:=#[.string (⟨#[]⟩:ByteArray),.string (⟨#[]⟩:ByteArray),.int .i64 0,.int .i64 0,.int .i64 0,.bool φ]) (t:=66) ?hr ?_;(case hd=>rfl);(case hg=>rfl);(case hr=>(go_simp;done));intro gb707 hg w10 hbox hb;have n0_:=ζa (δr (by exact HB.out) hb);have n1_:=ζa (hbox);have n2_:=ζa ((by rw [hg];exact (δs (by exact HB.out)):w.heap.size≤gb707));have n3_:=ζa ((by rw [hg];exact (δs (by exact HB.out)):w.heap.size≤gb707));clear HB;have HB:=n0_;have BK707:=n1_;have GW707:=n2_;have GE707:=n3_;clear n0_ n1_ n2_ n3_;clear hb hbox hg)|((with_reducible refine δv (f:=103) rfl ?_);refine goesL_ (some 11) rfl rfl Tryz.func103 (by kernel_rfl) rfl #[.string a1] rfl (by (try simp only [δd,δe,δf]);rfl) ?_;(with_reducible refine (spec_l09Key.calls a1 t708 _ A3.out).mono ?_);rintro e w' ⟨rfl,⟨nd,rfl⟩⟩;refine ⟨_,rfl,?_⟩;(try (rw [drewN_self w10];generalize hq_:World.drewN w10 _=w10;have n0_:Aside0 (w10.heap[gb707]? = some (.cells #[.string (⟨#[]⟩:ByteArray),.string (⟨#[]⟩:ByteArray),.int .i64 0,.int .i64 0,.int .i64 0,.bool φ] 66 (0,0))):=⟨by rw [← hq_];exact (by (with_reducible repeat (refine δn ?_ _));exact BK707.out)⟩;have n1_:Aside0 (Below w.heap.size w w10):=⟨by rw [← hq_];exact (by repeat ((with_reducible first|exact HB.out|apply δi)))⟩;clear BK707 HB hq_;have BK707:=n0_;have HB:=n1_;clear n0_ n1_)))|((with_reducible refine δv (f:=102) rfl ?_);refine goesL_ (some 12) rfl rfl Tryz.func102 (by kernel_rfl) rfl #[.slice A0 l0.length c0,.string t708] rfl (by (try simp only [δd,δe,δf]);rfl) ?_;(with_reducible refine (spec_l03Get.calls k _ _ l0 t708 t709 φ _ ?side1 ?side2 A4.out).mono ?_);(case side1=>repeat (exact (Kd.C_below HR0.out HB.out)));(case side2=>exact HC0.out);rintro e w' ⟨rfl,⟨nd,rfl⟩⟩;refine ⟨_,rfl,?_⟩;(try (rw [drewN_self w10];generalize hq_:World.drewN w10 _=w10;have n0_:Aside0 (w10.heap[gb707]? = some (.cells #[.string (⟨#[]⟩:ByteArray),.string (⟨#[]⟩:ByteArray),.int .i64 0,.int .i64 0,.int .i64 0,.bool φ] 66 (0,0))):=⟨by rw [← hq_];exact (by (with_reducible repeat (refine δn ?_ _));exact BK707.out)⟩;have n1_:Aside0 (Below w.heap.size w w10):=⟨by rw [← hq_];exact (by repeat ((with_reducible first|exact HB.out|apply δi)))⟩;clear BK707 HB hq_;have BK707:=n0_;have HB:=n1_;clear n0_ n1_));have hcz11_0:w10.cell? ⟨gb707,0,none⟩=some (.string (⟨#[]⟩:ByteArray)):=(δl BK707.out 0).trans rfl;have hcz11_1:w10.cell? ⟨gb707,1,none⟩=some (.string (⟨#[]⟩:ByteArray)):=(δl BK707.out 1).trans rfl;have hcz11_2:w10.cell? ⟨gb707,2,none⟩=some (.int .i64 0):=(δl BK707.out 2).trans rfl;have hcz11_3:w10.cell? ⟨gb707,3,none⟩=some (.int .i64 0):=(δl BK707.out 3).trans rfl;have hcz11_4:w10.cell? ⟨gb707,4,none⟩=some (.int .i64 0):=(δl BK707.out 4).trans rfl;have hcz11_5:w10.cell? ⟨gb707,5,none⟩=some (.bool φ):=(δl BK707.out 5).trans rfl;have hfz11_0:=δm BK707.out 0;have hfz11_1:=δm BK707.out 1;have hfz11_2:=δm BK707.out 2;have hfz11_3:=δm BK707.out 3;have hfz11_4:=δm BK707.out 4;have hfz11_5:=δm BK707.out 5))
  refine bodyPost_ret (results_ct rfl _ _ gb707 66 #[.string (⟨#[]⟩:ByteArray),.string (⟨#[]⟩:ByteArray),.int .i64 0,.int .i64 0,.int .i64 0,.bool φ] (0,0) _ rfl (by refine δw (cs:=#[.string (⟨#[]⟩:ByteArray),.string (⟨#[]⟩:ByteArray),.int .i64 0,.int .i64 0,.int .i64 0,.bool φ]) ?_ 5 _ rfl;refine δw (cs:=#[.string (⟨#[]⟩:ByteArray),.string (⟨#[]⟩:ByteArray),.int .i64 0,.int .i64 0,.int .i64 0,.bool φ]) ?_ 4 _ rfl;refine δw (cs:=#[.string (⟨#[]⟩:ByteArray),.string (⟨#[]⟩:ByteArray),.int .i64 0,.int .i64 0,.int .i64 0,.bool φ]) ?_ 3 _ rfl;refine δw (cs:=#[.string (⟨#[]⟩:ByteArray),.string (⟨#[]⟩:ByteArray),.int .i64 0,.int .i64 0,.int .i64 0,.bool φ]) ?_ 2 _ rfl;refine δw (cs:=#[.string (⟨#[]⟩:ByteArray),.string (⟨#[]⟩:ByteArray),.int .i64 0,.int .i64 0,.int .i64 0,.bool φ]) ?_ 1 _ rfl;refine δw (cs:=#[.string (⟨#[]⟩:ByteArray),.string (⟨#[]⟩:ByteArray),.int .i64 0,.int .i64 0,.int .i64 0,.bool φ]) ?_ 0 _ rfl;exact BK707.out) Tryz.underlying66 rfl (by kernel_rfl)) rfl ?_
  exact ⟨by rfl,by repeat ((with_reducible first|exact HB.out|refine δq ?_ GE707.out))⟩


open Go.Proofs.YtabmfhnhmoiljaaGreatDoorW.PrintWords renaming below_step → δr, gate_dst → δx, box_event → δz, blk_cell → δl, blk_frozen → δm, below_set → δq, blk_put → δw, blk_alloc → δo, blk_drew → δp, blk_drewN → δn, below_alloc → δk, below_drew1 → δj, pw_below_drewN → δi

/-! ### spec_l09Cancel: function 60 -/
def spec_l09Cancel.f (k:Nat) (name:ByteArray) (list:List S51) (id:ByteArray) (maker:ByteArray):Option (List S51 × Int) :=
 (spec_l09Find.f k list id).bind fun q1=>if q1.2.2.2.2.2.2=τ then (if q1.2.1.toList=maker.toList then (if q1.2.2.2.2.2.1=τ then ((spec_l05Move.f k list ((⟨#[111,114,100,101,114,115]⟩:ByteArray)) maker name q1.2.2.2.2.1).bind fun q2=>if q2.2=0 then ((spec_l09Key.f id).bind fun q3=>(spec_l09Bytes.f k q1.1 q1.2.1 q1.2.2.1 q1.2.2.2.1 0 φ).bind fun q4=>(spec_l03Put.f k q2.1 q3 q4).bind fun q5=>some (q5.1,q5.2)) else (some (list,q2.2))) else (some (list,16))) else (some (list,18))) else (some (list,5))
set_option maxHeartbeats 4000000 in
set_option maxRecDepth 100000 in
theorem spec_l09Cancel.calls (k:Nat) (name:ByteArray) (A_list:Option Addr) (c_list:Nat) (list:List S51) (id:ByteArray) (maker:ByteArray) (r1:List S51) (r2:Int) (w:World) (hr0_list:Kd.C k51 w A_list list.length list) (hc0_list:list.length≤c_list) (h:spec_l09Cancel.f k name list id maker=some (r1,r2)) :
  Calls Tryz.prog 60 #[.string name,.slice A_list list.length c_list,.string id,.string maker] w fun e w' => ∃ v0_:Value,e = .returned (.tuple #[v0_,.int .i64 r2])∧Sf w w' (.slice A_list list.length c_list) list v0_ r1∧Below w.heap.size w w':=by
 have HR0_list:=ζa hr0_list
 have HC0_list:=ζa hc0_list
 clear hr0_list hc0_list
 have HB0:=ζa (Below.refl w.heap.size w)
 unfold spec_l09Cancel.f at h
 have HH:=ζa h
 clear h
 go_enter Tryz.func60,Tryz.ntmps60
 have h:=HH.out
 clear HH
 obtain ⟨⟨u0,u1,u2,u3,u4,u5,found⟩,h1_,h⟩:=Option.bind_eq_some_iff.mp h
 have HH:=ζa h
 have H1:=ζa h1_
 clear h h1_
 go_wp2_with fail
 refine (spec_l09Find.calls k A_list c_list list id u0 u1 u2 u3 u4 u5 found _ (by repeat (exact Kd.C_below HR0_list.out HB0.out)) HC0_list.out H1.out).mono ?_
 rintro e w1 ⟨rfl,hb⟩
 have m_:=ζa (δr (by repeat (exact HB0.out)) hb)
 clear hb
 have HB1:=m_
 clear m_
 have h:=HH.out
 clear HH
 cases found with
 | true =>
  rw [if_pos rfl] at h
  have HH:=ζa h
  clear h
  have h:=HH.out
  clear HH
  by_cases cc3:u1.toList=maker.toList
  ·
   rw [if_pos cc3] at h
   have HH:=ζa h
   clear h
   have f3a:(u1.toList == maker.toList)=τ:=beq_iff_eq.mpr cc3
   have f3b:(u1.toList != maker.toList)=φ:=bne_eq_false_iff_eq.mpr cc3
   have C3:=ζa cc3
   clear cc3
   have h:=HH.out
   clear HH
   cases u5 with
   | true =>
    rw [if_pos rfl] at h
    have HH:=ζa h
    clear h
    have h:=HH.out
    clear HH
    obtain ⟨⟨o1,c1⟩,h7_,h⟩:=Option.bind_eq_some_iff.mp h
    have HH:=ζa h
    have H7:=ζa h7_
    clear h h7_
    go_wp2_with (first|((with_reducible refine δx (N:=10) rfl ?_);refine δz ?hg (N:=10) ?hd (cs:=#[.string (⟨#[]⟩:ByteArray),.string (⟨#[]⟩:ByteArray),.int .i64 0,.int .i64 0,.int .i64 0,.bool φ]) (t:=66) ?hr ?_;(case hd=>rfl);(case hg=>rfl);(case hr=>(go_simp;done));intro gbo hg w5 hbox hb;have hbc:=δr (show Below w1.heap.size w1 _ from by repeat (exact Below.refl _ _)) hb;have GEo:Aside0 (w1.heap.size≤gbo):=⟨by rw [hg];exact Below.size (show Below w1.heap.size w1 _ from by repeat (exact Below.refl _ _))⟩;have GWo:Aside0 (w.heap.size≤gbo):=⟨Nat.le_trans HB1.out.size GEo.out⟩;have BKZ:=ζa hbox;have HBZ:=ζa hbc;have hzz:=hbox;clear hb hbc hbox hg;have hzo_0:=(δl BKZ.out 0).trans rfl;have hzo_1:=(δl BKZ.out 1).trans rfl;have hzo_2:=(δl BKZ.out 2).trans rfl;have hzo_3:=(δl BKZ.out 3).trans rfl;have hzo_4:=(δl BKZ.out 4).trans rfl;have hzo_5:=(δl BKZ.out 5).trans rfl;have hfo_0:=δm BKZ.out 0;have hfo_1:=δm BKZ.out 1;have hfo_2:=δm BKZ.out 2;have hfo_3:=δm BKZ.out 3;have hfo_4:=δm BKZ.out 4;have hfo_5:=δm BKZ.out 5;clear hzz)|((with_reducible refine gate_store (t:=66) (p:=10) rfl ?_);refine store_event (t:=66) (p:=10) (v:=?vo5) (w1:=((((((w5.setCell ⟨gbo,0,none⟩ (.string u0)).setCell ⟨gbo,1,none⟩ (.string u1)).setCell ⟨gbo,2,none⟩ (.int .i64 u2)).setCell ⟨gbo,3,none⟩ (.int .i64 u3)).setCell ⟨gbo,4,none⟩ (.int .i64 u4)).setCell ⟨gbo,5,none⟩ (.bool τ))) ?hg ?ho ?hn ?hr ?_;(case ho=>rfl);(case hg=>rfl);(case hn=>rfl);(case hr=>(go_simp;done));intro w6 hw;have hbc:Below w1.heap.size w1 w6:=(by rw [hw];exact (δq (δq (δq (δq (δq (δq HBZ.out GEo.out) GEo.out) GEo.out) GEo.out) GEo.out) GEo.out));have BKo:Aside0 (w6.heap[gbo]? = some (.cells #[.string u0,.string u1,.int .i64 u2,.int .i64 u3,.int .i64 u4,.bool τ] 66 (0,0))):=⟨by rw [hw];exact (δw (δw (δw (δw (δw (δw BKZ.out 0 _ rfl) 1 _ rfl) 2 _ rfl) 3 _ rfl) 4 _ rfl) 5 _ rfl)⟩;have m_:=ζa (δr HB1.out hbc);have HB5:=m_;clear m_;clear hbc hw BKZ HBZ;clear hzo_0 hfo_0 hzo_1 hfo_1 hzo_2 hfo_2 hzo_3 hfo_3 hzo_4 hfo_4 hzo_5 hfo_5;have hzo_0:=(δl BKo.out 0).trans rfl;have hzo_1:=(δl BKo.out 1).trans rfl;have hzo_2:=(δl BKo.out 2).trans rfl;have hzo_3:=(δl BKo.out 3).trans rfl;have hzo_4:=(δl BKo.out 4).trans rfl;have hzo_5:=(δl BKo.out 5).trans rfl;have hfo_0:=δm BKo.out 0;have hfo_1:=δm BKo.out 1;have hfo_2:=δm BKo.out 2;have hfo_3:=δm BKo.out 3;have hfo_4:=δm BKo.out 4;have hfo_5:=δm BKo.out 5))
    refine (spec_l05Move.calls k A_list c_list list ((⟨#[111,114,100,101,114,115]⟩:ByteArray)) maker name u4 o1 c1 _ (by repeat (exact Kd.C_below HR0_list.out HB5.out)) HC0_list.out H7.out).mono ?_
    rintro e w7 ⟨v7,rfl,ho,hb⟩
    have hsf:=Sf.trans (by exact ⟨Or.inl ⟨rfl,rfl⟩⟩) ho hb (Below.size (show Below w.heap.size w _ from by repeat (exact HB5.out)))
    have m_:=ζa (blk_below (by repeat (exact BKo.out)) hb)
    clear BKo
    have BKo:=m_
    clear m_
    clear hzo_0 hfo_0 hzo_1 hfo_1 hzo_2 hfo_2 hzo_3 hfo_3 hzo_4 hfo_4 hzo_5 hfo_5
    obtain ⟨adr7,cap7,rfl,hl7,hq7⟩:=Sf.reads ho (Kd.C_below HR0_list.out (δr (by repeat (exact HB5.out)) hb)) HC0_list.out
    have HC7:=ζa hl7
    have HRn7:=ζa hq7
    have HS7:=ζa hsf
    clear hl7 hq7 ho hsf
    have m_:=ζa (δr (by repeat (exact HB5.out)) hb)
    clear hb
    have HB7:=m_
    clear m_
    have hzo_0:=(δl BKo.out 0).trans rfl
    have hfo_0:=δm BKo.out 0
    have hzo_1:=(δl BKo.out 1).trans rfl
    have hfo_1:=δm BKo.out 1
    have hzo_2:=(δl BKo.out 2).trans rfl
    have hfo_2:=δm BKo.out 2
    have hzo_3:=(δl BKo.out 3).trans rfl
    have hfo_3:=δm BKo.out 3
    have hzo_4:=(δl BKo.out 4).trans rfl
    have hfo_4:=δm BKo.out 4
    have hzo_5:=(δl BKo.out 5).trans rfl
    have hfo_5:=δm BKo.out 5
    have h:=HH.out
    clear HH
    by_cases cc8:c1=0
    ·
     rw [if_pos cc8] at h
     have HH:=ζa h
     clear h
     have f8a:(c1 == 0)=τ:=beq_iff_eq.mpr cc8
     have f8b:(c1 != 0)=φ:=bne_eq_false_iff_eq.mpr cc8
     have C8:=ζa cc8
     clear cc8
     have h:=HH.out
     clear HH
     obtain ⟨k2,h11_,h⟩:=Option.bind_eq_some_iff.mp h
     have HH:=ζa h
     have H11:=ζa h11_
     clear h h11_
     have h:=HH.out
     clear HH
     obtain ⟨y2,h12_,h⟩:=Option.bind_eq_some_iff.mp h
     have HH:=ζa h
     have H12:=ζa h12_
     clear h h12_
     have h:=HH.out
     clear HH
     obtain ⟨⟨o2,c2⟩,h13_,h⟩:=Option.bind_eq_some_iff.mp h
     have HH:=ζa h
     have H13:=ζa h13_
     clear h h13_
     go_wp2_with (first|((with_reducible refine gate_store (t:=3) (p:=48) rfl ?_);refine store_event (t:=3) (p:=48) (v:=?vo9) (w1:=(w7.setCell ⟨gbo,4,none⟩ (.int .i64 0))) ?hg ?ho ?hn ?hr ?_;(case ho=>rfl);(case hg=>rfl);(case hn=>rfl);(case hr=>(go_simp;done));intro w9 hw;have m_:Aside0 (Sf w w9 _ _ _ _):=⟨by rw [hw];exact Sf.set HS7.out BKo.out (by decide) 4 _⟩;clear HS7;have HS7:=m_;clear m_;have HB9:Aside0 (Below w.heap.size w w9):=⟨by rw [hw];exact δq HB7.out GWo.out⟩;have m_:=ζa (Sf.row HS7.out (Kd.C_below HR0_list.out HB9.out));clear HRn7;have HRn7:=m_;clear m_;have m_:Aside0 (w9.heap[gbo]? = some (.cells #[.string u0,.string u1,.int .i64 u2,.int .i64 u3,.int .i64 0,.bool τ] 66 (0,0))):=⟨by rw [hw];exact δw BKo.out 4 _ rfl⟩;have no_:=m_;clear m_;clear BKo;have BKo:=no_;clear no_;clear hw;clear hzo_0 hfo_0 hzo_1 hfo_1 hzo_2 hfo_2 hzo_3 hfo_3 hzo_4 hfo_4 hzo_5 hfo_5;have hzo_0:=(δl BKo.out 0).trans rfl;have hzo_1:=(δl BKo.out 1).trans rfl;have hzo_2:=(δl BKo.out 2).trans rfl;have hzo_3:=(δl BKo.out 3).trans rfl;have hzo_4:=(δl BKo.out 4).trans rfl;have hzo_5:=(δl BKo.out 5).trans rfl;have hfo_0:=δm BKo.out 0;have hfo_1:=δm BKo.out 1;have hfo_2:=δm BKo.out 2;have hfo_3:=δm BKo.out 3;have hfo_4:=δm BKo.out 4;have hfo_5:=δm BKo.out 5)|((with_reducible refine gate_store (t:=4) (p:=49) rfl ?_);refine store_event (t:=4) (p:=49) (v:=?vo10) (w1:=(w9.setCell ⟨gbo,5,none⟩ (.bool φ))) ?hg ?ho ?hn ?hr ?_;(case ho=>rfl);(case hg=>rfl);(case hn=>rfl);(case hr=>(go_simp;done));intro w10 hw;have m_:Aside0 (Sf w w10 _ _ _ _):=⟨by rw [hw];exact Sf.set HS7.out BKo.out (by decide) 5 _⟩;clear HS7;have HS7:=m_;clear m_;have HB10:Aside0 (Below w.heap.size w w10):=⟨by rw [hw];exact δq HB9.out GWo.out⟩;have m_:=ζa (Sf.row HS7.out (Kd.C_below HR0_list.out HB10.out));clear HRn7;have HRn7:=m_;clear m_;have m_:Aside0 (w10.heap[gbo]? = some (.cells #[.string u0,.string u1,.int .i64 u2,.int .i64 u3,.int .i64 0,.bool φ] 66 (0,0))):=⟨by rw [hw];exact δw BKo.out 5 _ rfl⟩;have no_:=m_;clear m_;clear BKo;have BKo:=no_;clear no_;clear hw;clear hzo_0 hfo_0 hzo_1 hfo_1 hzo_2 hfo_2 hzo_3 hfo_3 hzo_4 hfo_4 hzo_5 hfo_5;have hzo_0:=(δl BKo.out 0).trans rfl;have hzo_1:=(δl BKo.out 1).trans rfl;have hzo_2:=(δl BKo.out 2).trans rfl;have hzo_3:=(δl BKo.out 3).trans rfl;have hzo_4:=(δl BKo.out 4).trans rfl;have hzo_5:=(δl BKo.out 5).trans rfl;have hfo_0:=δm BKo.out 0;have hfo_1:=δm BKo.out 1;have hfo_2:=δm BKo.out 2;have hfo_3:=δm BKo.out 3;have hfo_4:=δm BKo.out 4;have hfo_5:=δm BKo.out 5))
     have HBr:=ζa HB10.out
     go_region_held3 (fun w'=>w'.cell? ⟨gbo,0,none⟩=some (.string u0)∧w'.cell? ⟨gbo,1,none⟩=some (.string u1)∧w'.cell? ⟨gbo,2,none⟩=some (.int .i64 u2)∧w'.cell? ⟨gbo,3,none⟩=some (.int .i64 u3)∧w'.cell? ⟨gbo,4,none⟩=some (.int .i64 0)∧w'.cell? ⟨gbo,5,none⟩=some (.bool φ)) (first|go_keep|exact ⟨(δl (by repeat (exact BKo.out)) 0).trans rfl,(δl (by repeat (exact BKo.out)) 1).trans rfl,(δl (by repeat (exact BKo.out)) 2).trans rfl,(δl (by repeat (exact BKo.out)) 3).trans rfl,(δl (by repeat (exact BKo.out)) 4).trans rfl,(δl (by repeat (exact BKo.out)) 5).trans rfl⟩)
      (first
       | (go_at_call 103;refine (spec_l09Key.calls id k2 _ H11.out).mono ?_;rintro e w' ⟨rfl,⟨q',rfl⟩⟩)
       | (go_at_call 105;refine (spec_l09Bytes.calls k u0 u1 u2 u3 0 φ y2 _ H12.out).mono ?_;rintro e w12 ⟨rfl,hb⟩;have m_:=ζa (blk_below (by repeat (first|exact BKo.out|apply δo|apply δp|apply δn)) hb);clear BKo;have BKo:=m_;clear m_;have m_:=ζa (Kd.C_below (by repeat (first|exact HRn7.out|apply Kd.C_alloc|apply Kd.C_drew|apply Kd.C_drewN)) hb);clear HRn7;have HRn7:=m_;clear m_;have m_:=ζa (Sf.below (by repeat (first|exact HS7.out|apply Sf.alloc|apply Sf.drew|apply Sf.drewN)) hb);clear HS7;have HS7:=m_;clear m_;have m_:=ζa (δr (by repeat (first|exact HBr.out|apply δk|apply δj|apply δi)) hb);clear HBr;have HBr:=m_;clear m_;clear hb)
       | (go_at_call 104;refine (spec_l03Put.calls k adr7 cap7 o1 k2 y2 o2 c2 _ (by repeat (first|exact HRn7.out|apply Kd.C_alloc|apply Kd.C_drew|apply Kd.C_drewN)) HC7.out H13.out).mono ?_;rintro e w13 ⟨v13,rfl,ho,hb⟩;have hsf:=Sf.trans (by repeat (first|exact HS7.out|apply Sf.alloc|apply Sf.drew|apply Sf.drewN)) ho hb (Below.size (show Below w.heap.size w _ from by repeat (first|exact HBr.out|apply δk|apply δj|apply δi)));have m_:=ζa (blk_below (by repeat (first|exact BKo.out|apply δo|apply δp|apply δn)) hb);clear BKo;have BKo:=m_;clear m_;have m_:=ζa (Kd.C_below (by repeat (first|exact HRn7.out|apply Kd.C_alloc|apply Kd.C_drew|apply Kd.C_drewN)) hb);clear HRn7;have HRn7:=m_;clear m_;have m_:=ζa (Sf.below (by repeat (first|exact HS7.out|apply Sf.alloc|apply Sf.drew|apply Sf.drewN)) hb);clear HS7;have HS7:=m_;clear m_;have m_:=ζa (δr (by repeat (first|exact HBr.out|apply δk|apply δj|apply δi)) hb);clear HBr;have HBr:=m_;clear m_;obtain ⟨adr13,cap13,rfl,hl13,hq13⟩:=Sf.reads ho (HRn7.out) HC7.out;have HC13:=ζa hl13;have HRn13:=ζa hq13;have HS13:=ζa hsf;clear hl13 hq13 ho hsf;clear hb))
     all_goals
      clear hzo_0 hfo_0 hzo_1 hfo_1 hzo_2 hfo_2 hzo_3 hfo_3 hzo_4 hfo_4 hzo_5 hfo_5
      have hzo_0:=(δl BKo.out 0).trans rfl
      have hfo_0:=δm BKo.out 0
      have hzo_1:=(δl BKo.out 1).trans rfl
      have hfo_1:=δm BKo.out 1
      have hzo_2:=(δl BKo.out 2).trans rfl
      have hfo_2:=δm BKo.out 2
      have hzo_3:=(δl BKo.out 3).trans rfl
      have hfo_3:=δm BKo.out 3
      have hzo_4:=(δl BKo.out 4).trans rfl
      have hfo_4:=δm BKo.out 4
      have hzo_5:=(δl BKo.out 5).trans rfl
      have hfo_5:=δm BKo.out 5
      have h:=HH.out
      clear HH
      simp only [Option.some.injEq,Prod.mk.injEq] at h
      obtain ⟨rfl,rfl⟩:=h
      go_wp2
      go_ret2
      exact ⟨_,rfl,(by repeat (exact HS13.out)),(by repeat (exact HBr.out))⟩
    ·
     rw [if_neg cc8] at h
     have HH:=ζa h
     clear h
     have f8a:(c1 == 0)=φ:=beq_eq_false_iff_ne.mpr cc8
     have f8b:(c1 != 0)=τ:=bne_iff_ne.mpr cc8
     have C8:=ζa cc8
     clear cc8
     have h:=HH.out
     clear HH
     simp only [Option.some.injEq,Prod.mk.injEq] at h
     obtain ⟨rfl,rfl⟩:=h
     go_wp2
     go_ret2
     exact ⟨_,rfl,⟨Or.inl ⟨rfl,rfl⟩⟩,(by repeat (first|exact HB7.out|apply δk|apply δj|apply δi))⟩
   | false =>
    rw [if_neg (by decide)] at h
    have HH:=ζa h
    clear h
    have h:=HH.out
    clear HH
    simp only [Option.some.injEq,Prod.mk.injEq] at h
    obtain ⟨rfl,rfl⟩:=h
    go_wp2_with (first|((with_reducible refine δx (N:=10) rfl ?_);refine δz ?hg (N:=10) ?hd (cs:=#[.string (⟨#[]⟩:ByteArray),.string (⟨#[]⟩:ByteArray),.int .i64 0,.int .i64 0,.int .i64 0,.bool φ]) (t:=66) ?hr ?_;(case hd=>rfl);(case hg=>rfl);(case hr=>(go_simp;done));intro gbo hg w14 hbox hb;have hbc:=δr (show Below w1.heap.size w1 _ from by repeat (exact Below.refl _ _)) hb;have GEo:Aside0 (w1.heap.size≤gbo):=⟨by rw [hg];exact Below.size (show Below w1.heap.size w1 _ from by repeat (exact Below.refl _ _))⟩;have GWo:Aside0 (w.heap.size≤gbo):=⟨Nat.le_trans HB1.out.size GEo.out⟩;have BKZ:=ζa hbox;have HBZ:=ζa hbc;have hzz:=hbox;clear hb hbc hbox hg;have hzo_0:=(δl BKZ.out 0).trans rfl;have hzo_1:=(δl BKZ.out 1).trans rfl;have hzo_2:=(δl BKZ.out 2).trans rfl;have hzo_3:=(δl BKZ.out 3).trans rfl;have hzo_4:=(δl BKZ.out 4).trans rfl;have hzo_5:=(δl BKZ.out 5).trans rfl;have hfo_0:=δm BKZ.out 0;have hfo_1:=δm BKZ.out 1;have hfo_2:=δm BKZ.out 2;have hfo_3:=δm BKZ.out 3;have hfo_4:=δm BKZ.out 4;have hfo_5:=δm BKZ.out 5;clear hzz)|((with_reducible refine gate_store (t:=66) (p:=10) rfl ?_);refine store_event (t:=66) (p:=10) (v:=?vo14) (w1:=((((((w14.setCell ⟨gbo,0,none⟩ (.string u0)).setCell ⟨gbo,1,none⟩ (.string u1)).setCell ⟨gbo,2,none⟩ (.int .i64 u2)).setCell ⟨gbo,3,none⟩ (.int .i64 u3)).setCell ⟨gbo,4,none⟩ (.int .i64 u4)).setCell ⟨gbo,5,none⟩ (.bool φ))) ?hg ?ho ?hn ?hr ?_;(case ho=>rfl);(case hg=>rfl);(case hn=>rfl);(case hr=>(go_simp;done));intro w15 hw;have hbc:Below w1.heap.size w1 w15:=(by rw [hw];exact (δq (δq (δq (δq (δq (δq HBZ.out GEo.out) GEo.out) GEo.out) GEo.out) GEo.out) GEo.out));have BKo:Aside0 (w15.heap[gbo]? = some (.cells #[.string u0,.string u1,.int .i64 u2,.int .i64 u3,.int .i64 u4,.bool φ] 66 (0,0))):=⟨by rw [hw];exact (δw (δw (δw (δw (δw (δw BKZ.out 0 _ rfl) 1 _ rfl) 2 _ rfl) 3 _ rfl) 4 _ rfl) 5 _ rfl)⟩;have m_:=ζa (δr HB1.out hbc);have HB14:=m_;clear m_;clear hbc hw BKZ HBZ;clear hzo_0 hfo_0 hzo_1 hfo_1 hzo_2 hfo_2 hzo_3 hfo_3 hzo_4 hfo_4 hzo_5 hfo_5;have hzo_0:=(δl BKo.out 0).trans rfl;have hzo_1:=(δl BKo.out 1).trans rfl;have hzo_2:=(δl BKo.out 2).trans rfl;have hzo_3:=(δl BKo.out 3).trans rfl;have hzo_4:=(δl BKo.out 4).trans rfl;have hzo_5:=(δl BKo.out 5).trans rfl;have hfo_0:=δm BKo.out 0;have hfo_1:=δm BKo.out 1;have hfo_2:=δm BKo.out 2;have hfo_3:=δm BKo.out 3;have hfo_4:=δm BKo.out 4;have hfo_5:=δm BKo.out 5))
    go_ret2
    exact ⟨_,rfl,⟨Or.inl ⟨rfl,rfl⟩⟩,(by repeat (exact HB14.out))⟩
  ·
   rw [if_neg cc3] at h
   have HH:=ζa h
   clear h
   have f3a:(u1.toList == maker.toList)=φ:=beq_eq_false_iff_ne.mpr cc3
   have f3b:(u1.toList != maker.toList)=τ:=bne_iff_ne.mpr cc3
   have C3:=ζa cc3
   clear cc3
   have h:=HH.out
   clear HH
   simp only [Option.some.injEq,Prod.mk.injEq] at h
   obtain ⟨rfl,rfl⟩:=h
   go_wp2_with (first|((with_reducible refine δx (N:=10) rfl ?_);refine δz ?hg (N:=10) ?hd (cs:=#[.string (⟨#[]⟩:ByteArray),.string (⟨#[]⟩:ByteArray),.int .i64 0,.int .i64 0,.int .i64 0,.bool φ]) (t:=66) ?hr ?_;(case hd=>rfl);(case hg=>rfl);(case hr=>(go_simp;done));intro gbo hg w16 hbox hb;have hbc:=δr (show Below w1.heap.size w1 _ from by repeat (exact Below.refl _ _)) hb;have GEo:Aside0 (w1.heap.size≤gbo):=⟨by rw [hg];exact Below.size (show Below w1.heap.size w1 _ from by repeat (exact Below.refl _ _))⟩;have GWo:Aside0 (w.heap.size≤gbo):=⟨Nat.le_trans HB1.out.size GEo.out⟩;have BKZ:=ζa hbox;have HBZ:=ζa hbc;have hzz:=hbox;clear hb hbc hbox hg;have hzo_0:=(δl BKZ.out 0).trans rfl;have hzo_1:=(δl BKZ.out 1).trans rfl;have hzo_2:=(δl BKZ.out 2).trans rfl;have hzo_3:=(δl BKZ.out 3).trans rfl;have hzo_4:=(δl BKZ.out 4).trans rfl;have hzo_5:=(δl BKZ.out 5).trans rfl;have hfo_0:=δm BKZ.out 0;have hfo_1:=δm BKZ.out 1;have hfo_2:=δm BKZ.out 2;have hfo_3:=δm BKZ.out 3;have hfo_4:=δm BKZ.out 4;have hfo_5:=δm BKZ.out 5;clear hzz)|((with_reducible refine gate_store (t:=66) (p:=10) rfl ?_);refine store_event (t:=66) (p:=10) (v:=?vo16) (w1:=((((((w16.setCell ⟨gbo,0,none⟩ (.string u0)).setCell ⟨gbo,1,none⟩ (.string u1)).setCell ⟨gbo,2,none⟩ (.int .i64 u2)).setCell ⟨gbo,3,none⟩ (.int .i64 u3)).setCell ⟨gbo,4,none⟩ (.int .i64 u4)).setCell ⟨gbo,5,none⟩ (.bool u5))) ?hg ?ho ?hn ?hr ?_;(case ho=>rfl);(case hg=>rfl);(case hn=>rfl);(case hr=>(go_simp;done));intro w17 hw;have hbc:Below w1.heap.size w1 w17:=(by rw [hw];exact (δq (δq (δq (δq (δq (δq HBZ.out GEo.out) GEo.out) GEo.out) GEo.out) GEo.out) GEo.out));have BKo:Aside0 (w17.heap[gbo]? = some (.cells #[.string u0,.string u1,.int .i64 u2,.int .i64 u3,.int .i64 u4,.bool u5] 66 (0,0))):=⟨by rw [hw];exact (δw (δw (δw (δw (δw (δw BKZ.out 0 _ rfl) 1 _ rfl) 2 _ rfl) 3 _ rfl) 4 _ rfl) 5 _ rfl)⟩;have m_:=ζa (δr HB1.out hbc);have HB16:=m_;clear m_;clear hbc hw BKZ HBZ;clear hzo_0 hfo_0 hzo_1 hfo_1 hzo_2 hfo_2 hzo_3 hfo_3 hzo_4 hfo_4 hzo_5 hfo_5;have hzo_0:=(δl BKo.out 0).trans rfl;have hzo_1:=(δl BKo.out 1).trans rfl;have hzo_2:=(δl BKo.out 2).trans rfl;have hzo_3:=(δl BKo.out 3).trans rfl;have hzo_4:=(δl BKo.out 4).trans rfl;have hzo_5:=(δl BKo.out 5).trans rfl;have hfo_0:=δm BKo.out 0;have hfo_1:=δm BKo.out 1;have hfo_2:=δm BKo.out 2;have hfo_3:=δm BKo.out 3;have hfo_4:=δm BKo.out 4;have hfo_5:=δm BKo.out 5))
   go_ret2
   exact ⟨_,rfl,⟨Or.inl ⟨rfl,rfl⟩⟩,(by repeat (first|exact HB16.out|apply δk|apply δj|apply δi))⟩
 | false =>
  rw [if_neg (by decide)] at h
  have HH:=ζa h
  clear h
  have h:=HH.out
  clear HH
  simp only [Option.some.injEq,Prod.mk.injEq] at h
  obtain ⟨rfl,rfl⟩:=h
  go_wp2_with (first|((with_reducible refine δx (N:=10) rfl ?_);refine δz ?hg (N:=10) ?hd (cs:=#[.string (⟨#[]⟩:ByteArray),.string (⟨#[]⟩:ByteArray),.int .i64 0,.int .i64 0,.int .i64 0,.bool φ]) (t:=66) ?hr ?_;(case hd=>rfl);(case hg=>rfl);(case hr=>(go_simp;done));intro gbo hg w18 hbox hb;have hbc:=δr (show Below w1.heap.size w1 _ from by repeat (exact Below.refl _ _)) hb;have GEo:Aside0 (w1.heap.size≤gbo):=⟨by rw [hg];exact Below.size (show Below w1.heap.size w1 _ from by repeat (exact Below.refl _ _))⟩;have GWo:Aside0 (w.heap.size≤gbo):=⟨Nat.le_trans HB1.out.size GEo.out⟩;have BKZ:=ζa hbox;have HBZ:=ζa hbc;have hzz:=hbox;clear hb hbc hbox hg;have hzo_0:=(δl BKZ.out 0).trans rfl;have hzo_1:=(δl BKZ.out 1).trans rfl;have hzo_2:=(δl BKZ.out 2).trans rfl;have hzo_3:=(δl BKZ.out 3).trans rfl;have hzo_4:=(δl BKZ.out 4).trans rfl;have hzo_5:=(δl BKZ.out 5).trans rfl;have hfo_0:=δm BKZ.out 0;have hfo_1:=δm BKZ.out 1;have hfo_2:=δm BKZ.out 2;have hfo_3:=δm BKZ.out 3;have hfo_4:=δm BKZ.out 4;have hfo_5:=δm BKZ.out 5;clear hzz)|((with_reducible refine gate_store (t:=66) (p:=10) rfl ?_);refine store_event (t:=66) (p:=10) (v:=?vo18) (w1:=((((((w18.setCell ⟨gbo,0,none⟩ (.string u0)).setCell ⟨gbo,1,none⟩ (.string u1)).setCell ⟨gbo,2,none⟩ (.int .i64 u2)).setCell ⟨gbo,3,none⟩ (.int .i64 u3)).setCell ⟨gbo,4,none⟩ (.int .i64 u4)).setCell ⟨gbo,5,none⟩ (.bool u5))) ?hg ?ho ?hn ?hr ?_;(case ho=>rfl);(case hg=>rfl);(case hn=>rfl);(case hr=>(go_simp;done));intro w19 hw;have hbc:Below w1.heap.size w1 w19:=(by rw [hw];exact (δq (δq (δq (δq (δq (δq HBZ.out GEo.out) GEo.out) GEo.out) GEo.out) GEo.out) GEo.out));have BKo:Aside0 (w19.heap[gbo]? = some (.cells #[.string u0,.string u1,.int .i64 u2,.int .i64 u3,.int .i64 u4,.bool u5] 66 (0,0))):=⟨by rw [hw];exact (δw (δw (δw (δw (δw (δw BKZ.out 0 _ rfl) 1 _ rfl) 2 _ rfl) 3 _ rfl) 4 _ rfl) 5 _ rfl)⟩;have m_:=ζa (δr HB1.out hbc);have HB18:=m_;clear m_;clear hbc hw BKZ HBZ;clear hzo_0 hfo_0 hzo_1 hfo_1 hzo_2 hfo_2 hzo_3 hfo_3 hzo_4 hfo_4 hzo_5 hfo_5;have hzo_0:=(δl BKo.out 0).trans rfl;have hzo_1:=(δl BKo.out 1).trans rfl;have hzo_2:=(δl BKo.out 2).trans rfl;have hzo_3:=(δl BKo.out 3).trans rfl;have hzo_4:=(δl BKo.out 4).trans rfl;have hzo_5:=(δl BKo.out 5).trans rfl;have hfo_0:=δm BKo.out 0;have hfo_1:=δm BKo.out 1;have hfo_2:=δm BKo.out 2;have hfo_3:=δm BKo.out 3;have hfo_4:=δm BKo.out 4;have hfo_5:=δm BKo.out 5))
  go_ret2
  exact ⟨_,rfl,⟨Or.inl ⟨rfl,rfl⟩⟩,(by repeat (exact HB18.out))⟩


open Go.Proofs.YtabmfhnhmoiljaaGreatDoorW.PrintWords renaming gate_dst → δx, below_step → δr

/-! ### spec_CancelOrder: function 31 -/
def spec_CancelOrder.f (k:Nat) (name:ByteArray) (list:List S51) (id:ByteArray) (maker:ByteArray):Option (List S51 × Int) :=
 if (65536:Int)<(name.size:Int) then (some (([]:List S51),2)) else (if (4096:Int)<(list.length:Int) then (some (([]:List S51),2)) else (if (65536:Int)<(id.size:Int) then (some (([]:List S51),2)) else (if (65536:Int)<(maker.size:Int) then (some (([]:List S51),2)) else ((spec_l09Ask.f k list id).bind fun q1=>if q1=0 then (if name.toList=([120]:List UInt8) then ((spec_l09Cancel.f k name list id maker).bind fun q2=>if q2.1.length≤1000000 then (some (q2.1,q2.2)) else (none)) else (if name.toList=([121]:List UInt8) then ((spec_l09Cancel.f k name list id maker).bind fun q3=>if q3.1.length≤1000000 then (some (q3.1,q3.2)) else (none)) else (some (([]:List S51),1)))) else (some (([]:List S51),q1))))))
set_option maxHeartbeats 4000000 in
set_option maxRecDepth 100000 in
theorem spec_CancelOrder.calls (k:Nat) (name:ByteArray) (A_list:Option Addr) (c_list:Nat) (list:List S51) (id:ByteArray) (maker:ByteArray) (r1:List S51) (r2:Int) (w:World) (hr0_list:Kd.C k51 w A_list list.length list) (hc0_list:list.length≤c_list) (h:spec_CancelOrder.f k name list id maker=some (r1,r2)) :
  Calls Tryz.prog 31 #[.string name,.slice A_list list.length c_list,.string id,.string maker] w fun e w' => ∃ v0_:Value,e = .returned (.tuple #[v0_,.int .i64 r2])∧Kd.R k51 51 w' w.heap.size (fun _=>True) v0_ r1∧Below w.heap.size w w':=by
 have HR0_list:=ζa hr0_list
 have HC0_list:=ζa hc0_list
 clear hr0_list hc0_list
 have HB0:=ζa (Below.refl w.heap.size w)
 unfold spec_CancelOrder.f at h
 have HH:=ζa h
 clear h
 go_enter Tryz.func31,Tryz.ntmps31
 have h:=HH.out
 clear HH
 by_cases cc1:(65536:Int)<(name.size:Int)
 ·
  rw [if_pos cc1] at h
  have HH:=ζa h
  clear h
  have f1a:decide ((65536:Int)<(name.size:Int))=τ:=decide_eq_true cc1
  have f1b:decide (65536<name.size)=τ:=decide_eq_true (by omega)
  have C1:=ζa cc1
  clear cc1
  have h:=HH.out
  clear HH
  simp only [Option.some.injEq,Prod.mk.injEq] at h
  obtain ⟨rfl,rfl⟩:=h
  go_wp2_with (((with_reducible refine δx (N:=26) rfl ?_);refine Kd.R_lit k51 w.heap.size 51 ?hg (N:=26) ?hd (w0:=w) (xs:=([]:List S51)) (inner:=[]) (ok:=fun _=>True) (okp:=fun _=>True) ?hr ?hp (fun _ hk=>hk) trivial (by repeat (exact Below.refl _ _)) (Below.size (show Below w.heap.size w _ from by repeat (exact Below.refl _ _))) (by simp) ?_;(case hd=>rfl);(case hg=>rfl);(case hr=>(go_simp;done));(case hp=>exact (Reps.none _ _));intro vL wL hoL hbL hg_ hnew_;clear hg_ hnew_;have HOL:=ζa hoL;have HBL:=ζa hbL;clear hoL hbL))
  have HBF:=ζa (δr HB0.out HBL.out)
  go_ret2
  exact ⟨_,rfl,(by have:=Kd.R_lower HOL.out HB0.out.size;repeat (exact this)),(by repeat (exact HBF.out))⟩
 ·
  rw [if_neg cc1] at h
  have HH:=ζa h
  clear h
  have f1a:decide ((65536:Int)<(name.size:Int))=φ:=decide_eq_false cc1
  have f1b:decide (65536<name.size)=φ:=decide_eq_false (by omega)
  have C1:=ζa cc1
  clear cc1
  have h:=HH.out
  clear HH
  by_cases cc2:(4096:Int)<(list.length:Int)
  ·
   rw [if_pos cc2] at h
   have HH:=ζa h
   clear h
   have f2a:decide ((4096:Int)<(list.length:Int))=τ:=decide_eq_true cc2
   have f2b:decide (4096<list.length)=τ:=decide_eq_true (by omega)
   have C2:=ζa cc2
   clear cc2
   have h:=HH.out
   clear HH
   simp only [Option.some.injEq,Prod.mk.injEq] at h
   obtain ⟨rfl,rfl⟩:=h
   go_wp2_with (((with_reducible refine δx (N:=26) rfl ?_);refine Kd.R_lit k51 w.heap.size 51 ?hg (N:=26) ?hd (w0:=w) (xs:=([]:List S51)) (inner:=[]) (ok:=fun _=>True) (okp:=fun _=>True) ?hr ?hp (fun _ hk=>hk) trivial (by repeat (exact Below.refl _ _)) (Below.size (show Below w.heap.size w _ from by repeat (exact Below.refl _ _))) (by simp) ?_;(case hd=>rfl);(case hg=>rfl);(case hr=>(go_simp;done));(case hp=>exact (Reps.none _ _));intro vL wL hoL hbL hg_ hnew_;clear hg_ hnew_;have HOL:=ζa hoL;have HBL:=ζa hbL;clear hoL hbL))
   have HBF:=ζa (δr HB0.out HBL.out)
   go_ret2
   exact ⟨_,rfl,(by have:=Kd.R_lower HOL.out HB0.out.size;repeat (exact this)),(by repeat (exact HBF.out))⟩
  ·
   rw [if_neg cc2] at h
   have HH:=ζa h
   clear h
   have f2a:decide ((4096:Int)<(list.length:Int))=φ:=decide_eq_false cc2
   have f2b:decide (4096<list.length)=φ:=decide_eq_false (by omega)
   have C2:=ζa cc2
   clear cc2
   have h:=HH.out
   clear HH
   by_cases cc3:(65536:Int)<(id.size:Int)
   ·
    rw [if_pos cc3] at h
    have HH:=ζa h
    clear h
    have f3a:decide ((65536:Int)<(id.size:Int))=τ:=decide_eq_true cc3
    have f3b:decide (65536<id.size)=τ:=decide_eq_true (by omega)
    have C3:=ζa cc3
    clear cc3
    have h:=HH.out
    clear HH
    simp only [Option.some.injEq,Prod.mk.injEq] at h
    obtain ⟨rfl,rfl⟩:=h
    go_wp2_with (((with_reducible refine δx (N:=26) rfl ?_);refine Kd.R_lit k51 w.heap.size 51 ?hg (N:=26) ?hd (w0:=w) (xs:=([]:List S51)) (inner:=[]) (ok:=fun _=>True) (okp:=fun _=>True) ?hr ?hp (fun _ hk=>hk) trivial (by repeat (exact Below.refl _ _)) (Below.size (show Below w.heap.size w _ from by repeat (exact Below.refl _ _))) (by simp) ?_;(case hd=>rfl);(case hg=>rfl);(case hr=>(go_simp;done));(case hp=>exact (Reps.none _ _));intro vL wL hoL hbL hg_ hnew_;clear hg_ hnew_;have HOL:=ζa hoL;have HBL:=ζa hbL;clear hoL hbL))
    have HBF:=ζa (δr HB0.out HBL.out)
    go_ret2
    exact ⟨_,rfl,(by have:=Kd.R_lower HOL.out HB0.out.size;repeat (exact this)),(by repeat (exact HBF.out))⟩
   ·
    rw [if_neg cc3] at h
    have HH:=ζa h
    clear h
    have f3a:decide ((65536:Int)<(id.size:Int))=φ:=decide_eq_false cc3
    have f3b:decide (65536<id.size)=φ:=decide_eq_false (by omega)
    have C3:=ζa cc3
    clear cc3
    have h:=HH.out
    clear HH
    by_cases cc4:(65536:Int)<(maker.size:Int)
    ·
     rw [if_pos cc4] at h
     have HH:=ζa h
     clear h
     have f4a:decide ((65536:Int)<(maker.size:Int))=τ:=decide_eq_true cc4
     have f4b:decide (65536<maker.size)=τ:=decide_eq_true (by omega)
     have C4:=ζa cc4
     clear cc4
     have h:=HH.out
     clear HH
     simp only [Option.some.injEq,Prod.mk.injEq] at h
     obtain ⟨rfl,rfl⟩:=h
     go_wp2_with (((with_reducible refine δx (N:=30) rfl ?_);refine Kd.R_lit k51 w.heap.size 51 ?hg (N:=30) ?hd (w0:=w) (xs:=([]:List S51)) (inner:=[]) (ok:=fun _=>True) (okp:=fun _=>True) ?hr ?hp (fun _ hk=>hk) trivial (by repeat (exact Below.refl _ _)) (Below.size (show Below w.heap.size w _ from by repeat (exact Below.refl _ _))) (by simp) ?_;(case hd=>rfl);(case hg=>rfl);(case hr=>(go_simp;done));(case hp=>exact (Reps.none _ _));intro vL wL hoL hbL hg_ hnew_;clear hg_ hnew_;have HOL:=ζa hoL;have HBL:=ζa hbL;clear hoL hbL))
     have HBF:=ζa (δr HB0.out HBL.out)
     go_ret2
     exact ⟨_,rfl,(by have:=Kd.R_lower HOL.out HB0.out.size;repeat (exact this)),(by repeat (exact HBF.out))⟩
    ·
     rw [if_neg cc4] at h
     have HH:=ζa h
     clear h
     have f4a:decide ((65536:Int)<(maker.size:Int))=φ:=decide_eq_false cc4
     have f4b:decide (65536<maker.size)=φ:=decide_eq_false (by omega)
     have C4:=ζa cc4
     clear cc4
     have h:=HH.out
     clear HH
     obtain ⟨c8,h5_,h⟩:=Option.bind_eq_some_iff.mp h
     have HH:=ζa h
     have H5:=ζa h5_
     clear h h5_
     go_wp2_with fail
     refine (spec_l09Ask.calls k A_list c_list list id c8 _ (by repeat (exact Kd.C_below HR0_list.out HB0.out)) HC0_list.out H5.out).mono ?_
     rintro e w5 ⟨rfl,hb⟩
     have m_:=ζa (δr (by repeat (exact HB0.out)) hb)
     clear hb
     have HB5:=m_
     clear m_
     have h:=HH.out
     clear HH
     by_cases cc6:c8=0
     ·
      rw [if_pos cc6] at h
      have HH:=ζa h
      clear h
      have f6a:(c8 == 0)=τ:=beq_iff_eq.mpr cc6
      have f6b:(c8 != 0)=φ:=bne_eq_false_iff_eq.mpr cc6
      have C6:=ζa cc6
      clear cc6
      have h:=HH.out
      clear HH
      by_cases cc7:name.toList=([120]:List UInt8)
      ·
       rw [if_pos cc7] at h
       have HH:=ζa h
       clear h
       have f7a:(name.toList == ([120]:List UInt8))=τ:=beq_iff_eq.mpr cc7
       have f7b:(name.toList != ([120]:List UInt8))=φ:=bne_eq_false_iff_eq.mpr cc7
       have C7:=ζa cc7
       clear cc7
       have h:=HH.out
       clear HH
       obtain ⟨⟨o9,x1_⟩,h8_,h⟩:=Option.bind_eq_some_iff.mp h
       have HH:=ζa h
       have H8:=ζa h8_
       clear h h8_
       go_wp2_with fail
       refine (spec_l09Cancel.calls k name A_list c_list list id maker o9 x1_ _ (by repeat (exact Kd.C_below HR0_list.out HB5.out)) HC0_list.out H8.out).mono ?_
       rintro e w8 ⟨v8,rfl,ho,hb⟩
       have hsf:=Sf.trans (by exact ⟨Or.inl ⟨rfl,rfl⟩⟩) ho hb (Below.size (show Below w.heap.size w _ from by repeat (exact HB5.out)))
       obtain ⟨adr8,cap8,rfl,hl8,hq8⟩:=Sf.reads ho (Kd.C_below HR0_list.out (δr (by repeat (exact HB5.out)) hb)) HC0_list.out
       have HC8:=ζa hl8
       have HRn8:=ζa hq8
       have HS8:=ζa hsf
       clear hl8 hq8 ho hsf
       have m_:=ζa (δr (by repeat (exact HB5.out)) hb)
       clear hb
       have HB8:=m_
       clear m_
       have h:=HH.out
       clear HH
       by_cases cc9:o9.length≤1000000
       ·
        rw [if_pos cc9] at h
        have HH:=ζa h
        clear h
        have f9a:decide (o9.length≤1000000)=τ:=decide_eq_true cc9
        have C9:=ζa cc9
        clear cc9
        have h:=HH.out
        clear HH
        simp only [Option.some.injEq,Prod.mk.injEq] at h
        obtain ⟨rfl,rfl⟩:=h
        go_wp2_with (first|((with_reducible refine δx (N:=53) rfl ?_);refine Kd.R_lit k51 w8.heap.size 51 ?hg (N:=53) ?hd (w0:=w8) (xs:=([]:List S51)) (inner:=[]) (ok:=fun _=>True) (okp:=fun _=>True) ?hr ?hp (fun _ hk=>hk) trivial (by repeat (exact Below.refl _ _)) (Below.size (show Below w8.heap.size w8 _ from by repeat (exact Below.refl _ _))) (by simp) ?_;(case hd=>rfl);(case hg=>rfl);(case hr=>(go_simp;done));(case hp=>exact (Reps.none _ _));intro vL wL hoL hbL hg_ hnew_;clear hg_ hnew_;have HOL:=ζa hoL;have HBL:=ζa hbL;clear hoL hbL)|((with_reducible refine δx (N:=55) rfl ?_);refine Kd.R_append_rows (w0:=w8) (Rr:=k51.K wL) k51 w8.heap.size ?hg (.tmp 53) (.tmp 54) 24 51 (.agg #[(.string ⟨#[]⟩),(.string ⟨#[]⟩)]) 32 rfl Tryz.underlying24 info51 rfl (by decide) (by decide) vL [] o9 adr8 _ cap8 (fun _=>True) (fun _=>False) rfl rfl HOL.out (Kd.C_below HRn8.out HBL.out) (fun x cs h=>by rw [k51_open h];exact k51_mkM _ _ _ x) (fun _ h=>h.elim) (fun _ _=>trivial) HBL.out HBL.out.size (by have:=C9.out;simp only [List.length_nil];omega) ?_;(case hg=>rfl);intro vM wM hoM hbM hg_ hnew_;clear hg_ hnew_;have HOM:=ζa hoM;have HBM:=ζa hbM;clear hoM hbM))
        have HBF:=ζa (δr HB8.out HBM.out)
        go_ret2
        exact ⟨_,rfl,(by have:=Kd.R_lower HOM.out HB8.out.size;repeat (exact this)),(by repeat (exact HBF.out))⟩
       ·
        rw [if_neg cc9] at h
        have HH:=ζa h
        clear h
        have f9a:decide (o9.length≤1000000)=φ:=decide_eq_false cc9
        have C9:=ζa cc9
        clear cc9
        exact absurd HH.out (by simp)
      ·
       rw [if_neg cc7] at h
       have HH:=ζa h
       clear h
       have f7a:(name.toList == ([120]:List UInt8))=φ:=beq_eq_false_iff_ne.mpr cc7
       have f7b:(name.toList != ([120]:List UInt8))=τ:=bne_iff_ne.mpr cc7
       have C7:=ζa cc7
       clear cc7
       have h:=HH.out
       clear HH
       by_cases cc10:name.toList=([121]:List UInt8)
       ·
        rw [if_pos cc10] at h
        have HH:=ζa h
        clear h
        have f10a:(name.toList == ([121]:List UInt8))=τ:=beq_iff_eq.mpr cc10
        have f10b:(name.toList != ([121]:List UInt8))=φ:=bne_eq_false_iff_eq.mpr cc10
        have C10:=ζa cc10
        clear cc10
        have h:=HH.out
        clear HH
        obtain ⟨⟨o9,x1_⟩,h11_,h⟩:=Option.bind_eq_some_iff.mp h
        have HH:=ζa h
        have H11:=ζa h11_
        clear h h11_
        go_wp2_with fail
        refine (spec_l09Cancel.calls k name A_list c_list list id maker o9 x1_ _ (by repeat (exact Kd.C_below HR0_list.out HB5.out)) HC0_list.out H11.out).mono ?_
        rintro e w11 ⟨v11,rfl,ho,hb⟩
        have hsf:=Sf.trans (by exact ⟨Or.inl ⟨rfl,rfl⟩⟩) ho hb (Below.size (show Below w.heap.size w _ from by repeat (exact HB5.out)))
        obtain ⟨adr11,cap11,rfl,hl11,hq11⟩:=Sf.reads ho (Kd.C_below HR0_list.out (δr (by repeat (exact HB5.out)) hb)) HC0_list.out
        have HC11:=ζa hl11
        have HRn11:=ζa hq11
        have HS11:=ζa hsf
        clear hl11 hq11 ho hsf
        have m_:=ζa (δr (by repeat (exact HB5.out)) hb)
        clear hb
        have HB11:=m_
        clear m_
        have h:=HH.out
        clear HH
        by_cases cc12:o9.length≤1000000
        ·
         rw [if_pos cc12] at h
         have HH:=ζa h
         clear h
         have f12a:decide (o9.length≤1000000)=τ:=decide_eq_true cc12
         have C12:=ζa cc12
         clear cc12
         have h:=HH.out
         clear HH
         simp only [Option.some.injEq,Prod.mk.injEq] at h
         obtain ⟨rfl,rfl⟩:=h
         go_wp2_with (first|((with_reducible refine δx (N:=53) rfl ?_);refine Kd.R_lit k51 w11.heap.size 51 ?hg (N:=53) ?hd (w0:=w11) (xs:=([]:List S51)) (inner:=[]) (ok:=fun _=>True) (okp:=fun _=>True) ?hr ?hp (fun _ hk=>hk) trivial (by repeat (exact Below.refl _ _)) (Below.size (show Below w11.heap.size w11 _ from by repeat (exact Below.refl _ _))) (by simp) ?_;(case hd=>rfl);(case hg=>rfl);(case hr=>(go_simp;done));(case hp=>exact (Reps.none _ _));intro vL wL hoL hbL hg_ hnew_;clear hg_ hnew_;have HOL:=ζa hoL;have HBL:=ζa hbL;clear hoL hbL)|((with_reducible refine δx (N:=55) rfl ?_);refine Kd.R_append_rows (w0:=w11) (Rr:=k51.K wL) k51 w11.heap.size ?hg (.tmp 53) (.tmp 54) 24 51 (.agg #[(.string ⟨#[]⟩),(.string ⟨#[]⟩)]) 32 rfl Tryz.underlying24 info51 rfl (by decide) (by decide) vL [] o9 adr11 _ cap11 (fun _=>True) (fun _=>False) rfl rfl HOL.out (Kd.C_below HRn11.out HBL.out) (fun x cs h=>by rw [k51_open h];exact k51_mkM _ _ _ x) (fun _ h=>h.elim) (fun _ _=>trivial) HBL.out HBL.out.size (by have:=C12.out;simp only [List.length_nil];omega) ?_;(case hg=>rfl);intro vM wM hoM hbM hg_ hnew_;clear hg_ hnew_;have HOM:=ζa hoM;have HBM:=ζa hbM;clear hoM hbM))
         have HBF:=ζa (δr HB11.out HBM.out)
         go_ret2
         exact ⟨_,rfl,(by have:=Kd.R_lower HOM.out HB11.out.size;repeat (exact this)),(by repeat (exact HBF.out))⟩
        ·
         rw [if_neg cc12] at h
         have HH:=ζa h
         clear h
         have f12a:decide (o9.length≤1000000)=φ:=decide_eq_false cc12
         have C12:=ζa cc12
         clear cc12
         exact absurd HH.out (by simp)
       ·
        rw [if_neg cc10] at h
        have HH:=ζa h
        clear h
        have f10a:(name.toList == ([121]:List UInt8))=φ:=beq_eq_false_iff_ne.mpr cc10
        have f10b:(name.toList != ([121]:List UInt8))=τ:=bne_iff_ne.mpr cc10
        have C10:=ζa cc10
        clear cc10
        have h:=HH.out
        clear HH
        simp only [Option.some.injEq,Prod.mk.injEq] at h
        obtain ⟨rfl,rfl⟩:=h
        go_wp2_with (((with_reducible refine δx (N:=44) rfl ?_);refine Kd.R_lit k51 w5.heap.size 51 ?hg (N:=44) ?hd (w0:=w5) (xs:=([]:List S51)) (inner:=[]) (ok:=fun _=>True) (okp:=fun _=>True) ?hr ?hp (fun _ hk=>hk) trivial (by repeat (exact Below.refl _ _)) (Below.size (show Below w5.heap.size w5 _ from by repeat (exact Below.refl _ _))) (by simp) ?_;(case hd=>rfl);(case hg=>rfl);(case hr=>(go_simp;done));(case hp=>exact (Reps.none _ _));intro vL wL hoL hbL hg_ hnew_;clear hg_ hnew_;have HOL:=ζa hoL;have HBL:=ζa hbL;clear hoL hbL))
        have HBF:=ζa (δr HB5.out HBL.out)
        go_ret2
        exact ⟨_,rfl,(by have:=Kd.R_lower HOL.out HB5.out.size;repeat (exact this)),(by repeat (exact HBF.out))⟩
     ·
      rw [if_neg cc6] at h
      have HH:=ζa h
      clear h
      have f6a:(c8 == 0)=φ:=beq_eq_false_iff_ne.mpr cc6
      have f6b:(c8 != 0)=τ:=bne_iff_ne.mpr cc6
      have C6:=ζa cc6
      clear cc6
      have h:=HH.out
      clear HH
      simp only [Option.some.injEq,Prod.mk.injEq] at h
      obtain ⟨rfl,rfl⟩:=h
      go_wp2_with (((with_reducible refine δx (N:=36) rfl ?_);refine Kd.R_lit k51 w5.heap.size 51 ?hg (N:=36) ?hd (w0:=w5) (xs:=([]:List S51)) (inner:=[]) (ok:=fun _=>True) (okp:=fun _=>True) ?hr ?hp (fun _ hk=>hk) trivial (by repeat (exact Below.refl _ _)) (Below.size (show Below w5.heap.size w5 _ from by repeat (exact Below.refl _ _))) (by simp) ?_;(case hd=>rfl);(case hg=>rfl);(case hr=>(go_simp;done));(case hp=>exact (Reps.none _ _));intro vL wL hoL hbL hg_ hnew_;clear hg_ hnew_;have HOL:=ζa hoL;have HBL:=ζa hbL;clear hoL hbL))
      have HBF:=ζa (δr HB5.out HBL.out)
      go_ret2
      exact ⟨_,rfl,(by have:=Kd.R_lower HOL.out HB5.out.size;repeat (exact this)),(by repeat (exact HBF.out))⟩



/-! ### slices_IndexFunc_string_string: function 168 -/
/-- slices.IndexFunc over texts,at a plain predicate that captures nothing. -/
theorem slices_IndexFunc_string_string.at_ (g:Nat) (eg : ∀ args w,(callFunc g args).run Tryz.prog w = .ok (.enter g args) w) (p:ByteArray→Bool)
  (hp : ∀ x W,Calls Tryz.prog g #[.string x] W fun e W'=>e = .returned (.bool (p x))∧Drawn0 W W')
  (A0:Option Addr) (c0:Nat) (l0:List ByteArray) (w:World) (hr0:Kd.C Kd.string w A0 l0.length l0) :
  Calls Tryz.prog 168 #[.slice A0 l0.length c0,.func (.func g) #[] #[]] w fun e w'=>(∃ r:Int,e = .returned (.int .i64 r)∧Aside0 (decide (0≤r)=l0.any p))∧Drawn0 w w':=by
 have HR0:=ζa hr0
 have hmax:l0.length≤9223372036854775807:=hr0.2.1
 clear hr0
 go_enter Tryz.func168,Tryz.ntmps168
 go_wp2
 go_loopg [5,8] l0.length (fun gg _ s8 wr => ∃ kk:Nat,kk≤l0.length∧l0.length - kk≤gg∧s8 = .int .i64 kk∧Aside0 ((l0.take kk).any p=φ)∧Drawn0 w wr)
 case atStart=>exact ⟨0,Nat.zero_le _,by omega,rfl,⟨rfl⟩,by repeat (exact Drawn0.refl _)⟩
 case round =>
  obtain ⟨kk,hkk,hg,rfl,A,⟨m1,rfl⟩⟩:=hrel
  by_cases hlt:kk<l0.length
  ·
   have hltz:(kk:Int)<(l0.length:Int):=by omega
   have p145:0≤(kk:Int):=by omega
   obtain ⟨ad145,e145,hx145_0⟩:=Kd.at_string HR0.out kk p145 hltz
   cases e145
   rw [Int.toNat_natCast] at hx145_0
   have hT:Aside0 ((l0.take (kk+1)).any p=p (rdOf ByteArray.empty l0 kk)):=⟨by
    have hx:l0[kk]? = some (rdOf ByteArray.empty l0 kk):=by
     simp only [rdOf,Int.toNat_natCast,List.getD_eq_getElem?_getD]
     rw [List.getElem?_eq_getElem hlt];rfl
    rw [List.take_add_one,hx,List.any_append,A.out];simp⟩
   generalize rdOf ByteArray.empty l0 kk=x at *
   have hcall:=hp x
   clear hp
   cases hq:p x with
   | true =>
    rw [hq] at hcall hT
    clear hq
    go_wp2_with (go_at_fn g;refine (hcall _).mono ?_;rintro e w' ⟨rfl,⟨q',rfl⟩⟩)
    go_ret
    refine ⟨⟨_,rfl,⟨?_⟩⟩,by repeat (first|exact Drawn0.refl _|apply Drawn0.step)⟩
    have h2:l0.any p=τ:=by
     have:=hT.out
     rw [← List.take_append_drop (kk+1) l0,List.any_append,this];rfl
    rw [h2];simp
   | false =>
    rw [hq] at hcall hT
    clear hq
    go_wp2_with (go_at_fn g;refine (hcall _).mono ?_;rintro e w' ⟨rfl,⟨q',rfl⟩⟩)
    go_roundg (l0.length - (kk+1))
    case measure=>omega
    case rel=>exact ⟨kk+1,by omega,by omega,by go_num,hT,by repeat (first|exact Drawn0.refl _|apply Drawn0.step)⟩
  ·
   have hltz : ¬ (kk:Int)<(l0.length:Int):=by omega
   have hkl:Aside0 (kk=l0.length):=⟨by omega⟩
   go_wp2
   go_ret
   refine ⟨⟨_,rfl,⟨?_⟩⟩,by repeat (first|exact Drawn0.refl _|apply Drawn0.step)⟩
   have:=A.out
   rw [hkl.out,List.take_length] at this
   rw [this];rfl



/-! ### slices_ContainsFunc_string_string: function 112 -/
theorem slices_ContainsFunc_string_string.at_ (g:Nat) (eg : ∀ args w,(callFunc g args).run Tryz.prog w = .ok (.enter g args) w) (p:ByteArray→Bool)
  (hp : ∀ x W,Calls Tryz.prog g #[.string x] W fun e W'=>e = .returned (.bool (p x))∧Drawn0 W W')
  (A0:Option Addr) (c0:Nat) (l0:List ByteArray) (w:World) (hr0:Kd.C Kd.string w A0 l0.length l0) :
  Calls Tryz.prog 112 #[.slice A0 l0.length c0,.func (.func g) #[] #[]] w fun e w'=>e = .returned (.bool (l0.any p))∧Drawn0 w w':=by
 go_enter Tryz.func112,Tryz.ntmps112
 go_wp2_with (go_at_call 168;refine (slices_IndexFunc_string_string.at_ g eg p hp A0 c0 l0 _ hr0).mono ?_;rintro e w' ⟨⟨r,rfl,hr⟩,⟨q',rfl⟩⟩)
 go_ret
 exact ⟨by rw [← hr.out];rfl,by repeat (first|exact Drawn0.refl _|apply Drawn0.step)⟩



/-! ### impl_isText: function 61 -/
def impl_isText.f (l0:List ByteArray):Option Bool:=some (!(l0.any fun t=>decide ((t.size:Int) > 65536)))
theorem impl_isText.lit (a0:ByteArray) (w:World) :
  Calls Tryz.prog 113 #[.string a0] w fun e w'=>e = .returned (.bool (decide ((a0.size:Int) > 65536)))∧Drawn0 w w':=by
 go_enter Tryz.func113,Tryz.ntmps113
 go_wp2
 go_ret
 exact ⟨by rfl,by repeat (exact Drawn0.refl _)⟩
theorem impl_isText.calls (A0:Option Addr) (c0:Nat) (l0:List ByteArray) (r:Bool) (w:World) (hr0:Kd.C Kd.string w A0 l0.length l0) (hc0:l0.length≤c0) (h:impl_isText.f l0=some r) :
  Calls Tryz.prog 61 #[.slice A0 l0.length c0] w fun e w'=>e = .returned (.bool r)∧Drawn0 w w':=by
 obtain rfl:=Option.some.inj h
 go_enter Tryz.func61,Tryz.ntmps61
 go_wp2_with (go_at_call 112;refine (slices_ContainsFunc_string_string.at_ 113 (enters_of Tryz.func113 (by kernel_rfl) rfl) _ impl_isText.lit A0 c0 l0 _ hr0).mono ?_;rintro e w' ⟨rfl,⟨q',rfl⟩⟩)
 go_ret
 exact ⟨rfl,by repeat (first|exact Drawn0.refl _|apply Drawn0.step)⟩



/-! ### impl_isChain: function 64 -/
def impl_isChain.f (a0:ByteArray):Option (Bool):=if a0.toList=([120]:List UInt8) then (some τ) else (some (a0.toList == ([121]:List UInt8)))
set_option maxHeartbeats 8000000 in
set_option maxRecDepth 100000 in
theorem impl_isChain.calls (a0:ByteArray) (r:Bool) (w:World) (h:impl_isChain.f a0=some r) :
  Calls Tryz.prog 64 #[.string a0] w fun e w'=>e = .returned (.bool r)∧Drawn0 w w':=by
 have H:(if a0.toList=([120]:List UInt8) then (some τ) else (some (a0.toList == ([121]:List UInt8))))=some r:=h
 clear h
 by_cases c2:a0.toList=([120]:List UInt8)
 ·
  rw [if_pos c2] at H
  have c2b0:(a0.toList == ([120]:List UInt8))=τ:=beq_iff_eq.mpr c2
  have c2b1:(a0.toList != ([120]:List UInt8))=φ:=bne_eq_false_iff_eq.mpr c2
  clear c2
  obtain rfl:=Option.some.inj H
  go_enter Tryz.func64,Tryz.ntmps64
  go_wp2
  go_ret
  exact ⟨by rfl,by repeat (exact Drawn0.refl _)⟩
 ·
  rw [if_neg c2] at H
  have c2b0:(a0.toList == ([120]:List UInt8))=φ:=beq_eq_false_iff_ne.mpr c2
  have c2b1:(a0.toList != ([120]:List UInt8))=τ:=bne_iff_ne.mpr c2
  obtain rfl:=Option.some.inj H
  go_enter Tryz.func64,Tryz.ntmps64
  go_wp2
  go_ret
  exact ⟨by rfl,by repeat (exact Drawn0.refl _)⟩



/-! ### impl_within: function 161 -/
def impl_within.f (a0:Int) (a1:Int) (a2:Int):Option (Bool):=if a0 ≥ a1 then (some (decide (a0≤a2))) else (some φ)
set_option maxHeartbeats 8000000 in
set_option maxRecDepth 100000 in
theorem impl_within.calls (a0:Int) (a1:Int) (a2:Int) (r:Bool) (w:World) (h:impl_within.f a0 a1 a2=some r) :
  Calls Tryz.prog 161 #[.int .i64 a0,.int .i64 a1,.int .i64 a2] w fun e w'=>e = .returned (.bool r)∧Drawn0 w w':=by
 have H:(if a0 ≥ a1 then (some (decide (a0≤a2))) else (some φ))=some r:=h
 clear h
 by_cases c4:a0 ≥ a1
 ·
  rw [if_pos c4] at H
  have c4b0:decide (a1≤a0)=τ:=decide_eq_true c4
  clear c4
  obtain rfl:=Option.some.inj H
  go_enter Tryz.func161,Tryz.ntmps161
  go_wp2
  go_ret
  exact ⟨by rfl,by repeat (exact Drawn0.refl _)⟩
 ·
  rw [if_neg c4] at H
  have c4b0:decide (a1≤a0)=φ:=decide_eq_false c4
  clear c4
  obtain rfl:=Option.some.inj H
  go_enter Tryz.func161,Tryz.ntmps161
  go_wp2
  go_ret
  exact ⟨by rfl,by repeat (exact Drawn0.refl _)⟩


open Go.RowKit renaming wrap64 → ζm
open Go.Proofs.YtabmfhnhmoiljaaGreatDoorW.PrintWords renaming gate_callee → δv

/-! ### impl_NameOK: function 169 -/
def impl_NameOK.l0:Nat→ByteArray→Int→Int→Option (Bool)
 | 0,_,_,_=>none
 | k+1,x0,x7,x8=>if x8<x7 then (if 0≤x8 then (if x8<(x0.size:Int) then (if (bt x0 x8) ≥ 97 then (if (bt x0 x8)≤122 then (impl_NameOK.l0 k x0 x7 (ζm (x8+1))) else (if (bt x0 x8) ≥ 65 then (if (bt x0 x8)≤90 then (impl_NameOK.l0 k x0 x7 (ζm (x8+1))) else (if ((bt x0 x8)=95) then (impl_NameOK.l0 k x0 x7 (ζm (x8+1))) else (if x8=0 then (some φ) else (if (bt x0 x8)<48 then (some φ) else (if (bt x0 x8) > 57 then (some φ) else (impl_NameOK.l0 k x0 x7 (ζm (x8+1)))))))) else (if ((bt x0 x8)=95) then (impl_NameOK.l0 k x0 x7 (ζm (x8+1))) else (if x8=0 then (some φ) else (if (bt x0 x8)<48 then (some φ) else (if (bt x0 x8) > 57 then (some φ) else (impl_NameOK.l0 k x0 x7 (ζm (x8+1))))))))) else (if (bt x0 x8) ≥ 65 then (if (bt x0 x8)≤90 then (impl_NameOK.l0 k x0 x7 (ζm (x8+1))) else (if ((bt x0 x8)=95) then (impl_NameOK.l0 k x0 x7 (ζm (x8+1))) else (if x8=0 then (some φ) else (if (bt x0 x8)<48 then (some φ) else (if (bt x0 x8) > 57 then (some φ) else (impl_NameOK.l0 k x0 x7 (ζm (x8+1)))))))) else (if ((bt x0 x8)=95) then (impl_NameOK.l0 k x0 x7 (ζm (x8+1))) else (if x8=0 then (some φ) else (if (bt x0 x8)<48 then (some φ) else (if (bt x0 x8) > 57 then (some φ) else (impl_NameOK.l0 k x0 x7 (ζm (x8+1))))))))) else (none)) else (none)) else ((impl_within.f (x0.size:Int) 1 40).bind fun t161=>(some t161))
def impl_NameOK.f (k:Nat) (a0:ByteArray):Option (Bool):=impl_NameOK.l0 k a0 (a0.size:Int) 0
set_option maxHeartbeats 8000000 in
set_option maxRecDepth 100000 in
theorem impl_NameOK.calls (k:Nat) (a0:ByteArray) (r:Bool) (w:World) (h:impl_NameOK.f k a0=some r) :
  Calls Tryz.prog 169 #[.string a0] w fun e w'=>e = .returned (.bool r)∧Drawn0 w w':=by
 have H:(impl_NameOK.l0 k a0 (a0.size:Int) 0)=some r:=h
 clear h
 have H':=ζa H
 clear H
 go_enter Tryz.func169,Tryz.ntmps169
 go_wp2
 go_loopg [8] k (fun kq v8 w' => ∃ (x8_1:Int),v8 = .int .i64 x8_1∧Aside0 (impl_NameOK.l0 kq a0 (a0.size:Int) x8_1=some r)∧Aside0 (kq≤k)∧Drawn0 w w')
 case atStart=>exact ⟨(0),(by rfl),H',⟨Nat.le_refl _⟩,by repeat (exact Drawn0.refl _)⟩
 case round =>
  clear H'
  try clear c1
  obtain ⟨x8_1,rfl,HA,HK1,⟨m1,rfl⟩⟩:=hrel
  cases gk with
  | zero=>exact absurd HA.out (by simp [impl_NameOK.l0])
  | succ k1 =>
   have H:=HA.out
   clear HA
   simp only [impl_NameOK.l0] at H
   by_cases c2:x8_1<(a0.size:Int)
   ·
    rw [if_pos c2] at H
    have c2b0:decide (x8_1<(a0.size:Int))=τ:=decide_eq_true c2
    clear c2
    by_cases c3:0≤x8_1
    ·
     rw [if_pos c3] at H
     have c3b0:decide (0≤x8_1)=τ:=decide_eq_true c3
     clear c3
     by_cases c4:x8_1<(a0.size:Int)
     ·
      rw [if_pos c4] at H
      have c4b0:decide (x8_1<(a0.size:Int))=τ:=decide_eq_true c4
      clear c4
      by_cases c6:(bt a0 x8_1) ≥ 97
      ·
       rw [if_pos c6] at H
       have c6b0:decide (97≤(bt a0 x8_1))=τ:=decide_eq_true c6
       clear c6
       by_cases c7:(bt a0 x8_1)≤122
       ·
        rw [if_pos c7] at H
        have c7b0:decide ((bt a0 x8_1)≤122)=τ:=decide_eq_true c7
        clear c7
        have H':=ζa H
        clear H
        have p5:0≤(x8_1:Int):=of_decide_eq_true (by (with_reducible assumption))
        have q5:x8_1<(a0.size:Int):=of_decide_eq_true (by (with_reducible assumption))
        have hx5:=bt_at a0 x8_1
        replace p5:=eq_true p5
        replace q5:=eq_true q5
        go_wp2
        go_roundg k1
        case measure=>have:=HK1.out;omega
        case rel=>exact ⟨(ζm (x8_1+1)),(by rfl),H',⟨by have:=HK1.out;omega⟩,by repeat (first|exact Drawn0.refl _|apply Drawn0.step)⟩
       ·
        rw [if_neg c7] at H
        have c7b0:decide ((bt a0 x8_1)≤122)=φ:=decide_eq_false c7
        clear c7
        by_cases c8:(bt a0 x8_1) ≥ 65
        ·
         rw [if_pos c8] at H
         have c8b0:decide (65≤(bt a0 x8_1))=τ:=decide_eq_true c8
         clear c8
         by_cases c9:(bt a0 x8_1)≤90
         ·
          rw [if_pos c9] at H
          have c9b0:decide ((bt a0 x8_1)≤90)=τ:=decide_eq_true c9
          clear c9
          have H':=ζa H
          clear H
          have p5:0≤(x8_1:Int):=of_decide_eq_true (by (with_reducible assumption))
          have q5:x8_1<(a0.size:Int):=of_decide_eq_true (by (with_reducible assumption))
          have hx5:=bt_at a0 x8_1
          replace p5:=eq_true p5
          replace q5:=eq_true q5
          go_wp2
          go_roundg k1
          case measure=>have:=HK1.out;omega
          case rel=>exact ⟨(ζm (x8_1+1)),(by rfl),H',⟨by have:=HK1.out;omega⟩,by repeat (first|exact Drawn0.refl _|apply Drawn0.step)⟩
         ·
          rw [if_neg c9] at H
          have c9b0:decide ((bt a0 x8_1)≤90)=φ:=decide_eq_false c9
          clear c9
          by_cases c10:((bt a0 x8_1)=95)
          ·
           rw [if_pos c10] at H
           have c10b0:((bt a0 x8_1) == 95)=τ:=beq_iff_eq.mpr c10
           have c10b1:((bt a0 x8_1) != 95)=φ:=bne_eq_false_iff_eq.mpr c10
           clear c10
           have H':=ζa H
           clear H
           have p5:0≤(x8_1:Int):=of_decide_eq_true (by (with_reducible assumption))
           have q5:x8_1<(a0.size:Int):=of_decide_eq_true (by (with_reducible assumption))
           have hx5:=bt_at a0 x8_1
           replace p5:=eq_true p5
           replace q5:=eq_true q5
           go_wp2
           go_roundg k1
           case measure=>have:=HK1.out;omega
           case rel=>exact ⟨(ζm (x8_1+1)),(by rfl),H',⟨by have:=HK1.out;omega⟩,by repeat (first|exact Drawn0.refl _|apply Drawn0.step)⟩
          ·
           rw [if_neg c10] at H
           have c10b0:((bt a0 x8_1) == 95)=φ:=beq_eq_false_iff_ne.mpr c10
           have c10b1:((bt a0 x8_1) != 95)=τ:=bne_iff_ne.mpr c10
           by_cases c11:x8_1=0
           ·
            rw [if_pos c11] at H
            have c11b0:(x8_1 == 0)=τ:=beq_iff_eq.mpr c11
            have c11b1:(x8_1 != 0)=φ:=bne_eq_false_iff_eq.mpr c11
            clear c11
            obtain rfl:=Option.some.inj H
            have p5:0≤(x8_1:Int):=of_decide_eq_true (by (with_reducible assumption))
            have q5:x8_1<(a0.size:Int):=of_decide_eq_true (by (with_reducible assumption))
            have hx5:=bt_at a0 x8_1
            replace p5:=eq_true p5
            replace q5:=eq_true q5
            go_wp2
            go_ret
            exact ⟨by rfl,by repeat (first|exact Drawn0.refl _|apply Drawn0.step)⟩
           ·
            rw [if_neg c11] at H
            have c11b0:(x8_1 == 0)=φ:=beq_eq_false_iff_ne.mpr c11
            have c11b1:(x8_1 != 0)=τ:=bne_iff_ne.mpr c11
            by_cases c12:(bt a0 x8_1)<48
            ·
             rw [if_pos c12] at H
             have c12b0:decide ((bt a0 x8_1)<48)=τ:=decide_eq_true c12
             clear c12
             obtain rfl:=Option.some.inj H
             have p5:0≤(x8_1:Int):=of_decide_eq_true (by (with_reducible assumption))
             have q5:x8_1<(a0.size:Int):=of_decide_eq_true (by (with_reducible assumption))
             have hx5:=bt_at a0 x8_1
             replace p5:=eq_true p5
             replace q5:=eq_true q5
             go_wp2
             go_ret
             exact ⟨by rfl,by repeat (first|exact Drawn0.refl _|apply Drawn0.step)⟩
            ·
             rw [if_neg c12] at H
             have c12b0:decide ((bt a0 x8_1)<48)=φ:=decide_eq_false c12
             clear c12
             by_cases c13:(bt a0 x8_1) > 57
             ·
              rw [if_pos c13] at H
              have c13b0:decide (57<(bt a0 x8_1))=τ:=decide_eq_true c13
              clear c13
              obtain rfl:=Option.some.inj H
              have p5:0≤(x8_1:Int):=of_decide_eq_true (by (with_reducible assumption))
              have q5:x8_1<(a0.size:Int):=of_decide_eq_true (by (with_reducible assumption))
              have hx5:=bt_at a0 x8_1
              replace p5:=eq_true p5
              replace q5:=eq_true q5
              go_wp2
              go_ret
              exact ⟨by rfl,by repeat (first|exact Drawn0.refl _|apply Drawn0.step)⟩
             ·
              rw [if_neg c13] at H
              have c13b0:decide (57<(bt a0 x8_1))=φ:=decide_eq_false c13
              clear c13
              have H':=ζa H
              clear H
              have p5:0≤(x8_1:Int):=of_decide_eq_true (by (with_reducible assumption))
              have q5:x8_1<(a0.size:Int):=of_decide_eq_true (by (with_reducible assumption))
              have hx5:=bt_at a0 x8_1
              replace p5:=eq_true p5
              replace q5:=eq_true q5
              go_wp2
              go_roundg k1
              case measure=>have:=HK1.out;omega
              case rel=>exact ⟨(ζm (x8_1+1)),(by rfl),H',⟨by have:=HK1.out;omega⟩,by repeat (first|exact Drawn0.refl _|apply Drawn0.step)⟩
        ·
         rw [if_neg c8] at H
         have c8b0:decide (65≤(bt a0 x8_1))=φ:=decide_eq_false c8
         clear c8
         by_cases c14:((bt a0 x8_1)=95)
         ·
          rw [if_pos c14] at H
          have c14b0:((bt a0 x8_1) == 95)=τ:=beq_iff_eq.mpr c14
          have c14b1:((bt a0 x8_1) != 95)=φ:=bne_eq_false_iff_eq.mpr c14
          clear c14
          have H':=ζa H
          clear H
          have p5:0≤(x8_1:Int):=of_decide_eq_true (by (with_reducible assumption))
          have q5:x8_1<(a0.size:Int):=of_decide_eq_true (by (with_reducible assumption))
          have hx5:=bt_at a0 x8_1
          replace p5:=eq_true p5
          replace q5:=eq_true q5
          go_wp2
          go_roundg k1
          case measure=>have:=HK1.out;omega
          case rel=>exact ⟨(ζm (x8_1+1)),(by rfl),H',⟨by have:=HK1.out;omega⟩,by repeat (first|exact Drawn0.refl _|apply Drawn0.step)⟩
         ·
          rw [if_neg c14] at H
          have c14b0:((bt a0 x8_1) == 95)=φ:=beq_eq_false_iff_ne.mpr c14
          have c14b1:((bt a0 x8_1) != 95)=τ:=bne_iff_ne.mpr c14
          by_cases c15:x8_1=0
          ·
           rw [if_pos c15] at H
           have c15b0:(x8_1 == 0)=τ:=beq_iff_eq.mpr c15
           have c15b1:(x8_1 != 0)=φ:=bne_eq_false_iff_eq.mpr c15
           clear c15
           obtain rfl:=Option.some.inj H
           have p5:0≤(x8_1:Int):=of_decide_eq_true (by (with_reducible assumption))
           have q5:x8_1<(a0.size:Int):=of_decide_eq_true (by (with_reducible assumption))
           have hx5:=bt_at a0 x8_1
           replace p5:=eq_true p5
           replace q5:=eq_true q5
           go_wp2
           go_ret
           exact ⟨by rfl,by repeat (first|exact Drawn0.refl _|apply Drawn0.step)⟩
          ·
           rw [if_neg c15] at H
           have c15b0:(x8_1 == 0)=φ:=beq_eq_false_iff_ne.mpr c15
           have c15b1:(x8_1 != 0)=τ:=bne_iff_ne.mpr c15
           by_cases c16:(bt a0 x8_1)<48
           ·
            rw [if_pos c16] at H
            have c16b0:decide ((bt a0 x8_1)<48)=τ:=decide_eq_true c16
            clear c16
            obtain rfl:=Option.some.inj H
            have p5:0≤(x8_1:Int):=of_decide_eq_true (by (with_reducible assumption))
            have q5:x8_1<(a0.size:Int):=of_decide_eq_true (by (with_reducible assumption))
            have hx5:=bt_at a0 x8_1
            replace p5:=eq_true p5
            replace q5:=eq_true q5
            go_wp2
            go_ret
            exact ⟨by rfl,by repeat (first|exact Drawn0.refl _|apply Drawn0.step)⟩
           ·
            rw [if_neg c16] at H
            have c16b0:decide ((bt a0 x8_1)<48)=φ:=decide_eq_false c16
            clear c16
            by_cases c17:(bt a0 x8_1) > 57
            ·
             rw [if_pos c17] at H
             have c17b0:decide (57<(bt a0 x8_1))=τ:=decide_eq_true c17
             clear c17
             obtain rfl:=Option.some.inj H
             have p5:0≤(x8_1:Int):=of_decide_eq_true (by (with_reducible assumption))
             have q5:x8_1<(a0.size:Int):=of_decide_eq_true (by (with_reducible assumption))
             have hx5:=bt_at a0 x8_1
             replace p5:=eq_true p5
             replace q5:=eq_true q5
             go_wp2
             go_ret
             exact ⟨by rfl,by repeat (first|exact Drawn0.refl _|apply Drawn0.step)⟩
            ·
             rw [if_neg c17] at H
             have c17b0:decide (57<(bt a0 x8_1))=φ:=decide_eq_false c17
             clear c17
             have H':=ζa H
             clear H
             have p5:0≤(x8_1:Int):=of_decide_eq_true (by (with_reducible assumption))
             have q5:x8_1<(a0.size:Int):=of_decide_eq_true (by (with_reducible assumption))
             have hx5:=bt_at a0 x8_1
             replace p5:=eq_true p5
             replace q5:=eq_true q5
             go_wp2
             go_roundg k1
             case measure=>have:=HK1.out;omega
             case rel=>exact ⟨(ζm (x8_1+1)),(by rfl),H',⟨by have:=HK1.out;omega⟩,by repeat (first|exact Drawn0.refl _|apply Drawn0.step)⟩
      ·
       rw [if_neg c6] at H
       have c6b0:decide (97≤(bt a0 x8_1))=φ:=decide_eq_false c6
       clear c6
       by_cases c18:(bt a0 x8_1) ≥ 65
       ·
        rw [if_pos c18] at H
        have c18b0:decide (65≤(bt a0 x8_1))=τ:=decide_eq_true c18
        clear c18
        by_cases c19:(bt a0 x8_1)≤90
        ·
         rw [if_pos c19] at H
         have c19b0:decide ((bt a0 x8_1)≤90)=τ:=decide_eq_true c19
         clear c19
         have H':=ζa H
         clear H
         have p5:0≤(x8_1:Int):=of_decide_eq_true (by (with_reducible assumption))
         have q5:x8_1<(a0.size:Int):=of_decide_eq_true (by (with_reducible assumption))
         have hx5:=bt_at a0 x8_1
         replace p5:=eq_true p5
         replace q5:=eq_true q5
         go_wp2
         go_roundg k1
         case measure=>have:=HK1.out;omega
         case rel=>exact ⟨(ζm (x8_1+1)),(by rfl),H',⟨by have:=HK1.out;omega⟩,by repeat (first|exact Drawn0.refl _|apply Drawn0.step)⟩
        ·
         rw [if_neg c19] at H
         have c19b0:decide ((bt a0 x8_1)≤90)=φ:=decide_eq_false c19
         clear c19
         by_cases c20:((bt a0 x8_1)=95)
         ·
          rw [if_pos c20] at H
          have c20b0:((bt a0 x8_1) == 95)=τ:=beq_iff_eq.mpr c20
          have c20b1:((bt a0 x8_1) != 95)=φ:=bne_eq_false_iff_eq.mpr c20
          clear c20
          have H':=ζa H
          clear H
          have p5:0≤(x8_1:Int):=of_decide_eq_true (by (with_reducible assumption))
          have q5:x8_1<(a0.size:Int):=of_decide_eq_true (by (with_reducible assumption))
          have hx5:=bt_at a0 x8_1
          replace p5:=eq_true p5
          replace q5:=eq_true q5
          go_wp2
          go_roundg k1
          case measure=>have:=HK1.out;omega
          case rel=>exact ⟨(ζm (x8_1+1)),(by rfl),H',⟨by have:=HK1.out;omega⟩,by repeat (first|exact Drawn0.refl _|apply Drawn0.step)⟩
         ·
          rw [if_neg c20] at H
          have c20b0:((bt a0 x8_1) == 95)=φ:=beq_eq_false_iff_ne.mpr c20
          have c20b1:((bt a0 x8_1) != 95)=τ:=bne_iff_ne.mpr c20
          by_cases c21:x8_1=0
          ·
           rw [if_pos c21] at H
           have c21b0:(x8_1 == 0)=τ:=beq_iff_eq.mpr c21
           have c21b1:(x8_1 != 0)=φ:=bne_eq_false_iff_eq.mpr c21
           clear c21
           obtain rfl:=Option.some.inj H
           have p5:0≤(x8_1:Int):=of_decide_eq_true (by (with_reducible assumption))
           have q5:x8_1<(a0.size:Int):=of_decide_eq_true (by (with_reducible assumption))
           have hx5:=bt_at a0 x8_1
           replace p5:=eq_true p5
           replace q5:=eq_true q5
           go_wp2
           go_ret
           exact ⟨by rfl,by repeat (first|exact Drawn0.refl _|apply Drawn0.step)⟩
          ·
           rw [if_neg c21] at H
           have c21b0:(x8_1 == 0)=φ:=beq_eq_false_iff_ne.mpr c21
           have c21b1:(x8_1 != 0)=τ:=bne_iff_ne.mpr c21
           by_cases c22:(bt a0 x8_1)<48
           ·
            rw [if_pos c22] at H
            have c22b0:decide ((bt a0 x8_1)<48)=τ:=decide_eq_true c22
            clear c22
            obtain rfl:=Option.some.inj H
            have p5:0≤(x8_1:Int):=of_decide_eq_true (by (with_reducible assumption))
            have q5:x8_1<(a0.size:Int):=of_decide_eq_true (by (with_reducible assumption))
            have hx5:=bt_at a0 x8_1
            replace p5:=eq_true p5
            replace q5:=eq_true q5
            go_wp2
            go_ret
            exact ⟨by rfl,by repeat (first|exact Drawn0.refl _|apply Drawn0.step)⟩
           ·
            rw [if_neg c22] at H
            have c22b0:decide ((bt a0 x8_1)<48)=φ:=decide_eq_false c22
            clear c22
            by_cases c23:(bt a0 x8_1) > 57
            ·
             rw [if_pos c23] at H
             have c23b0:decide (57<(bt a0 x8_1))=τ:=decide_eq_true c23
             clear c23
             obtain rfl:=Option.some.inj H
             have p5:0≤(x8_1:Int):=of_decide_eq_true (by (with_reducible assumption))
             have q5:x8_1<(a0.size:Int):=of_decide_eq_true (by (with_reducible assumption))
             have hx5:=bt_at a0 x8_1
             replace p5:=eq_true p5
             replace q5:=eq_true q5
             go_wp2
             go_ret
             exact ⟨by rfl,by repeat (first|exact Drawn0.refl _|apply Drawn0.step)⟩
            ·
             rw [if_neg c23] at H
             have c23b0:decide (57<(bt a0 x8_1))=φ:=decide_eq_false c23
             clear c23
             have H':=ζa H
             clear H
             have p5:0≤(x8_1:Int):=of_decide_eq_true (by (with_reducible assumption))
             have q5:x8_1<(a0.size:Int):=of_decide_eq_true (by (with_reducible assumption))
             have hx5:=bt_at a0 x8_1
             replace p5:=eq_true p5
             replace q5:=eq_true q5
             go_wp2
             go_roundg k1
             case measure=>have:=HK1.out;omega
             case rel=>exact ⟨(ζm (x8_1+1)),(by rfl),H',⟨by have:=HK1.out;omega⟩,by repeat (first|exact Drawn0.refl _|apply Drawn0.step)⟩
       ·
        rw [if_neg c18] at H
        have c18b0:decide (65≤(bt a0 x8_1))=φ:=decide_eq_false c18
        clear c18
        by_cases c24:((bt a0 x8_1)=95)
        ·
         rw [if_pos c24] at H
         have c24b0:((bt a0 x8_1) == 95)=τ:=beq_iff_eq.mpr c24
         have c24b1:((bt a0 x8_1) != 95)=φ:=bne_eq_false_iff_eq.mpr c24
         clear c24
         have H':=ζa H
         clear H
         have p5:0≤(x8_1:Int):=of_decide_eq_true (by (with_reducible assumption))
         have q5:x8_1<(a0.size:Int):=of_decide_eq_true (by (with_reducible assumption))
         have hx5:=bt_at a0 x8_1
         replace p5:=eq_true p5
         replace q5:=eq_true q5
         go_wp2
         go_roundg k1
         case measure=>have:=HK1.out;omega
         case rel=>exact ⟨(ζm (x8_1+1)),(by rfl),H',⟨by have:=HK1.out;omega⟩,by repeat (first|exact Drawn0.refl _|apply Drawn0.step)⟩
        ·
         rw [if_neg c24] at H
         have c24b0:((bt a0 x8_1) == 95)=φ:=beq_eq_false_iff_ne.mpr c24
         have c24b1:((bt a0 x8_1) != 95)=τ:=bne_iff_ne.mpr c24
         by_cases c25:x8_1=0
         ·
          rw [if_pos c25] at H
          have c25b0:(x8_1 == 0)=τ:=beq_iff_eq.mpr c25
          have c25b1:(x8_1 != 0)=φ:=bne_eq_false_iff_eq.mpr c25
          clear c25
          obtain rfl:=Option.some.inj H
          have p5:0≤(x8_1:Int):=of_decide_eq_true (by (with_reducible assumption))
          have q5:x8_1<(a0.size:Int):=of_decide_eq_true (by (with_reducible assumption))
          have hx5:=bt_at a0 x8_1
          replace p5:=eq_true p5
          replace q5:=eq_true q5
          go_wp2
          go_ret
          exact ⟨by rfl,by repeat (first|exact Drawn0.refl _|apply Drawn0.step)⟩
         ·
          rw [if_neg c25] at H
          have c25b0:(x8_1 == 0)=φ:=beq_eq_false_iff_ne.mpr c25
          have c25b1:(x8_1 != 0)=τ:=bne_iff_ne.mpr c25
          by_cases c26:(bt a0 x8_1)<48
          ·
           rw [if_pos c26] at H
           have c26b0:decide ((bt a0 x8_1)<48)=τ:=decide_eq_true c26
           clear c26
           obtain rfl:=Option.some.inj H
           have p5:0≤(x8_1:Int):=of_decide_eq_true (by (with_reducible assumption))
           have q5:x8_1<(a0.size:Int):=of_decide_eq_true (by (with_reducible assumption))
           have hx5:=bt_at a0 x8_1
           replace p5:=eq_true p5
           replace q5:=eq_true q5
           go_wp2
           go_ret
           exact ⟨by rfl,by repeat (first|exact Drawn0.refl _|apply Drawn0.step)⟩
          ·
           rw [if_neg c26] at H
           have c26b0:decide ((bt a0 x8_1)<48)=φ:=decide_eq_false c26
           clear c26
           by_cases c27:(bt a0 x8_1) > 57
           ·
            rw [if_pos c27] at H
            have c27b0:decide (57<(bt a0 x8_1))=τ:=decide_eq_true c27
            clear c27
            obtain rfl:=Option.some.inj H
            have p5:0≤(x8_1:Int):=of_decide_eq_true (by (with_reducible assumption))
            have q5:x8_1<(a0.size:Int):=of_decide_eq_true (by (with_reducible assumption))
            have hx5:=bt_at a0 x8_1
            replace p5:=eq_true p5
            replace q5:=eq_true q5
            go_wp2
            go_ret
            exact ⟨by rfl,by repeat (first|exact Drawn0.refl _|apply Drawn0.step)⟩
           ·
            rw [if_neg c27] at H
            have c27b0:decide (57<(bt a0 x8_1))=φ:=decide_eq_false c27
            clear c27
            have H':=ζa H
            clear H
            have p5:0≤(x8_1:Int):=of_decide_eq_true (by (with_reducible assumption))
            have q5:x8_1<(a0.size:Int):=of_decide_eq_true (by (with_reducible assumption))
            have hx5:=bt_at a0 x8_1
            replace p5:=eq_true p5
            replace q5:=eq_true q5
            go_wp2
            go_roundg k1
            case measure=>have:=HK1.out;omega
            case rel=>exact ⟨(ζm (x8_1+1)),(by rfl),H',⟨by have:=HK1.out;omega⟩,by repeat (first|exact Drawn0.refl _|apply Drawn0.step)⟩
     ·
      rw [if_neg c4] at H
      exact absurd H (by simp)
    ·
     rw [if_neg c3] at H
     exact absurd H (by simp)
   ·
    rw [if_neg c2] at H
    have c2b0:decide (x8_1<(a0.size:Int))=φ:=decide_eq_false c2
    clear c2
    replace H:=Option.bind_eq_some_iff.mp H
    obtain ⟨t161,A280,H⟩:=H
    replace H:(some t161)=some r:=H
    have A28:=ζa A280
    clear A280
    obtain rfl:=Option.some.inj H
    go_wp2_with (((with_reducible refine δv (f:=161) rfl ?_);refine goesL_ (some 49) rfl rfl Tryz.func161 (by kernel_rfl) rfl #[.int .i64 (a0.size:Int),.int .i64 1,.int .i64 40] rfl (by (try simp only [δd,δe,δf]);rfl) ?_;(with_reducible refine (impl_within.calls (a0.size:Int) 1 40 t161 _ A28.out).mono ?_);rintro e w' ⟨rfl,⟨nd,rfl⟩⟩;refine ⟨_,rfl,?_⟩))
    go_ret
    exact ⟨by rfl,by repeat (first|exact Drawn0.refl _|apply Drawn0.step)⟩



/-! ### impl_DenomOK: function 114 -/
def impl_DenomOK.f (k:Nat) (a0:ByteArray):Option (Bool):=(impl_NameOK.f k a0).bind fun t162=>(if t162=τ then (some (decide ((a0.size:Int)≤12))) else (some φ))
set_option maxHeartbeats 8000000 in
set_option maxRecDepth 100000 in
theorem impl_DenomOK.calls (k:Nat) (a0:ByteArray) (r:Bool) (w:World) (h:impl_DenomOK.f k a0=some r) :
  Calls Tryz.prog 114 #[.string a0] w fun e w'=>e = .returned (.bool r)∧Drawn0 w w':=by
 have H:((impl_NameOK.f k a0).bind fun t162=>(if t162=τ then (some (decide ((a0.size:Int)≤12))) else (some φ)))=some r:=h
 clear h
 replace H:=Option.bind_eq_some_iff.mp H
 obtain ⟨t162,A20,H⟩:=H
 replace H:(if t162=τ then (some (decide ((a0.size:Int)≤12))) else (some φ))=some r:=H
 have A2:=ζa A20
 clear A20
 by_cases c3:t162=τ
 ·
  subst c3
  have H1:(some (decide ((a0.size:Int)≤12)))=some r:=by rw [if_pos rfl] at H;exact H
  clear H
  have H:=H1
  clear H1
  obtain rfl:=Option.some.inj H
  go_enter Tryz.func114,Tryz.ntmps114
  go_wp2_with (((with_reducible refine δv (f:=169) rfl ?_);refine goesL_ (some 4) rfl rfl Tryz.func169 (by kernel_rfl) rfl #[.string a0] rfl (by (try simp only [δd,δe,δf]);rfl) ?_;(with_reducible refine (impl_NameOK.calls k a0 τ _ A2.out).mono ?_);rintro e w' ⟨rfl,⟨nd,rfl⟩⟩;refine ⟨_,rfl,?_⟩))
  go_ret
  exact ⟨by rfl,by repeat (first|exact Drawn0.refl _|apply Drawn0.step)⟩
 ·
  replace c3:=Bool.eq_false_iff.mpr c3
  subst c3
  have H1:(some φ)=some r:=by rw [if_neg (show ¬ (φ=τ) by decide)] at H;exact H
  clear H
  have H:=H1
  clear H1
  obtain rfl:=Option.some.inj H
  go_enter Tryz.func114,Tryz.ntmps114
  go_wp2_with (((with_reducible refine δv (f:=169) rfl ?_);refine goesL_ (some 4) rfl rfl Tryz.func169 (by kernel_rfl) rfl #[.string a0] rfl (by (try simp only [δd,δe,δf]);rfl) ?_;(with_reducible refine (impl_NameOK.calls k a0 φ _ A2.out).mono ?_);rintro e w' ⟨rfl,⟨nd,rfl⟩⟩;refine ⟨_,rfl,?_⟩))
  go_ret
  exact ⟨by rfl,by repeat (first|exact Drawn0.refl _|apply Drawn0.step)⟩



/-! ### impl_areNames: function 63 -/
def impl_areNames.l0:Nat→List ByteArray→Int→Int→Option (Bool)
 | 0,_,_,_=>none
 | k+1,x5,x6,x7=>if x7<x6 then (if 0≤x7 then (if x7<(x5.length:Int) then ((impl_DenomOK.f k (rdOf ByteArray.empty x5 x7)).bind fun t164=>(if t164=τ then (impl_areNames.l0 k x5 x6 (ζm (x7+1))) else (some φ))) else (none)) else (none)) else (some τ)
def impl_areNames.f (k:Nat) (l0:List ByteArray):Option (Bool):=impl_areNames.l0 k l0 (l0.length:Int) 0
set_option maxHeartbeats 8000000 in
set_option maxRecDepth 100000 in
theorem impl_areNames.calls (k:Nat) (A0:Option Addr) (c0:Nat) (l0:List ByteArray) (r:Bool) (w:World) (hr0:Kd.C Kd.string w A0 l0.length l0) (hc0:l0.length≤c0) (h:impl_areNames.f k l0=some r) :
  Calls Tryz.prog 63 #[.slice A0 l0.length c0] w fun e w'=>e = .returned (.bool r)∧Drawn0 w w':=by
 have HR0:=ζa hr0
 have HC0:=ζa hc0
 clear hr0 hc0
 have H:(impl_areNames.l0 k l0 (l0.length:Int) 0)=some r:=h
 clear h
 have H':=ζa H
 clear H
 go_enter Tryz.func63,Tryz.ntmps63
 go_wp2
 go_loopg [7] k (fun kq v7 w' => ∃ (x7_1:Int),v7 = .int .i64 x7_1∧Aside0 (impl_areNames.l0 kq l0 (l0.length:Int) x7_1=some r)∧Aside0 (kq≤k)∧Drawn0 w w')
 case atStart=>exact ⟨(0),(by rfl),H',⟨Nat.le_refl _⟩,by repeat (exact Drawn0.refl _)⟩
 case round =>
  clear H'
  obtain ⟨x7_1,rfl,HA,HK1,⟨m1,rfl⟩⟩:=hrel
  cases gk with
  | zero=>exact absurd HA.out (by simp [impl_areNames.l0])
  | succ k1 =>
   have H:=HA.out
   clear HA
   simp only [impl_areNames.l0] at H
   by_cases c2:x7_1<(l0.length:Int)
   ·
    rw [if_pos c2] at H
    have c2b0:decide (x7_1<(l0.length:Int))=τ:=decide_eq_true c2
    clear c2
    by_cases c3:0≤x7_1
    ·
     rw [if_pos c3] at H
     have c3b0:decide (0≤x7_1)=τ:=decide_eq_true c3
     clear c3
     by_cases c4:x7_1<(l0.length:Int)
     ·
      rw [if_pos c4] at H
      have c4b0:decide (x7_1<(l0.length:Int))=τ:=decide_eq_true c4
      clear c4
      replace H:=Option.bind_eq_some_iff.mp H
      obtain ⟨t164,A50,H⟩:=H
      replace H:(if t164=τ then (impl_areNames.l0 k1 l0 (l0.length:Int) (ζm (x7_1+1))) else (some φ))=some r:=H
      have A5:=ζa A50
      clear A50
      by_cases c6:t164=τ
      ·
       subst c6
       have H1:(impl_areNames.l0 k1 l0 (l0.length:Int) (ζm (x7_1+1)))=some r:=by rw [if_pos rfl] at H;exact H
       clear H
       have H:=H1
       clear H1
       have H':=ζa H
       clear H
       have p163:0≤(x7_1:Int):=of_decide_eq_true (by (with_reducible assumption))
       have q163:x7_1<(l0.length:Int):=of_decide_eq_true (by (with_reducible assumption))
       obtain ⟨ad163,e163,hx163_0⟩:=Kd.at_string HR0.out x7_1 p163 q163
       cases e163
       replace p163:=eq_true p163
       replace q163:=eq_true q163
       go_wp2_with (((with_reducible refine δv (f:=114) rfl ?_);refine goesL_ (some 12) rfl rfl Tryz.func114 (by kernel_rfl) rfl #[.string (rdOf ByteArray.empty l0 x7_1)] rfl (by (try simp only [δd,δe,δf]);rfl) ?_;(with_reducible refine (impl_DenomOK.calls k1 (rdOf ByteArray.empty l0 x7_1) τ _ A5.out).mono ?_);rintro e w' ⟨rfl,⟨nd,rfl⟩⟩;refine ⟨_,rfl,?_⟩))
       go_roundg k1
       case measure=>have:=HK1.out;omega
       case rel=>exact ⟨(ζm (x7_1+1)),(by rfl),H',⟨by have:=HK1.out;omega⟩,by repeat (first|exact Drawn0.refl _|apply Drawn0.step)⟩
      ·
       replace c6:=Bool.eq_false_iff.mpr c6
       subst c6
       have H1:(some φ)=some r:=by rw [if_neg (show ¬ (φ=τ) by decide)] at H;exact H
       clear H
       have H:=H1
       clear H1
       obtain rfl:=Option.some.inj H
       have p163:0≤(x7_1:Int):=of_decide_eq_true (by (with_reducible assumption))
       have q163:x7_1<(l0.length:Int):=of_decide_eq_true (by (with_reducible assumption))
       obtain ⟨ad163,e163,hx163_0⟩:=Kd.at_string HR0.out x7_1 p163 q163
       cases e163
       replace p163:=eq_true p163
       replace q163:=eq_true q163
       go_wp2_with (((with_reducible refine δv (f:=114) rfl ?_);refine goesL_ (some 12) rfl rfl Tryz.func114 (by kernel_rfl) rfl #[.string (rdOf ByteArray.empty l0 x7_1)] rfl (by (try simp only [δd,δe,δf]);rfl) ?_;(with_reducible refine (impl_DenomOK.calls k1 (rdOf ByteArray.empty l0 x7_1) φ _ A5.out).mono ?_);rintro e w' ⟨rfl,⟨nd,rfl⟩⟩;refine ⟨_,rfl,?_⟩))
       go_ret
       exact ⟨by rfl,by repeat (first|exact Drawn0.refl _|apply Drawn0.step)⟩
     ·
      rw [if_neg c4] at H
      exact absurd H (by simp)
    ·
     rw [if_neg c3] at H
     exact absurd H (by simp)
   ·
    rw [if_neg c2] at H
    have c2b0:decide (x7_1<(l0.length:Int))=φ:=decide_eq_false c2
    clear c2
    obtain rfl:=Option.some.inj H
    go_wp2
    go_ret
    exact ⟨by rfl,by repeat (first|exact Drawn0.refl _|apply Drawn0.step)⟩



/-! ### impl_isList_impl_Pair: function 80 -/
def impl_isList_impl_Pair.f (l0:List (S51)):Option (Bool):=some (decide ((l0.length:Int)≤4096))
set_option maxHeartbeats 8000000 in
set_option maxRecDepth 100000 in
theorem impl_isList_impl_Pair.calls (A0:Option Addr) (c0:Nat) (l0:List (S51)) (r:Bool) (w:World) (hr0:Kd.C k51 w A0 l0.length l0) (hc0:l0.length≤c0) (h:impl_isList_impl_Pair.f l0=some r) :
  Calls Tryz.prog 80 #[.slice A0 l0.length c0] w fun e w'=>e = .returned (.bool r)∧Drawn0 w w':=by
 have HR0:=ζa hr0
 have HC0:=ζa hc0
 clear hr0 hc0
 have H:(some (decide ((l0.length:Int)≤4096)))=some r:=h
 clear h
 obtain rfl:=Option.some.inj H
 go_enter Tryz.func80,Tryz.ntmps80
 go_wp2
 go_ret
 exact ⟨by rfl,by repeat (exact Drawn0.refl _)⟩



/-! ### impl_isKey: function 138 -/
def impl_isKey.f (a0:ByteArray):Option (Bool):=(impl_within.f (a0.size:Int) 1 60).bind fun t152=>(some t152)
set_option maxHeartbeats 8000000 in
set_option maxRecDepth 100000 in
theorem impl_isKey.calls (a0:ByteArray) (r:Bool) (w:World) (h:impl_isKey.f a0=some r) :
  Calls Tryz.prog 138 #[.string a0] w fun e w'=>e = .returned (.bool r)∧Drawn0 w w':=by
 have H:((impl_within.f (a0.size:Int) 1 60).bind fun t152=>(some t152))=some r:=h
 clear h
 replace H:=Option.bind_eq_some_iff.mp H
 obtain ⟨t152,A20,H⟩:=H
 replace H:(some t152)=some r:=H
 have A2:=ζa A20
 clear A20
 obtain rfl:=Option.some.inj H
 go_enter Tryz.func138,Tryz.ntmps138
 go_wp2_with (((with_reducible refine δv (f:=161) rfl ?_);refine goesL_ (some 5) rfl rfl Tryz.func161 (by kernel_rfl) rfl #[.int .i64 (a0.size:Int),.int .i64 1,.int .i64 60] rfl (by (try simp only [δd,δe,δf]);rfl) ?_;(with_reducible refine (impl_within.calls (a0.size:Int) 1 60 t152 _ A2.out).mono ?_);rintro e w' ⟨rfl,⟨nd,rfl⟩⟩;refine ⟨_,rfl,?_⟩))
 go_ret
 exact ⟨by rfl,by repeat (first|exact Drawn0.refl _|apply Drawn0.step)⟩



/-! ### impl_isValue: function 139 -/
def impl_isValue.f (a0:ByteArray):Option (Bool):=some (decide ((a0.size:Int)≤1000))
set_option maxHeartbeats 8000000 in
set_option maxRecDepth 100000 in
theorem impl_isValue.calls (a0:ByteArray) (r:Bool) (w:World) (h:impl_isValue.f a0=some r) :
  Calls Tryz.prog 139 #[.string a0] w fun e w'=>e = .returned (.bool r)∧Drawn0 w w':=by
 have H:(some (decide ((a0.size:Int)≤1000)))=some r:=h
 clear h
 obtain rfl:=Option.some.inj H
 go_enter Tryz.func139,Tryz.ntmps139
 go_wp2
 go_ret
 exact ⟨by rfl,by repeat (exact Drawn0.refl _)⟩


open Go.Proofs.YtabmfhnhmoiljaaGreatDoorW.PrintWords renaming below_alloc → δk, pw_below_drewN → δi, below_drew1 → δj

/-! ### impl_StoreOK: function 81 -/
def impl_StoreOK.l0:Nat→List (S51)→List (S51)→Int→Int→Option (Bool)
 | 0,_,_,_,_=>none
 | k+1,x0,x5,x6,x7=>if x7<x6 then (if 0≤x7 then (if x7<(x5.length:Int) then ((impl_isKey.f ((rd_T51 x5 x7).f0)).bind fun t137=>(if t137=τ then ((impl_isValue.f ((rd_T51 x5 x7).f1)).bind fun t138=>(if t138=τ then (if x7 > 0 then (if 0≤(ζm (x7 - 1)) then (if (ζm (x7 - 1))<(x0.length:Int) then (if ((Op.bytesLess (((rd_T51 x0 (ζm (x7 - 1))).f0).toList) (((rd_T51 x5 x7).f0).toList))=τ) then (impl_StoreOK.l0 k x0 x5 x6 (ζm (x7+1))) else (some φ)) else (none)) else (none)) else (impl_StoreOK.l0 k x0 x5 x6 (ζm (x7+1)))) else (some φ))) else (some φ))) else (none)) else (none)) else (some (decide ((x0.length:Int)≤400)))
def impl_StoreOK.f (k:Nat) (l0:List (S51)):Option (Bool):=impl_StoreOK.l0 k l0 l0 (l0.length:Int) 0
theorem impl_StoreOK.geq (t:TypeId) (a b:ByteArray):binOp .geq t (.string a) (.string b)=pure (.bool !(Op.bytesLess a.toList b.toList)):=by simp [binOp,Op.stringOp]
attribute [local go_sem] impl_StoreOK.geq
set_option maxHeartbeats 8000000 in
set_option maxRecDepth 100000 in
theorem impl_StoreOK.calls (k:Nat) (A0:Option Addr) (c0:Nat) (l0:List (S51)) (r:Bool) (w:World) (hr0:Kd.C k51 w A0 l0.length l0) (hc0:l0.length≤c0) (h:impl_StoreOK.f k l0=some r) :
  Calls Tryz.prog 81 #[.slice A0 l0.length c0] w fun e w'=>e = .returned (.bool r)∧Below w.heap.size w w':=by
 have hu78:=Tryz.underlying51
 have HR0:=ζa hr0
 clear hr0 hc0
 have HB:=ζa (Below.refl w.heap.size w)
 have H':=ζa (show impl_StoreOK.l0 k l0 l0 (l0.length:Int) 0=some r from h)
 clear h
 go_enter Tryz.func81,Tryz.ntmps81
 go_wp2
 go_loopg [7] k (fun kq v7 w' => ∃ i:Int,v7 = .int .i64 i∧Aside0 (impl_StoreOK.l0 kq l0 l0 (l0.length:Int) i=some r)∧Aside0 (kq≤k)∧Aside0 (Below w.heap.size w w'))
 case atStart=>exact ⟨0,(by rfl),H',⟨Nat.le_refl _⟩,HB⟩
 case round =>
  clear H' HB
  obtain ⟨i,rfl,HA,HK1,HB⟩:=hrel
  cases gk with
  | zero=>exact absurd HA.out (by simp [impl_StoreOK.l0])
  | succ k1 =>
   have H:=HA.out
   clear HA
   simp only [impl_StoreOK.l0] at H
   by_cases c2:i<(l0.length:Int)
   ·
    rw [if_pos c2] at H
    have c2b0:decide (i<(l0.length:Int))=τ:=decide_eq_true c2
    by_cases c3:0≤i
    ·
     rw [if_pos c3,if_pos c2] at H
     obtain ⟨ad,e1,hx0,hx1⟩:=at_T51 HR0.out i c3 c2
     cases e1
     replace hx0:=(HB.out.cell (World.block_lt_of_cell? w _ hx0)).trans hx0
     replace hx1:=(HB.out.cell (World.block_lt_of_cell? w _ hx1)).trans hx1
     obtain ⟨b1,h1,H⟩:=Option.bind_eq_some_iff.mp H
     have A5:=ζa h1
     clear h1
     have prev:0<i → ∃ s t:ByteArray,s=(rd_T51 l0 (i - 1)).f0∧w.cell? (ad.add ((i - 1).toNat * 2))=some (.string s)∧t=s:=fun hp=>by
      obtain ⟨ad2,e2,hy0,_⟩:=at_T51 HR0.out (i - 1) (by omega) (by omega)
      obtain rfl:ad=ad2:=by injection e2
      exact ⟨_,_,rfl,hy0,rfl⟩
     have PV:=ζa prev
     clear prev
     have c3b:decide (0≤i)=τ:=decide_eq_true c3
     go_upto_region 4 with (fail)
     have hcz0:(wr.alloc (.cells #[.string (rd_T51 l0 i).f0,.string (rd_T51 l0 i).f1] 51 (0,0))).cell? ⟨wr.heap.size,0,none⟩=some (.string (rd_T51 l0 i).f0):=(World.cell?_alloc_mark wr _ 51 (0,0) 0).trans rfl
     have hcz1:(wr.alloc (.cells #[.string (rd_T51 l0 i).f0,.string (rd_T51 l0 i).f1] 51 (0,0))).cell? ⟨wr.heap.size,1,none⟩=some (.string (rd_T51 l0 i).f1):=(World.cell?_alloc_mark wr _ 51 (0,0) 1).trans rfl
     have PV2:Aside0 (0<i → ∃ s:ByteArray,s=(rd_T51 l0 (i - 1)).f0∧(wr.alloc (.cells #[.string (rd_T51 l0 i).f0,.string (rd_T51 l0 i).f1] 51 (0,0))).cell? (ad.add ((i - 1).toNat * 2))=some (.string s)):=⟨fun hp=>by
      obtain ⟨s,_,hs,hy,_⟩:=PV.out hp
      exact ⟨s,hs,((HB.out.alloc (HB.out.size) _).cell (World.block_lt_of_cell? w _ hy)).trans hy⟩⟩
     have HB2:=ζa (HB.out.alloc (HB.out.size) (.cells #[.string (rd_T51 l0 i).f0,.string (rd_T51 l0 i).f1] 51 (0,0)))
     clear HB PV hx0 hx1
     generalize wr.alloc (.cells #[.string (rd_T51 l0 i).f0,.string (rd_T51 l0 i).f1] 51 (0,0))=W4 at *
     generalize wr.heap.size=gb at *
     clear c3
     cases b1 with
     | false =>
      obtain rfl:=Option.some.inj H
      go_quiet ((go_at_call 138;(with_reducible refine (impl_isKey.calls _ _ _ A5.out).mono ?_);rintro e w' ⟨rfl,⟨nd,rfl⟩⟩;(try exact ⟨rfl,_,World.drewN_drewN _ _ _⟩)))
      go_wp2
      go_ret
      exact ⟨rfl,by repeat (first|(with_reducible first|exact HB2.out|apply δk|apply δi|apply δj)|exact HB2.out)⟩
     | true =>
      rw [if_pos rfl] at H
      obtain ⟨b2,h2,H⟩:=Option.bind_eq_some_iff.mp H
      have A6:=ζa h2
      clear h2
      cases b2 with
      | false =>
       obtain rfl:=Option.some.inj H
       go_quiet (first|(go_at_call 138;(with_reducible refine (impl_isKey.calls _ _ _ A5.out).mono ?_);rintro e w' ⟨rfl,⟨nd,rfl⟩⟩;(try exact ⟨rfl,_,World.drewN_drewN _ _ _⟩))|(go_at_call 139;(with_reducible refine (impl_isValue.calls _ _ _ A6.out).mono ?_);rintro e w' ⟨rfl,⟨nd,rfl⟩⟩;(try exact ⟨rfl,_,World.drewN_drewN _ _ _⟩)))
       go_wp2
       go_ret
       exact ⟨rfl,by repeat (first|(with_reducible first|exact HB2.out|apply δk|apply δi|apply δj)|exact HB2.out)⟩
      | true =>
       rw [if_pos rfl] at H
       have hmax:(l0.length:Int)≤9223372036854775807:=by have:=Kd.C_max HR0.out;omega
       have hmx:=ζa hmax
       clear hmax
       by_cases c4:i > 0
       ·
        have hw1:IntKind.i64.wrap (i - 1)=i - 1:=IntWalk.i64_in _ (by have:=hmx.out;omega)
        have hw2:ζm (i - 1)=i - 1:=IntWalk.wrap64_in _ (by have:=hmx.out;omega)
        rw [if_pos c4,hw2,if_pos (by omega),if_pos (by omega)] at H
        obtain ⟨s,hs,hy⟩:=PV2.out c4
        rw [← hs] at H
        have c4b0:decide (i > 0)=τ:=decide_eq_true c4
        have c4b1:decide (0<i)=τ:=decide_eq_true c4
        have c5:0≤i - 1:=by omega
        have c6:i - 1<(l0.length:Int):=by omega
        clear c4 PV2 hs c2 hw2
        obtain ⟨j,hj⟩ : ∃ j,j=i - 1:=⟨_,rfl⟩
        rw [← hj] at hy c5 c6
        replace hw1:=hw1.trans hj.symm
        clear hj
        have c5b:decide (0≤j)=τ:=decide_eq_true c5
        have c6b:decide (j<(l0.length:Int))=τ:=decide_eq_true c6
        cases hb:Op.bytesLess s.toList ((rd_T51 l0 i).f0).toList with
        | false =>
         rw [hb] at H
         obtain rfl:=Option.some.inj H
         go_quiet (first|(go_at_call 138;(with_reducible refine (impl_isKey.calls _ _ _ A5.out).mono ?_);rintro e w' ⟨rfl,⟨nd,rfl⟩⟩;(try exact ⟨rfl,_,World.drewN_drewN _ _ _⟩))|(go_at_call 139;(with_reducible refine (impl_isValue.calls _ _ _ A6.out).mono ?_);rintro e w' ⟨rfl,⟨nd,rfl⟩⟩;(try exact ⟨rfl,_,World.drewN_drewN _ _ _⟩)))
         go_wp2
         go_ret
         exact ⟨rfl,by repeat (first|(with_reducible first|exact HB2.out|apply δk|apply δi|apply δj)|exact HB2.out)⟩
        | true =>
         rw [hb,if_pos rfl] at H
         have HN:=ζa H
         clear H
         go_quiet (first|(go_at_call 138;(with_reducible refine (impl_isKey.calls _ _ _ A5.out).mono ?_);rintro e w' ⟨rfl,⟨nd,rfl⟩⟩;(try exact ⟨rfl,_,World.drewN_drewN _ _ _⟩))|(go_at_call 139;(with_reducible refine (impl_isValue.calls _ _ _ A6.out).mono ?_);rintro e w' ⟨rfl,⟨nd,rfl⟩⟩;(try exact ⟨rfl,_,World.drewN_drewN _ _ _⟩)))
         go_wp2
         go_roundg k1
         case measure=>omega
         case rel=>exact ⟨_,rfl,HN,⟨by have:=HK1.out;omega⟩,⟨by repeat ((with_reducible first|exact HB2.out|apply δi))⟩⟩
       ·
        rw [if_neg c4] at H
        have c4b0:decide (i > 0)=φ:=decide_eq_false c4
        have c4b1:decide (0<i)=φ:=decide_eq_false c4
        clear c4 c2 PV2
        have HN:=ζa H
        clear H
        go_quiet (first|(go_at_call 138;(with_reducible refine (impl_isKey.calls _ _ _ A5.out).mono ?_);rintro e w' ⟨rfl,⟨nd,rfl⟩⟩;(try exact ⟨rfl,_,World.drewN_drewN _ _ _⟩))|(go_at_call 139;(with_reducible refine (impl_isValue.calls _ _ _ A6.out).mono ?_);rintro e w' ⟨rfl,⟨nd,rfl⟩⟩;(try exact ⟨rfl,_,World.drewN_drewN _ _ _⟩)))
        go_wp2
        go_roundg k1
        case measure=>omega
        case rel=>exact ⟨_,rfl,HN,⟨by have:=HK1.out;omega⟩,⟨by repeat ((with_reducible first|exact HB2.out|apply δi))⟩⟩
    ·
     rw [if_neg c3] at H
     exact absurd H (by simp)
   ·
    rw [if_neg c2] at H
    have c2b0:decide (i<(l0.length:Int))=φ:=decide_eq_false c2
    clear c2
    obtain rfl:=Option.some.inj H
    go_wp2
    go_ret
    exact ⟨by rfl,HB.out⟩


open Go.Proofs.YtabmfhnhmoiljaaGreatDoorW.PrintWords renaming gate_callee → δv, pw_below_drewN → δi, below_step → δr

/-! ### impl_storeCode: function 62 -/
def impl_storeCode.j0:Nat→List (S51)→Bool→Option (Int)
 | 0,_,_=>none
 | k+1,x0,x5=>if x5=τ then (some 2) else ((impl_StoreOK.f k x0).bind fun t720=>(if t720=τ then (some 0) else (some 1)))
def impl_storeCode.f (k:Nat) (l0:List (S51)) (l1:List ByteArray):Option (Int):=(impl_isList_impl_Pair.f l0).bind fun t718=>(if t718=τ then ((impl_isText.f l1).bind fun t719=>(impl_storeCode.j0 k l0 (!t719))) else (impl_storeCode.j0 k l0 τ))
set_option maxHeartbeats 8000000 in
set_option maxRecDepth 100000 in
theorem impl_storeCode.calls (k:Nat) (A0:Option Addr) (c0:Nat) (l0:List (S51)) (A1:Option Addr) (c1:Nat) (l1:List ByteArray) (r:Int) (w:World) (hr0:Kd.C k51 w A0 l0.length l0) (hc0:l0.length≤c0) (hr1:Kd.C Kd.string w A1 l1.length l1) (hc1:l1.length≤c1) (h:impl_storeCode.f k l0 l1=some r) :
  Calls Tryz.prog 62 #[.slice A0 l0.length c0,.slice A1 l1.length c1] w fun e w'=>e = .returned (.int .i64 r)∧Below w.heap.size w w':=by
 have HR0:=ζa hr0
 have HC0:=ζa hc0
 clear hr0 hc0
 have HR1:=ζa hr1
 have HC1:=ζa hc1
 clear hr1 hc1
 have HB:=ζa (Below.refl w.heap.size w)
 have H:((impl_isList_impl_Pair.f l0).bind fun t718=>(if t718=τ then ((impl_isText.f l1).bind fun t719=>(impl_storeCode.j0 k l0 (!t719))) else (impl_storeCode.j0 k l0 τ)))=some r:=h
 clear h
 have HC3:=ζa H
 clear H
 go_enter Tryz.func62,Tryz.ntmps62
 go_upto_region 1 with (fail)
 go_cut [5] (fun v5 wc => ∃ (kq:Nat) (x5_2:Bool),v5 = .bool x5_2∧Aside0 (impl_storeCode.j0 kq l0 x5_2=some r)∧Aside0 (kq≤k)∧Aside0 (Below w.heap.size w wc))
 case first =>
  have H:=HC3.out
  clear HC3
  replace H:=Option.bind_eq_some_iff.mp H
  obtain ⟨t718,A40,H⟩:=H
  replace H:(if t718=τ then ((impl_isText.f l1).bind fun t719=>(impl_storeCode.j0 k l0 (!t719))) else (impl_storeCode.j0 k l0 τ))=some r:=H
  have A4:=ζa A40
  clear A40
  by_cases c5:t718=τ
  ·
   subst c5
   have H1:((impl_isText.f l1).bind fun t719=>(impl_storeCode.j0 k l0 (!t719)))=some r:=by rw [if_pos rfl] at H;exact H
   clear H
   have H:=H1
   clear H1
   replace H:=Option.bind_eq_some_iff.mp H
   obtain ⟨t719,A60,H⟩:=H
   replace H:(impl_storeCode.j0 k l0 (!t719))=some r:=H
   have A6:=ζa A60
   clear A60
   have H':=ζa H
   clear H
   go_wp2_with (first|((with_reducible refine δv (f:=80) rfl ?_);refine goesL_ (some 7) rfl rfl Tryz.func80 (by kernel_rfl) rfl #[.slice A0 l0.length c0] rfl (by (try simp only [δd,δe,δf]);rfl) ?_;(with_reducible refine (impl_isList_impl_Pair.calls _ _ l0 τ _ ?side1 ?side2 A4.out).mono ?_);(case side1=>repeat (exact (Kd.C_below HR0.out HB.out)));(case side2=>exact HC0.out);rintro e w' ⟨rfl,⟨nd,rfl⟩⟩;refine ⟨_,rfl,?_⟩)|(go_at_call 61;(with_reducible refine (impl_isText.calls _ _ l1 t719 _ ?side1 ?side2 A6.out).mono ?_);(case side1=>repeat (exact (Kd.C_below HR1.out (by repeat ((with_reducible first|exact HB.out|apply δi))))));(case side2=>exact HC1.out);rintro e w' ⟨rfl,⟨nd,rfl⟩⟩))
   go_meet
   case rel=>exact ⟨_,(!t719),(by rfl),H',⟨by omega⟩,⟨by repeat ((with_reducible first|exact HB.out|apply δi))⟩⟩
  ·
   replace c5:=Bool.eq_false_iff.mpr c5
   subst c5
   have H1:(impl_storeCode.j0 k l0 τ)=some r:=by rw [if_neg (show ¬ (φ=τ) by decide)] at H;exact H
   clear H
   have H:=H1
   clear H1
   have H':=ζa H
   clear H
   go_wp2_with (((with_reducible refine δv (f:=80) rfl ?_);refine goesL_ (some 7) rfl rfl Tryz.func80 (by kernel_rfl) rfl #[.slice A0 l0.length c0] rfl (by (try simp only [δd,δe,δf]);rfl) ?_;(with_reducible refine (impl_isList_impl_Pair.calls _ _ l0 φ _ ?side1 ?side2 A4.out).mono ?_);(case side1=>repeat (exact (Kd.C_below HR0.out HB.out)));(case side2=>exact HC0.out);rintro e w' ⟨rfl,⟨nd,rfl⟩⟩;refine ⟨_,rfl,?_⟩))
   go_meet
   case rel=>exact ⟨_,(τ),(by rfl),H',⟨by omega⟩,⟨by repeat ((with_reducible first|exact HB.out|apply δi))⟩⟩
 case rest =>
  clear HC3
  try clear c1
  try clear p2
  try clear c5
  try clear c6
  obtain ⟨kq,x5_2,rfl,HA,HJ2,HB⟩:=hcut
  cases kq with
  | zero=>exact absurd HA.out (by simp [impl_storeCode.j0])
  | succ kj2 =>
   have H:=HA.out
   clear HA
   simp only [impl_storeCode.j0] at H
   by_cases c7:x5_2=τ
   ·
    subst c7
    have H1:(some 2)=some r:=by rw [if_pos rfl] at H;exact H
    clear H
    have H:=H1
    clear H1
    obtain rfl:=Option.some.inj H
    go_wp2
    go_ret
    exact ⟨by rfl,by repeat ((with_reducible exact HB.out))⟩
   ·
    replace c7:=Bool.eq_false_iff.mpr c7
    subst c7
    have H1:((impl_StoreOK.f kj2 l0).bind fun t720=>(if t720=τ then (some 0) else (some 1)))=some r:=by rw [if_neg (show ¬ (φ=τ) by decide)] at H;exact H
    clear H
    have H:=H1
    clear H1
    replace H:=Option.bind_eq_some_iff.mp H
    obtain ⟨t720,A80,H⟩:=H
    replace H:(if t720=τ then (some 0) else (some 1))=some r:=H
    have A8:=ζa A80
    clear A80
    by_cases c9:t720=τ
    ·
     subst c9
     have H1:(some 0)=some r:=by rw [if_pos rfl] at H;exact H
     clear H
     have H:=H1
     clear H1
     obtain rfl:=Option.some.inj H
     go_wp2_with (((with_reducible refine δv (f:=81) rfl ?_);refine goesL_ (some 16) rfl rfl Tryz.func81 (by kernel_rfl) rfl #[.slice A0 l0.length c0] rfl (by (try simp only [δd,δe,δf]);rfl) ?_;(with_reducible refine (impl_StoreOK.calls kj2 _ _ l0 τ _ ?side1 ?side2 A8.out).mono ?_);(case side1=>repeat (exact (Kd.C_below HR0.out HB.out)));(case side2=>exact HC0.out);rintro e w10 ⟨rfl,hb⟩;refine ⟨_,rfl,?_⟩;have n0_:=ζa (δr (by exact HB.out) hb);clear HB;have HB:=n0_;clear n0_;(try clear hb);(try clear hb2);(try clear hk);(try clear hi)))
     go_ret
     exact ⟨by rfl,by repeat ((with_reducible exact HB.out))⟩
    ·
     replace c9:=Bool.eq_false_iff.mpr c9
     subst c9
     have H1:(some 1)=some r:=by rw [if_neg (show ¬ (φ=τ) by decide)] at H;exact H
     clear H
     have H:=H1
     clear H1
     obtain rfl:=Option.some.inj H
     go_wp2_with (((with_reducible refine δv (f:=81) rfl ?_);refine goesL_ (some 16) rfl rfl Tryz.func81 (by kernel_rfl) rfl #[.slice A0 l0.length c0] rfl (by (try simp only [δd,δe,δf]);rfl) ?_;(with_reducible refine (impl_StoreOK.calls kj2 _ _ l0 φ _ ?side1 ?side2 A8.out).mono ?_);(case side1=>repeat (exact (Kd.C_below HR0.out HB.out)));(case side2=>exact HC0.out);rintro e w11 ⟨rfl,hb⟩;refine ⟨_,rfl,?_⟩;have n0_:=ζa (δr (by exact HB.out) hb);clear HB;have HB:=n0_;clear n0_;(try clear hb);(try clear hb2);(try clear hk);(try clear hi)))
     go_ret
     exact ⟨by rfl,by repeat ((with_reducible exact HB.out))⟩


open Go.Proofs.YtabmfhnhmoiljaaGreatDoorW.PrintWords renaming gate_dst → δx

/-! ### slices_Clone_impl_Pair_impl_Pair: function 83 -/
def slices_Clone_impl_Pair_impl_Pair.f (l0:List (S51)):Option (List (S51)):=if l0.length≤4398046511104 then some l0 else none
set_option maxHeartbeats 1000000 in
set_option maxRecDepth 100000 in
theorem slices_Clone_impl_Pair_impl_Pair.some_ (ad:Addr) (c0:Nat) (l0:List (S51)) (w:World) (hr0:Kd.C k51 w (some ad) l0.length l0) (hl:l0.length * 32≤140737488355328) :
  Calls Tryz.prog 83 #[.slice (some ad) l0.length c0] w fun e w' => ∃ v0_:Value,e = .returned (v0_)∧Kd.R k51 51 w' w.heap.size (fun _=>True) v0_ l0∧Below w.heap.size w w':=by
 have HR:=ζa hr0
 have HL:=ζa hl
 clear hr0 hl
 have q : ∀ (w:World),(binOp .eql 24 (.slice (some ad) l0.length c0) (.slice none 0 0)).run Tryz.prog w = .ok (.bool φ) w:=fun w=>Lib.run_eql_slice_nil w 24 51 (some ad) l0.length c0 0 0 Tryz.underlying24
 go_enter Tryz.func83,Tryz.ntmps83
 go_wp2_with (first
  | ((with_reducible refine δx (N:=5) rfl ?_);refine Kd.R_lit k51 _ 51 ?hg (N:=5) ?hd (xs:=([]:List S51)) (inner:=[]) (ok:=fun _=>True) (okp:=fun _=>True) ?hr ?hp (fun _ hk=>hk) trivial (Below.refl _ _) (Nat.le_refl _) (by simp) ?_;(case hd=>rfl);(case hg=>rfl);(case hr=>first|(go_simp;done)|(go_simp;rfl));(case hp=>exact (Reps.none _ _));intro v5 w5 ho5 hb5 hg_ hnew_;clear hg_ hnew_;have HO:=ζa ho5;have HB:=ζa hb5;clear ho5 hb5)
  | ((with_reducible refine δx (N:=7) rfl ?_);refine Kd.R_append_rows (w0:=w) (Rr:=k51.K w5) k51 w.heap.size ?hg (.tmp 5) (.tmp 6) 24 51 (.agg #[(.string ⟨#[]⟩),(.string ⟨#[]⟩)]) 32 rfl Tryz.underlying24 info51 rfl (by decide) (by decide) v5 [] l0 (some ad) l0.length c0 (fun _=>True) (fun _=>False) rfl rfl HO.out (Kd.C_below HR.out HB.out) (fun x cs h=>by rw [k51_open h];exact k51_mkM _ _ _ x) (fun _ h=>h.elim) (fun _ _=>trivial) HB.out HB.out.size (by have:=HL.out;simpa using this) ?_;(case hg=>rfl);intro v7 w7 ho7 hb7 hg_ hnew_;clear hg_ hnew_;have HO7:=ζa ho7;have HB7:=ζa hb7;clear ho7 hb7))
 go_ret
 exact ⟨_,rfl,HO7.out,HB7.out⟩
set_option maxHeartbeats 1000000 in
theorem slices_Clone_impl_Pair_impl_Pair.none_ (n c0:Nat) (w:World) :
  Calls Tryz.prog 83 #[.slice none n c0] w fun e w'=>e = .returned (.slice none 0 0)∧w=w':=by
 have q : ∀ (w:World),(binOp .eql 24 (.slice none n c0) (.slice none 0 0)).run Tryz.prog w = .ok (.bool τ) w:=fun w=>Lib.run_eql_slice_nil w 24 51 none n c0 0 0 Tryz.underlying24
 go_enter Tryz.func83,Tryz.ntmps83
 go_wp2
 go_ret
 exact ⟨rfl,rfl⟩
theorem slices_Clone_impl_Pair_impl_Pair.calls (A0:Option Addr) (c0:Nat) (l0:List (S51)) (r:List (S51)) (w:World) (hr0:Kd.C k51 w A0 l0.length l0) (hc0:l0.length≤c0) (h:slices_Clone_impl_Pair_impl_Pair.f l0=some r) :
  Calls Tryz.prog 83 #[.slice A0 l0.length c0] w fun e w' => ∃ v0_:Value,e = .returned (v0_)∧Kd.R k51 51 w' w.heap.size (fun _=>True) v0_ r∧Below w.heap.size w w':=by
 unfold slices_Clone_impl_Pair_impl_Pair.f at h
 by_cases hl:l0.length≤4398046511104
 ·
  rw [if_pos hl] at h
  obtain rfl:=Option.some.inj h
  cases A0 with
  | some ad=>exact slices_Clone_impl_Pair_impl_Pair.some_ ad c0 l0 w hr0 (by omega)
  | none =>
   have h0:l0.length=0:=by
    rcases Nat.eq_zero_or_pos l0.length with h0|h0
    · exact h0
    ·
     obtain ⟨ad,h,_⟩:=hr0.2.2 h0
     cases h
   obtain rfl:l0 = []:=List.eq_nil_of_length_eq_zero h0
   refine (slices_Clone_impl_Pair_impl_Pair.none_ _ c0 w).mono ?_
   rintro e w' ⟨rfl,rfl⟩
   exact ⟨_,rfl,Kd.R_nil _ _ _ _ _,Below.refl _ _⟩
 · rw [if_neg hl] at h;cases h



/-! ### strings_Compare: function 195 -/
def strings_Compare.f (a0 : ByteArray) (a1 : ByteArray) : Option Int := some (Lib.compareBytes a0.data.toList a1.data.toList)
theorem strings_Compare.calls (a0 : ByteArray) (a1 : ByteArray) (r : Int) (w : World) (h : strings_Compare.f a0 a1 = some r) :
    Calls Tryz.prog 195 #[.string a0, .string a1] w fun e w' => e = .returned (.int .i64 r) ∧ Drawn0 w w' := by
  obtain rfl := Option.some.inj h
  refine (Tryz.strings_Compare a0 a1 w).mono ?_
  rintro e w' ⟨rfl, rfl⟩
  exact ⟨rfl, Drawn0.refl _⟩


open Go.Proofs.YtabmfhnhmoiljaaGreatDoorW.PrintWords renaming gate_dst → δx, box_event → δz, below_step → δr, below_size → δs, blk_cell → δl, blk_frozen → δm, gate_callee → δv, pw_below_drewN → δi

/-! ### impl_pairAt_1: function 194 -/
def impl_pairAt_1.f (a0_0:ByteArray) (a0_1:ByteArray) (a1:ByteArray):Option (Int):=(strings_Compare.f a0_0 a1).bind fun t177=>(some t177)
set_option maxHeartbeats 8000000 in
set_option maxRecDepth 100000 in
theorem impl_pairAt_1.calls (a0_0:ByteArray) (a0_1:ByteArray) (a1:ByteArray) (r:Int) (w:World) (h:impl_pairAt_1.f a0_0 a0_1 a1=some r) :
  Calls Tryz.prog 194 #[.agg #[.string a0_0,.string a0_1],.string a1] w fun e w'=>e = .returned (.int .i64 r)∧Below w.heap.size w w':=by
 have hu51:=Tryz.underlying51
 have HB:=ζa (Below.refl w.heap.size w)
 have H:((strings_Compare.f a0_0 a1).bind fun t177=>(some t177))=some r:=h
 clear h
 replace H:=Option.bind_eq_some_iff.mp H
 obtain ⟨t177,A30,H⟩:=H
 replace H:(some t177)=some r:=H
 have A3:=ζa A30
 clear A30
 obtain rfl:=Option.some.inj H
 go_enter Tryz.func194,Tryz.ntmps194
 go_wp2_with (first|((with_reducible refine δx (N:=2) rfl ?_);refine δz ?hg (N:=2) ?hd (cs:=#[.string a0_0,.string a0_1]) (t:=51) ?hr ?_;(case hd=>rfl);(case hg=>rfl);(case hr=>(go_simp;done));intro gb176 hg w4 hbox hb;have n0_:=ζa (δr (by exact HB.out) hb);have n1_:=ζa (hbox);have n2_:=ζa ((by rw [hg];exact (δs (by exact HB.out)):w.heap.size≤gb176));have n3_:=ζa ((by rw [hg];exact (δs (by exact HB.out)):w.heap.size≤gb176));clear HB;have HB:=n0_;have BK176:=n1_;have GW176:=n2_;have GE176:=n3_;clear n0_ n1_ n2_ n3_;clear hb hbox hg;have hcz5_0:w4.cell? ⟨gb176,0,none⟩=some (.string a0_0):=(δl BK176.out 0).trans rfl;have hcz5_1:w4.cell? ⟨gb176,1,none⟩=some (.string a0_1):=(δl BK176.out 1).trans rfl;have hfz5_0:=δm BK176.out 0;have hfz5_1:=δm BK176.out 1)|((with_reducible refine δv (f:=195) rfl ?_);refine goesL_ (some 8) rfl rfl Tryz.func195 (by kernel_rfl) rfl #[.string a0_0,.string a1] rfl (by (try simp only [δd,δe,δf]);rfl) ?_;(with_reducible refine (strings_Compare.calls a0_0 a1 t177 _ A3.out).mono ?_);rintro e w' ⟨rfl,⟨nd,rfl⟩⟩;refine ⟨_,rfl,?_⟩))
 go_ret
 exact ⟨by rfl,by repeat ((with_reducible first|exact HB.out|apply δi))⟩


open Go.Proofs.YtabmfhnhmoiljaaGreatDoorW.PrintWords renaming below_step → δr

/-! ### impl_pairAt: function 162 -/
def impl_pairAt.l0:Nat→List S51→ByteArray→Int→Int→Option Int
 | 0,_,_,_,_=>none
 | k+1,l,key,i,j=>if i<j then (if 0≤(i+j) / 2 then (if (i+j) / 2<(l.length:Int) then (if Lib.compareBytes ((rd_T51 l ((i+j) / 2)).f0).data.toList key.data.toList<0 then (impl_pairAt.l0 k l key ((i+j) / 2+1) j) else (impl_pairAt.l0 k l key i ((i+j) / 2))) else none) else none) else some i
def impl_pairAt.hit (l:List S51) (key:ByteArray) (r:Int):Bool:=decide (r<(l.length:Int)) && (Lib.compareBytes ((rd_T51 l r).f0).data.toList key.data.toList == 0)
def impl_pairAt.f (k:Nat) (l0:List S51) (a1:ByteArray):Option (Int × Bool):=(impl_pairAt.l0 k l0 a1 0 (l0.length:Int)).bind fun r=>if (l0.length:Int)<1000000000000 then (if 0≤r then (if r≤(l0.length:Int) then some (r,impl_pairAt.hit l0 a1 r) else none) else none) else none
theorem impl_pairAt.lit (x:S51) (key:ByteArray) (w:World) :
  Calls Tryz.prog 194 #[.agg #[.string x.f0,.string x.f1],.string key] w fun e w'=>e = .returned (.int .i64 (Lib.compareBytes x.f0.data.toList key.data.toList))∧Below w.heap.size w w' :=
 impl_pairAt_1.calls x.f0 x.f1 key _ w rfl
set_option maxHeartbeats 4000000 in
set_option maxRecDepth 100000 in
theorem impl_pairAt.search (k:Nat) (A0:Option Addr) (c0:Nat) (l0:List S51) (key:ByteArray) (r:Int) (w:World) (hr0:Kd.C k51 w A0 l0.length l0)
  (h:impl_pairAt.l0 k l0 key 0 (l0.length:Int)=some r) (hlen:(l0.length:Int)<1000000000000) (hr:0≤r) (hr':r≤(l0.length:Int)) :
  Calls Tryz.prog 193 #[.slice A0 l0.length c0,.string key,.func (.func 194) #[] #[]] w fun e w'=>e = .returned (.tuple #[.int .i64 r,.bool (impl_pairAt.hit l0 key r)])∧Below w.heap.size w w':=by
 have HR0:=ζa hr0
 have HB:=ζa (Below.refl w.heap.size w)
 clear hr0
 have H':=ζa h
 clear h
 go_enter Tryz.func193,Tryz.ntmps193
 go_wp2
 go_loopg [9,10] k (fun kq v9 v10 w' => ∃ i j:Int,v9 = .int .i64 i∧v10 = .int .i64 j∧0≤i∧i≤j∧j≤(l0.length:Int)∧Aside0 (impl_pairAt.l0 kq l0 key i j=some r)∧Aside0 (Below w.heap.size w w'))
 case atStart=>exact ⟨0,(l0.length:Int),rfl,rfl,by omega,by omega,by omega,H',HB⟩
 case round =>
  clear H' HB
  obtain ⟨i,j,rfl,rfl,g0,g1,g2,HA,HB⟩:=hrel
  cases gk with
  | zero=>exact absurd HA.out (by simp [impl_pairAt.l0])
  | succ k1 =>
   have H:=HA.out
   clear HA
   simp only [impl_pairAt.l0] at H
   by_cases c2:i<j
   ·
    rw [if_pos c2] at H
    have p0:0≤(i+j) / 2:=by omega
    have p1:(i+j) / 2<(l0.length:Int):=by omega
    rw [if_pos p0,if_pos p1] at H
    obtain ⟨ad,e1,hx0,hx1⟩:=at_T51 HR0.out _ p0 p1
    cases e1
    replace hx0:=(HB.out.cell (World.block_lt_of_cell? w _ hx0)).trans hx0
    replace hx1:=(HB.out.cell (World.block_lt_of_cell? w _ hx1)).trans hx1
    have hcall:=impl_pairAt.lit (rd_T51 l0 ((i+j) / 2)) key
    obtain ⟨X,hX⟩ : ∃ X,Lib.compareBytes ((rd_T51 l0 ((i+j) / 2)).f0).data.toList key.data.toList=X:=⟨_,rfl⟩
    rw [hX] at hcall H
    clear hX
    have hcall':=ζa hcall
    clear hcall
    go_wp2_with fail
    refine (hcall'.out _).mono ?_
    rintro e w' ⟨rfl,hb⟩
    have HB2:=ζa (δr HB.out hb)
    clear hb HB hcall'
    by_cases c3:X<0
    ·
     rw [if_pos c3] at H
     have H':=ζa H
     clear H hr hr'
     have hw1:IntKind.i64.wrap ((i+j) / 2+1)=(i+j) / 2+1:=IntWalk.i64_in _ (by omega)
     have q1:(i+j) / 2<j:=by omega
     have c3b:decide (X<0)=τ:=decide_eq_true c3
     clear c3
     generalize hm:(i+j) / 2=m at *
     clear hm p1
     go_wp2
     go_roundg k1
     case measure=>omega
     case rel=>exact ⟨m+1,j,by rfl,rfl,by omega,by omega,by omega,H',HB2⟩
    ·
     rw [if_neg c3] at H
     have H':=ζa H
     clear H hr hr'
     have q1:(i+j) / 2<j:=by omega
     have q2:i≤(i+j) / 2:=by omega
     have c3b:decide (X<0)=φ:=decide_eq_false c3
     clear c3
     generalize hm:(i+j) / 2=m at *
     clear hm p1
     go_wp2
     go_roundg k1
     case measure=>omega
     case rel=>exact ⟨i,m,rfl,by rfl,by omega,by omega,by omega,H',HB2⟩
   ·
    rw [if_neg c2] at H
    obtain rfl:=Option.some.inj H
    obtain rfl:i=j:=by omega
    by_cases c4:i<(l0.length:Int)
    ·
     obtain ⟨ad,e1,hx0,hx1⟩:=at_T51 HR0.out _ g0 c4
     cases e1
     replace hx0:=(HB.out.cell (World.block_lt_of_cell? w _ hx0)).trans hx0
     replace hx1:=(HB.out.cell (World.block_lt_of_cell? w _ hx1)).trans hx1
     have hfin:Aside0 (impl_pairAt.hit l0 key i=(Lib.compareBytes ((rd_T51 l0 i).f0).data.toList key.data.toList == 0)):=⟨by unfold impl_pairAt.hit;rw [decide_eq_true c4];rfl⟩
     have hcall:=impl_pairAt.lit (rd_T51 l0 i) key
     obtain ⟨X,hX⟩ : ∃ X,Lib.compareBytes ((rd_T51 l0 i).f0).data.toList key.data.toList=X:=⟨_,rfl⟩
     rw [hX] at hcall hfin
     clear hX
     have hcall':=ζa hcall
     clear hcall
     go_wp2_with fail
     refine (hcall'.out _).mono ?_
     rintro e w' ⟨rfl,hb⟩
     have HB2:=ζa (δr HB.out hb)
     clear hb HB hcall'
     go_wp2
     go_ret2
     exact ⟨by rw [hfin.out];rfl,HB2.out⟩
    ·
     have hfin:Aside0 (impl_pairAt.hit l0 key i=φ):=⟨by unfold impl_pairAt.hit;rw [decide_eq_false c4];rfl⟩
     go_wp2
     go_ret2
     exact ⟨by rw [hfin.out];rfl,HB.out⟩
set_option maxHeartbeats 4000000 in
set_option maxRecDepth 100000 in
theorem impl_pairAt.calls (k:Nat) (A0:Option Addr) (c0:Nat) (l0:List (S51)) (a1:ByteArray) (r1:Int) (r2:Bool) (w:World) (hr0:Kd.C k51 w A0 l0.length l0) (hc0:l0.length≤c0) (h:impl_pairAt.f k l0 a1=some (r1,r2)) :
  Calls Tryz.prog 162 #[.slice A0 l0.length c0,.string a1] w fun e w'=>e = .returned (.tuple #[.int .i64 r1,.bool r2])∧Below w.heap.size w w':=by
 obtain ⟨r,hl,h⟩:=Option.bind_eq_some_iff.mp h
 by_cases c1:(l0.length:Int)<1000000000000
 ·
  rw [if_pos c1] at h
  by_cases c2:0≤r
  ·
   rw [if_pos c2] at h
   by_cases c3:r≤(l0.length:Int)
   ·
    rw [if_pos c3] at h
    simp only [Option.some.injEq,Prod.mk.injEq] at h
    obtain ⟨rfl,rfl⟩:=h
    have HL:=ζa hl
    clear hl
    go_enter Tryz.func162,Tryz.ntmps162
    go_wp2_with fail
    refine (impl_pairAt.search k A0 c0 l0 a1 r _ hr0 HL.out c1 c2 c3).mono ?_
    rintro e w' ⟨rfl,hb⟩
    have HB2:=ζa hb
    clear hb
    go_wp2
    go_ret2
    exact ⟨rfl,HB2.out⟩
   · rw [if_neg c3] at h;cases h
  ·
   rw [if_neg c2] at h;cases h
 · rw [if_neg c1] at h;cases h


open Go.Proofs.YtabmfhnhmoiljaaGreatDoorW.PrintWords.Kd renaming R_reads' → ζg, R_drew → ζe
open Go.Proofs.YtabmfhnhmoiljaaGreatDoorW.PrintWords renaming below_drew1 → δj
open Go.Proofs.YtabmfhnhmoiljaaGreatDoorW.PrintLast renaming pure_ → ζk
open List renaming setIfInBounds_toArray → δa, set_cons_zero → δb, set_cons_succ → δc

/-! ### slices_Delete_impl_Pair_impl_Pair: function 196 -/
theorem slices_Delete_impl_Pair_impl_Pair.clear_one {W:World} {g n c:Nat} {cur:Array Value} (hg:W.heap[g]? = some (.cells cur 51 (0,0))) (hcs:(n - 1) * 2+1<cur.size) (hn:1≤n) :
  (Builtin.clear_ #[24] 0 #[.slice (some ⟨g,(n - 1) * 2,none⟩) (n - (n - 1)) (c - (n - 1))]).run Tryz.prog W = .ok (.tuple #[]) ((W.setCell ⟨g,(n - 1) * 2,none⟩ (.string ⟨#[]⟩)).setCell ⟨g,(n - 1) * 2+1,none⟩ (.string ⟨#[]⟩)):=by
 have e:n - (n - 1)=1:=by omega
 rw [e]
 generalize (n - 1) * 2=o at *
 have hz : ∀ w,(zeroValue 51).run Tryz.prog w = .ok (.agg #[.string ⟨#[]⟩,.string ⟨#[]⟩]) w:=fun w=>by kernel_rfl
 have hst:=run_storeCells_cells (P:=Tryz.prog) g o [.string ⟨#[]⟩,.string ⟨#[]⟩] 0 W
  (fun j hj=>by
   simp only [World.cell?,hg]
   simp at hj
   rcases (show j=0 ∨ j=1 by omega) with rfl|rfl
   · simp;omega
   ·
    simp;omega)
  (fun j hj=>by simp [World.frozen?,hg]) (by intro v hv;simp at hv;subst hv;rfl)
 simp only [Nat.add_zero] at hst
 have hzc:(Builtin.zeroCells (Value.agg #[.string ⟨#[]⟩,.string ⟨#[]⟩]).cells 1).toList = [.string ⟨#[]⟩,.string ⟨#[]⟩]:=by kernel_rfl
 simp [Builtin.clear_,run_underlying Tryz.underlying24,hz,hzc,hst,World.setCells]
theorem slices_Delete_impl_Pair_impl_Pair.R_spare {w:World} {base g n cap:Nat} {xs:List S51} (h:Kd.R k51 51 w base (fun _=>True) (.slice (some ⟨g,0,none⟩) n cap) xs) (j:Nat) (hj:n * 2≤j) (u:Value) :
  Kd.R k51 51 (w.setCell ⟨g,j,none⟩ u) base (fun _=>True) (.slice (some ⟨g,0,none⟩) n cap) xs:=by
 have hn:=(ζg h).1
 obtain ⟨hok,inner,hown,hr⟩:=h
 refine ⟨hok,inner,?_,hr.imp_ (fun p c hp=>by rw [k51_openM hp];exact k51_mkM _ _ _ p)⟩
 rw [← hn] at hown ⊢
 have h1:=(hown.stored j u).1
 have hl:inner.length=n * 2:=hown.1
 rw [List.set_eq_of_length_le (by omega)] at h1
 exact h1
set_option maxHeartbeats 1000000 in
set_option maxRecDepth 100000 in
theorem slices_Delete_impl_Pair_impl_Pair.calls (base g n c i:Nat) (xs:List S51) (w0 w:World) (ho:Kd.R k51 51 w base (fun _=>True) (.slice (some ⟨g,0,none⟩) n c) xs) (hi:i<n) (hn:n≤1000000) (hnc:n≤c) (hc:c≤9223372036854775807) (hb:Below base w0 w) (hbs:base≤w.heap.size) :
  Calls Tryz.prog 196 #[.slice (some ⟨g,0,none⟩) n c,.int .i64 i,.int .i64 ((i+1:Nat):Int)] w fun e w'=>e = .returned (.slice (some ⟨g,0,none⟩) (n - 1) c)∧Kd.R k51 51 w' base (fun _=>True) (.slice (some ⟨g,0,none⟩) (n - 1) c) (xs.eraseIdx i)∧Below base w0 w':=by
 have HO:=ζa ho
 have HB:=ζa hb
 clear ho hb
 go_enter Tryz.func196,Tryz.ntmps196
 go_wp2_with fail
 have hil:(i+1)≤n:=by omega
 have hlen:=ζa (ζg HO.out).1
 have HB1:=ζa (δj HB.out)
 have HO1:=ζa (ζe HO.out)
 clear HB HO
 refine start_ (n:=8) (S:=fun _=>True) (ds:=[]) #[φ,φ,φ,φ,φ,φ,φ,φ] (by kernel_rfl) rfl rfl trivial (fun hHeld => ?_)
 have hbs1:base≤w.drew.heap.size:=hbs
 clear hbs
 generalize w.drew=w1 at HB1 HO1 hbs1 ⊢
 refine ζk (i:=0) (N:=some 20) (v:=?_) (a':=?_) #[τ,φ,φ,φ,φ,φ,φ,φ] rfl rfl (by kernel_rfl) (fun _ _ _ h=>h) (Or.inl ⟨by rfl,?_⟩) ?_ ?_
 rotate_left
 · intro w';go_simp;with_reducible rfl
 rotate_left
 · simp only [ζl,δa,δb,δc,i64_w,i32_w];rfl
 refine ζk (i:=1) (N:=some 21) (v:=?_) (a':=?_) #[τ,τ,φ,φ,φ,φ,φ,φ] rfl rfl (by kernel_rfl) (fun _ _ _ h=>h) (Or.inl ⟨by rfl,?_⟩) ?_ ?_
 rotate_left
 · intro w';go_simp;with_reducible rfl
 rotate_left
 · simp only [ζl,δa,δb,δc,i64_w,i32_w];rfl
 refine ζk (i:=2) (N:=some 22) (v:=?_) (a':=?_) #[τ,τ,τ,φ,φ,φ,φ,φ] rfl rfl (by kernel_rfl) (fun _ _ _ h=>h) (Or.inl ⟨by rfl,?_⟩) ?_ ?_
 rotate_left
 ·
  intro w'
  go_simp
  rw [if_pos (by omega)]
 rotate_left
 · simp only [ζl,δa,δb,δc,i64_w,i32_w];rfl
 refine ζk (i:=3) (N:=some 23) (v:=?_) (a':=?_) #[τ,τ,τ,τ,φ,φ,φ,φ] rfl rfl (by kernel_rfl) (fun _ _ _ h=>h) (Or.inl ⟨by rfl,?_⟩) ?_ ?_
 rotate_left
 · intro w';go_simp;with_reducible rfl
 rotate_left
 · simp only [ζl,δa,δb,δc,i64_w,i32_w];rfl
 refine ζk (i:=4) (N:=some 24) (v:=?_) (a':=?_) #[τ,τ,τ,τ,τ,φ,φ,φ] rfl rfl (by kernel_rfl) (fun _ _ _ h=>h) (Or.inl ⟨by rfl,?_⟩) ?_ ?_
 rotate_left
 · intro w';go_simp;with_reducible rfl
 rotate_left
 · simp only [ζl,δa,δb,δc,i64_w,i32_w];rfl
 refine ζk (i:=5) (N:=some 25) (v:=?_) (a':=?_) #[τ,τ,τ,τ,τ,τ,φ,φ] rfl rfl (by kernel_rfl) (fun _ _ _ h=>h) (Or.inl ⟨by rfl,?_⟩) ?_ ?_
 rotate_left
 ·
  intro w'
  go_simp
  rw [if_pos (by omega)]
 rotate_left
 · simp only [ζl,δa,δb,δc,i64_w,i32_w];rfl
 refine one_ (i:=6) (N:=some 26) #[τ,τ,τ,τ,τ,τ,τ,φ] rfl rfl (by kernel_rfl) (by decide) (fun K hK => ?_)
 refine Kd.R_delete_step (w0:=w0) k51 base (by rfl) (.tmp 22) (.tmp 25) 24 51 rfl Tryz.underlying24 (by kernel_rfl) (g:=g) (n:=n) (c:=c) (k:=i) (m:=n - (i+1)) (c2:=c - (i+1)) (ok:=fun _=>True) rfl rfl ?hA rfl HO1.out hi HB1.out hbs1 ?_
 case hA =>
  by_cases hc1:c=i+1
  · rw [if_pos hc1,if_pos hc1]
  ·
   rw [if_neg hc1,if_neg hc1,Option.map_some,add_plain]
   rfl
 intro w2 ho2 hb2 hg2
 refine hK.out _ _ trivial (fun hHeld => ?_)
 clear hK K
 refine norm_ (a':=?_) ?_ ?_
 rotate_left
 ·
  show ζl _ (some 26) _=_
  simp only [ζl,δa,δb,δc,i64_w,i32_w];rfl
 refine ζk (i:=7) (N:=some 0) (v:=?_) (a':=?_) #[τ,τ,τ,τ,τ,τ,τ,τ] rfl rfl (by kernel_rfl) (fun _ _ _ h=>h) (Or.inl ⟨by rfl,?_⟩) ?_ ?_
 rotate_left
 · intro w';go_simp;with_reducible rfl
 rotate_left
 · simp only [ζl,δa,δb,δc,i64_w,i32_w];rfl
 refine done_ (by kernel_rfl) ?_
 generalize (if c=i+1 then some (⟨g,0,none⟩:Addr) else some ⟨g,(i+1) * 2,none⟩)=vv
 have hrow : ∃ cur:Array Value,w2.heap[g]? = some (.cells cur 51 (0,0))∧cur.size=c * 2:=by
  obtain ⟨_,inner,hown,_⟩:=ho2
  rcases hown.2 with ⟨h',_⟩|⟨g',cap',cur,h',_,hg,_,_,hcs,_⟩
  · simp at h'
  ·
   simp only [Value.slice.injEq,Option.some.injEq,Addr.mk.injEq,and_true,true_and] at h'
   obtain ⟨rfl,_,rfl⟩:=h'
   exact ⟨cur,hg,hcs⟩
 obtain ⟨cur,hcur,hcsz⟩:=hrow
 have hcl:=slices_Delete_impl_Pair_impl_Pair.clear_one (n:=n) (c:=c) hcur (by rw [hcsz];omega) (by omega)
 have HO3:=ζa (slices_Delete_impl_Pair_impl_Pair.R_spare (slices_Delete_impl_Pair_impl_Pair.R_spare ho2 ((n - 1) * 2) (Nat.le_refl _) (.string ⟨#[]⟩)) ((n - 1) * 2+1) (Nat.le_succ _) (.string ⟨#[]⟩))
 have hge:base≤g:=Kd.R_base ho2 g rfl
 have HB3:=ζa ((hb2.setCell (p:=⟨g,(n - 1) * 2,none⟩) hge (.string ⟨#[]⟩)).setCell (p:=⟨g,(n - 1) * 2+1,none⟩) hge (.string ⟨#[]⟩))
 clear hcur hcsz ho2 hb2 hg2 HB1 HO1
 go_wp2
 go_ret
 exact ⟨rfl,HO3.out,HB3.out⟩

end Go.Proofs.YtabmfhnhmoiljaaGreatDoor.Q
