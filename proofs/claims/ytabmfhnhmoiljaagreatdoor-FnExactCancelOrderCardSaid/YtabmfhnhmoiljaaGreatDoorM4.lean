/- Parts of the proof: what single Go functions compute, each with its walk, and plain laws over these. -/
import Derived.Test.YtabmfhnhmoiljaaGreatDoorM0
import Derived.Test.YtabmfhnhmoiljaaGreatDoorM3
import Derived.Test.YtabmfhnhmoiljaaGreatDoorM2
import Derived.IntWalk
import Derived.Laws.BitsLemmas
import Derived.Test.YtabmfhnhmoiljaaGreatDoorVMore
import Derived.Test.YtabmfhnhmoiljaaGreatDoorM1
import Derived.Lib.ItoaNum
namespace Go.Proofs.YtabmfhnhmoiljaaGreatDoor.Q
open Go.RowKit Go.Proofs.YtabmfhnhmoiljaaGreatDoorW.PrintWords Go.Proofs.YtabmfhnhmoiljaaGreatDoorW.PrintLast Go.Proofs.YtabmfhnhmoiljaaGreatDoorW.PrintMore
open Go.Proofs.YtabmfhnhmoiljaaGreatDoorW.PrintWords.Aside0 renaming mk → ζa
open Go.Proofs.YtabmfhnhmoiljaaGreatDoorW.PrintWords renaming gate_dst → δx, box_event → δz, below_step → δr, below_size → δs, gate_callee → δv, blk_cell → δl, blk_frozen → δm, blk_put → δw, below_set → δq, blk_drew → δp, below_drew1 → δj, cell_far → δt
open List renaming map_toArray → δd, map_cons → δe, map_nil → δf, setIfInBounds_toArray → δa, set_cons_zero → δb, set_cons_succ → δc
open Go.Act renaming put → ζl
open Go.Proofs.YtabmfhnhmoiljaaGreatDoorW.PrintWords.Kd renaming R_drew → ζe, R_reads' → ζg, R_below → ζh, own_blk → ζb, R_ne → ζf, R_far → ζi
open Go.Proofs.YtabmfhnhmoiljaaGreatDoorW.PrintLast renaming pure_ → ζk, any_of → ζj
open Bool renaming true → τ, false → φ
attribute [local go_sem] max2_int min2_int max_two min_two max_three min_three max_four min_four   -- for this text's walks alone
set_option linter.unusedVariables false
set_option linter.unusedSimpArgs false

/-! ### impl_orderOf: function 170 -/
def impl_orderOf.j0:Nat→ByteArray→ByteArray→List ByteArray→Bool→Option (ByteArray × ByteArray × Int × Int × Int × Bool × Bool)
 | 0,_,_,_,_=>none
 | k+1,x0,x1,x6,x20=>if x20=τ then (some ((⟨#[]⟩:ByteArray),(⟨#[]⟩:ByteArray),0,0,0,φ,φ)) else (if 0<(x6.length:Int) then (if 4<(x6.length:Int) then (if 1<(x6.length:Int) then ((impl_readAmount.f (rdOf ByteArray.empty x6 1)).bind fun bt730=>(if 2<(x6.length:Int) then ((impl_readAmount.f (rdOf ByteArray.empty x6 2)).bind fun bt733=>(if 3<(x6.length:Int) then ((impl_readAmount.f (rdOf ByteArray.empty x6 3)).bind fun bt736=>((impl_OrderOK.f k x0 (rdOf ByteArray.empty x6 0) bt730.1 bt733.1 bt736.1 ((rdOf ByteArray.empty x6 4).toList == ([111,112,101,110]:List UInt8))).bind fun t738=>(if t738=τ then ((impl_Order_value.f k x0 (rdOf ByteArray.empty x6 0) bt730.1 bt733.1 bt736.1 ((rdOf ByteArray.empty x6 4).toList == ([111,112,101,110]:List UInt8))).bind fun t739=>(some (x0,rdOf ByteArray.empty x6 0,bt730.1,bt733.1,bt736.1,((rdOf ByteArray.empty x6 4).toList == ([111,112,101,110]:List UInt8)),(t739.toList == x1.toList)))) else (some (x0,rdOf ByteArray.empty x6 0,bt730.1,bt733.1,bt736.1,((rdOf ByteArray.empty x6 4).toList == ([111,112,101,110]:List UInt8)),φ))))) else (none))) else (none))) else (none)) else (none)) else (none))
def impl_orderOf.f (k:Nat) (a0:ByteArray) (a1:ByteArray):Option (ByteArray × ByteArray × Int × Int × Int × Bool × Bool):=(impl_readFields.f k a1).bind fun bt722=>(if bt722.2=τ then (impl_orderOf.j0 k a0 a1 bt722.1 ((bt722.1.length:Int) != 5)) else (impl_orderOf.j0 k a0 a1 bt722.1 τ))
def impl_orderOf.T4:Bool × List (List Nat × List Nat):=(τ,[([],[]),([],[]),([1],[1]),([2],[2]),([],[]),([4],[4]),([5],[5]),([6],[6]),([0,3,7],[0,3,7]),([],[]),([9,8,0,1,2,3,4,5,6,7,8,9],[8,9])])
def impl_orderOf.B4:List Nat:=[0,0,2,6,0,16,48,112,255,0,1023]
theorem impl_orderOf.tab4:rtab .any (opsOf Tryz.f170 4)=impl_orderOf.T4:=by kernel_rfl
theorem impl_orderOf.bits4:waitsOk impl_orderOf.T4.2 impl_orderOf.B4=τ:=by kernel_rfl
def impl_orderOf.T8:Bool × List (List Nat × List Nat):=(τ,[([],[]),([],[]),([1],[1]),([2,2],[2]),([3],[3]),([4,3,3],[3,4]),([3],[3]),([5,6,3],[3,5,6]),([3,7],[3,7]),([0,5,0],[0]),([8,9,0,1,2,3,4,5,6,7,8,9],[8])])
def impl_orderOf.B8:List Nat:=[0,0,2,6,14,30,14,126,254,63,1023]
theorem impl_orderOf.tab8:rtab .any (opsOf Tryz.f170 8)=impl_orderOf.T8:=by kernel_rfl
theorem impl_orderOf.bits8:waitsOk impl_orderOf.T8.2 impl_orderOf.B8=τ:=by kernel_rfl
set_option maxHeartbeats 8000000 in
set_option maxRecDepth 100000 in
theorem impl_orderOf.calls (k:Nat) (a0:ByteArray) (a1:ByteArray) (r1:ByteArray) (r2:ByteArray) (r3:Int) (r4:Int) (r5:Int) (r6:Bool) (r7:Bool) (w:World) (hT0:TabsOK w) (h:impl_orderOf.f k a0 a1=some (r1,r2,r3,r4,r5,r6,r7)) :
  Calls Tryz.prog 170 #[.string a0,.string a1] w fun e w'=>e = .returned (.tuple #[.agg #[.string r1,.string r2,.int .i64 r3,.int .i64 r4,.int .i64 r5,.bool r6],.bool r7])∧Below w.heap.size w w':=by
 have HT0:=ζa hT0
 clear hT0
 have hu66:=Tryz.underlying66
 have HB:=ζa (Below.refl w.heap.size w)
 have H:((impl_readFields.f k a1).bind fun bt722=>(if bt722.2=τ then (impl_orderOf.j0 k a0 a1 bt722.1 ((bt722.1.length:Int) != 5)) else (impl_orderOf.j0 k a0 a1 bt722.1 τ)))=some (r1,r2,r3,r4,r5,r6,r7):=h
 clear h
 replace H:=Option.bind_eq_some_iff.mp H
 obtain ⟨⟨t722,t723⟩,A30,H⟩:=H
 replace H:(if t723=τ then (impl_orderOf.j0 k a0 a1 t722 ((t722.length:Int) != 5)) else (impl_orderOf.j0 k a0 a1 t722 τ))=some (r1,r2,r3,r4,r5,r6,r7):=H
 have A3:=ζa A30
 clear A30
 have HC4:=ζa H
 clear H
 go_enter Tryz.func170,Tryz.ntmps170
 go_upto_region 2 with (first|((with_reducible refine δx (N:=4) rfl ?_);(try (refine gate_guard (by rfl) ?_;dsimp only));refine δz ?hg (N:=4) ?hd (cs:=#[.string (⟨#[]⟩:ByteArray),.string (⟨#[]⟩:ByteArray),.int .i64 0,.int .i64 0,.int .i64 0,.bool φ]) (t:=66) ?hr ?_;(case hd=>rfl);(case hg=>rfl);(case hr=>(go_simp;done));intro gb721 hg w5 hbox hb;have n0_:=ζa (δr (by exact HB.out) hb);have n1_:=ζa (hbox);have n2_:=ζa ((by rw [hg];exact (δs (by exact HB.out)):w.heap.size≤gb721));have n3_:=ζa ((by rw [hg];exact (δs (by exact HB.out)):w.heap.size≤gb721));clear HB;have HB:=n0_;have BK721:=n1_;have GW721:=n2_;have GE721:=n3_;clear n0_ n1_ n2_ n3_;clear hb hbox hg)|((with_reducible refine δv (f:=150) rfl ?_);refine goesL_ (some 11) rfl rfl Tryz.func150 (by kernel_rfl) rfl #[.string a1] rfl (by (try simp only [δd,δe,δf]);rfl) ?_;(with_reducible refine (impl_readFields.calls k a1 t722 t723 _ A3.out).mono ?_);rintro e w6 ⟨v724,rfl,ho0,hb⟩;refine ⟨_,rfl,?_⟩;have n0_:=ζa (Kd.R_lower ho0 (δs (by exact HB.out)));have n1_:=ζa (blk_below (g:=gb721) (o:=.cells #[.string (⟨#[]⟩:ByteArray),.string (⟨#[]⟩:ByteArray),.int .i64 0,.int .i64 0,.int .i64 0,.bool φ] 66 (0,0)) (by exact BK721.out) hb);have n2_:=ζa (δr (by exact HB.out) hb);clear BK721;clear HB;have HO725:=n0_;have BK721:=n1_;have HB:=n2_;clear n0_ n1_ n2_;(try clear hb);(try clear hb2);(try clear hk);(try clear hi);(try clear ho0)))
 (try simp only [ζl,δa,δb,δc])
 go_cut [20] (fun v20 wc => ∃ (kq:Nat) (x20_3:Bool),v20 = .bool x20_3∧Aside0 (impl_orderOf.j0 kq a0 a1 t722 x20_3=some (r1,r2,r3,r4,r5,r6,r7))∧Aside0 (kq≤k)∧Aside0 (Kd.R Kd.string 9 wc w.heap.size (fun _=>True) v724 t722)∧Aside0 (wc.heap[gb721]? = some (.cells #[.string (⟨#[]⟩:ByteArray),.string (⟨#[]⟩:ByteArray),.int .i64 0,.int .i64 0,.int .i64 0,.bool φ] 66 (0,0)))∧Aside0 (Below w.heap.size w wc))
 case first =>
  have H:=HC4.out
  clear HC4
  by_cases c7:t723=τ
  ·
   subst c7
   have H1:(impl_orderOf.j0 k a0 a1 t722 ((t722.length:Int) != 5))=some (r1,r2,r3,r4,r5,r6,r7):=by rw [if_pos rfl] at H;exact H
   clear H
   have H:=H1
   clear H1
   have H':=ζa H
   clear H
   obtain ⟨Ao8,co8,eo8⟩:=Kd.R_slice HO725.out
   subst eo8
   go_wp2
   go_meet
   case rel=>exact ⟨_,(((t722.length:Int) != 5)),(by rfl),H',⟨by omega⟩,⟨by exact HO725.out⟩,⟨by exact BK721.out⟩,⟨by repeat ((with_reducible exact HB.out))⟩⟩
  ·
   replace c7:=Bool.eq_false_iff.mpr c7
   subst c7
   have H1:(impl_orderOf.j0 k a0 a1 t722 τ)=some (r1,r2,r3,r4,r5,r6,r7):=by rw [if_neg (show ¬ (φ=τ) by decide)] at H;exact H
   clear H
   have H:=H1
   clear H1
   have H':=ζa H
   clear H
   go_wp2
   go_meet
   case rel=>exact ⟨_,(τ),(by rfl),H',⟨by omega⟩,⟨by exact HO725.out⟩,⟨by exact BK721.out⟩,⟨by repeat ((with_reducible exact HB.out))⟩⟩
 case rest =>
  clear HC4
  try clear c1
  try clear p2
  try clear c7
  obtain ⟨kq,x20_3,rfl,HA,HJ3,HO_6,BK721,HB⟩:=hcut
  cases kq with
  | zero=>exact absurd HA.out (by simp [impl_orderOf.j0])
  | succ kj3 =>
   have H:=HA.out
   clear HA
   simp only [impl_orderOf.j0] at H
   by_cases c9:x20_3=τ
   ·
    subst c9
    have H1:(some ((⟨#[]⟩:ByteArray),(⟨#[]⟩:ByteArray),0,0,0,φ,φ))=some (r1,r2,r3,r4,r5,r6,r7):=by rw [if_pos rfl] at H;exact H
    clear H
    have H:=H1
    clear H1
    simp only [Option.some.injEq,Prod.mk.injEq] at H
    obtain ⟨rfl,rfl,rfl,rfl,rfl,rfl,rfl⟩:=H
    have hcz10_0:wc.cell? ⟨gb721,0,none⟩=some (.string (⟨#[]⟩:ByteArray)):=(δl BK721.out 0).trans rfl
    have hcz10_1:wc.cell? ⟨gb721,1,none⟩=some (.string (⟨#[]⟩:ByteArray)):=(δl BK721.out 1).trans rfl
    have hcz10_2:wc.cell? ⟨gb721,2,none⟩=some (.int .i64 0):=(δl BK721.out 2).trans rfl
    have hcz10_3:wc.cell? ⟨gb721,3,none⟩=some (.int .i64 0):=(δl BK721.out 3).trans rfl
    have hcz10_4:wc.cell? ⟨gb721,4,none⟩=some (.int .i64 0):=(δl BK721.out 4).trans rfl
    have hcz10_5:wc.cell? ⟨gb721,5,none⟩=some (.bool φ):=(δl BK721.out 5).trans rfl
    have hfz10_0:=δm BK721.out 0
    have hfz10_1:=δm BK721.out 1
    have hfz10_2:=δm BK721.out 2
    have hfz10_3:=δm BK721.out 3
    have hfz10_4:=δm BK721.out 4
    have hfz10_5:=δm BK721.out 5
    go_wp2
    refine bodyPost_ret (results_ct rfl _ _ gb721 66 #[.string (⟨#[]⟩:ByteArray),.string (⟨#[]⟩:ByteArray),.int .i64 0,.int .i64 0,.int .i64 0,.bool φ] (0,0) _ rfl (by refine δw (cs:=#[.string (⟨#[]⟩:ByteArray),.string (⟨#[]⟩:ByteArray),.int .i64 0,.int .i64 0,.int .i64 0,.bool φ]) ?_ 5 _ rfl;refine δw (cs:=#[.string (⟨#[]⟩:ByteArray),.string (⟨#[]⟩:ByteArray),.int .i64 0,.int .i64 0,.int .i64 0,.bool φ]) ?_ 4 _ rfl;refine δw (cs:=#[.string (⟨#[]⟩:ByteArray),.string (⟨#[]⟩:ByteArray),.int .i64 0,.int .i64 0,.int .i64 0,.bool φ]) ?_ 3 _ rfl;refine δw (cs:=#[.string (⟨#[]⟩:ByteArray),.string (⟨#[]⟩:ByteArray),.int .i64 0,.int .i64 0,.int .i64 0,.bool φ]) ?_ 2 _ rfl;refine δw (cs:=#[.string (⟨#[]⟩:ByteArray),.string (⟨#[]⟩:ByteArray),.int .i64 0,.int .i64 0,.int .i64 0,.bool φ]) ?_ 1 _ rfl;refine δw (cs:=#[.string (⟨#[]⟩:ByteArray),.string (⟨#[]⟩:ByteArray),.int .i64 0,.int .i64 0,.int .i64 0,.bool φ]) ?_ 0 _ rfl;exact BK721.out) Tryz.underlying66 rfl (by kernel_rfl)) rfl ?_
    exact ⟨by rfl,by repeat ((with_reducible first|exact HB.out|refine δq ?_ GE721.out))⟩
   ·
    replace c9:=Bool.eq_false_iff.mpr c9
    subst c9
    have H1:(if 0<(t722.length:Int) then (if 4<(t722.length:Int) then (if 1<(t722.length:Int) then ((impl_readAmount.f (rdOf ByteArray.empty t722 1)).bind fun bt730=>(if 2<(t722.length:Int) then ((impl_readAmount.f (rdOf ByteArray.empty t722 2)).bind fun bt733=>(if 3<(t722.length:Int) then ((impl_readAmount.f (rdOf ByteArray.empty t722 3)).bind fun bt736=>((impl_OrderOK.f kj3 a0 (rdOf ByteArray.empty t722 0) bt730.1 bt733.1 bt736.1 ((rdOf ByteArray.empty t722 4).toList == ([111,112,101,110]:List UInt8))).bind fun t738=>(if t738=τ then ((impl_Order_value.f kj3 a0 (rdOf ByteArray.empty t722 0) bt730.1 bt733.1 bt736.1 ((rdOf ByteArray.empty t722 4).toList == ([111,112,101,110]:List UInt8))).bind fun t739=>(some (a0,rdOf ByteArray.empty t722 0,bt730.1,bt733.1,bt736.1,((rdOf ByteArray.empty t722 4).toList == ([111,112,101,110]:List UInt8)),(t739.toList == a1.toList)))) else (some (a0,rdOf ByteArray.empty t722 0,bt730.1,bt733.1,bt736.1,((rdOf ByteArray.empty t722 4).toList == ([111,112,101,110]:List UInt8)),φ))))) else (none))) else (none))) else (none)) else (none)) else (none))=some (r1,r2,r3,r4,r5,r6,r7):=by rw [if_neg (show ¬ (φ=τ) by decide)] at H;exact H
    clear H
    have H:=H1
    clear H1
    by_cases c11:0<(t722.length:Int)
    ·
     rw [if_pos c11] at H
     have c11b0:decide (0<(t722.length:Int))=τ:=decide_eq_true c11
     have c11b1:decide (0<t722.length)=τ:=decide_eq_true (by omega)
     clear c11
     by_cases c12:4<(t722.length:Int)
     ·
      rw [if_pos c12] at H
      have c12b0:decide (4<(t722.length:Int))=τ:=decide_eq_true c12
      have c12b1:decide (4<t722.length)=τ:=decide_eq_true (by omega)
      clear c12
      by_cases c13:1<(t722.length:Int)
      ·
       rw [if_pos c13] at H
       have c13b0:decide (1<(t722.length:Int))=τ:=decide_eq_true c13
       have c13b1:decide (1<t722.length)=τ:=decide_eq_true (by omega)
       clear c13
       replace H:=Option.bind_eq_some_iff.mp H
       obtain ⟨⟨t730,t731⟩,A140,H⟩:=H
       replace H:(if 2<(t722.length:Int) then ((impl_readAmount.f (rdOf ByteArray.empty t722 2)).bind fun bt733=>(if 3<(t722.length:Int) then ((impl_readAmount.f (rdOf ByteArray.empty t722 3)).bind fun bt736=>((impl_OrderOK.f kj3 a0 (rdOf ByteArray.empty t722 0) t730 bt733.1 bt736.1 ((rdOf ByteArray.empty t722 4).toList == ([111,112,101,110]:List UInt8))).bind fun t738=>(if t738=τ then ((impl_Order_value.f kj3 a0 (rdOf ByteArray.empty t722 0) t730 bt733.1 bt736.1 ((rdOf ByteArray.empty t722 4).toList == ([111,112,101,110]:List UInt8))).bind fun t739=>(some (a0,rdOf ByteArray.empty t722 0,t730,bt733.1,bt736.1,((rdOf ByteArray.empty t722 4).toList == ([111,112,101,110]:List UInt8)),(t739.toList == a1.toList)))) else (some (a0,rdOf ByteArray.empty t722 0,t730,bt733.1,bt736.1,((rdOf ByteArray.empty t722 4).toList == ([111,112,101,110]:List UInt8)),φ))))) else (none))) else (none))=some (r1,r2,r3,r4,r5,r6,r7):=H
       have A14:=ζa A140
       clear A140
       by_cases c15:2<(t722.length:Int)
       ·
        rw [if_pos c15] at H
        have c15b0:decide (2<(t722.length:Int))=τ:=decide_eq_true c15
        have c15b1:decide (2<t722.length)=τ:=decide_eq_true (by omega)
        clear c15
        replace H:=Option.bind_eq_some_iff.mp H
        obtain ⟨⟨t733,t734⟩,A160,H⟩:=H
        replace H:(if 3<(t722.length:Int) then ((impl_readAmount.f (rdOf ByteArray.empty t722 3)).bind fun bt736=>((impl_OrderOK.f kj3 a0 (rdOf ByteArray.empty t722 0) t730 t733 bt736.1 ((rdOf ByteArray.empty t722 4).toList == ([111,112,101,110]:List UInt8))).bind fun t738=>(if t738=τ then ((impl_Order_value.f kj3 a0 (rdOf ByteArray.empty t722 0) t730 t733 bt736.1 ((rdOf ByteArray.empty t722 4).toList == ([111,112,101,110]:List UInt8))).bind fun t739=>(some (a0,rdOf ByteArray.empty t722 0,t730,t733,bt736.1,((rdOf ByteArray.empty t722 4).toList == ([111,112,101,110]:List UInt8)),(t739.toList == a1.toList)))) else (some (a0,rdOf ByteArray.empty t722 0,t730,t733,bt736.1,((rdOf ByteArray.empty t722 4).toList == ([111,112,101,110]:List UInt8)),φ))))) else (none))=some (r1,r2,r3,r4,r5,r6,r7):=H
        have A16:=ζa A160
        clear A160
        by_cases c17:3<(t722.length:Int)
        ·
         rw [if_pos c17] at H
         have c17b0:decide (3<(t722.length:Int))=τ:=decide_eq_true c17
         have c17b1:decide (3<t722.length)=τ:=decide_eq_true (by omega)
         clear c17
         replace H:=Option.bind_eq_some_iff.mp H
         obtain ⟨⟨t736,t737⟩,A180,H⟩:=H
         replace H:((impl_OrderOK.f kj3 a0 (rdOf ByteArray.empty t722 0) t730 t733 t736 ((rdOf ByteArray.empty t722 4).toList == ([111,112,101,110]:List UInt8))).bind fun t738=>(if t738=τ then ((impl_Order_value.f kj3 a0 (rdOf ByteArray.empty t722 0) t730 t733 t736 ((rdOf ByteArray.empty t722 4).toList == ([111,112,101,110]:List UInt8))).bind fun t739=>(some (a0,rdOf ByteArray.empty t722 0,t730,t733,t736,((rdOf ByteArray.empty t722 4).toList == ([111,112,101,110]:List UInt8)),(t739.toList == a1.toList)))) else (some (a0,rdOf ByteArray.empty t722 0,t730,t733,t736,((rdOf ByteArray.empty t722 4).toList == ([111,112,101,110]:List UInt8)),φ))))=some (r1,r2,r3,r4,r5,r6,r7):=H
         have A18:=ζa A180
         clear A180
         replace H:=Option.bind_eq_some_iff.mp H
         obtain ⟨t738,A190,H⟩:=H
         replace H:(if t738=τ then ((impl_Order_value.f kj3 a0 (rdOf ByteArray.empty t722 0) t730 t733 t736 ((rdOf ByteArray.empty t722 4).toList == ([111,112,101,110]:List UInt8))).bind fun t739=>(some (a0,rdOf ByteArray.empty t722 0,t730,t733,t736,((rdOf ByteArray.empty t722 4).toList == ([111,112,101,110]:List UInt8)),(t739.toList == a1.toList)))) else (some (a0,rdOf ByteArray.empty t722 0,t730,t733,t736,((rdOf ByteArray.empty t722 4).toList == ([111,112,101,110]:List UInt8)),φ)))=some (r1,r2,r3,r4,r5,r6,r7):=H
         have A19:=ζa A190
         clear A190
         by_cases c20:t738=τ
         ·
          subst c20
          have H1:((impl_Order_value.f kj3 a0 (rdOf ByteArray.empty t722 0) t730 t733 t736 ((rdOf ByteArray.empty t722 4).toList == ([111,112,101,110]:List UInt8))).bind fun t739=>(some (a0,rdOf ByteArray.empty t722 0,t730,t733,t736,((rdOf ByteArray.empty t722 4).toList == ([111,112,101,110]:List UInt8)),(t739.toList == a1.toList))))=some (r1,r2,r3,r4,r5,r6,r7):=by rw [if_pos rfl] at H;exact H
          clear H
          have H:=H1
          clear H1
          replace H:=Option.bind_eq_some_iff.mp H
          obtain ⟨t739,A210,H⟩:=H
          replace H:(some (a0,rdOf ByteArray.empty t722 0,t730,t733,t736,((rdOf ByteArray.empty t722 4).toList == ([111,112,101,110]:List UInt8)),(t739.toList == a1.toList)))=some (r1,r2,r3,r4,r5,r6,r7):=H
          have A21:=ζa A210
          clear A210
          simp only [Option.some.injEq,Prod.mk.injEq] at H
          obtain ⟨rfl,rfl,rfl,rfl,rfl,rfl,rfl⟩:=H
          try go_wp2
          have n0_:=ζa (ζe HO_6.out)
          have n1_:=ζa (δp BK721.out)
          have n2_:=ζa (δj HB.out)
          clear HO_6
          clear BK721
          clear HB
          have HO_6:=n0_
          have BK721:=n1_
          have HB:=n2_
          clear n0_ n1_ n2_
          obtain ⟨Ao23,co23,eo23⟩:=Kd.R_slice HO_6.out
          (subst eo23)
          have p726:0≤(0:Int):=(by omega)
          have q726:0<(t722.length:Int):=of_decide_eq_true (by (with_reducible assumption))
          obtain ⟨ad726,e726,hx726_0⟩:=Kd.at_string (ζg HO_6.out).2.2 0 p726 q726
          cases e726
          have qi726:(0<t722.length)=True:=eq_true (by omega)
          (try rw [show ((0:Int)).toNat=0 from rfl] at hx726_0)
          (try rw [Addr.add_zero'] at hx726_0)
          replace p726:=eq_true p726
          replace q726:=eq_true q726
          have p727:0≤(4:Int):=(by omega)
          have q727:4<(t722.length:Int):=of_decide_eq_true (by (with_reducible assumption))
          obtain ⟨ad727,e727,hx727_0⟩:=Kd.at_string (ζg HO_6.out).2.2 4 p727 q727
          obtain rfl:ad726=ad727:=(by injection e727)
          (try simp only [show (4:Int).toNat=4 from rfl,Nat.reduceMul,Nat.reduceEqDiff,Go.Addr.add,↓reduceIte] at hx727_0)
          have qi727:(4<t722.length)=True:=eq_true (by omega)
          (try rw [show ((4:Int)).toNat=4 from rfl] at hx727_0)
          replace p727:=eq_true p727
          replace q727:=eq_true q727
          refine start_ (n:=11) (S:=fun w'=>w'.cell? ad726=some (.string (rdOf ByteArray.empty t722 0))∧w'.cell? ⟨ad726.block,ad726.off+4,none⟩=some (.string (rdOf ByteArray.empty t722 4))) (ds:=[]) #[φ,φ,φ,φ,φ,φ,φ,φ,φ,φ,φ] (by kernel_rfl) rfl rfl ⟨hx726_0,hx727_0⟩ (fun hHeld => ?_);refine with_tabW impl_orderOf.tab4 impl_orderOf.bits4 (fun HT_ HW_ => ?_)
          generalize wc.drew=w22 at HO_6 BK721 HB hx726_0 hx727_0 hHeld ⊢
          refine ζk (i:=0) (N:=some 22) (v:=?_) (a':=?_) #[τ,φ,φ,φ,φ,φ,φ,φ,φ,φ,φ] rfl rfl (ζj HT_.out (by kernel_rfl)) (fun _ _ _ h=>h) (Or.inl ⟨by rfl,?_⟩) ?_ ?_
          rotate_left
          · intro w';go_simp;with_reducible rfl
          rotate_left
          · simp only [ζl,δa,δb,δc,i64_w,i32_w];rfl
          refine ζk (i:=1) (N:=some 23) (v:=?_) (a':=?_) #[τ,τ,φ,φ,φ,φ,φ,φ,φ,φ,φ] rfl rfl (ζj HT_.out (by kernel_rfl)) (fun _ _ _ h=>h) (Or.inl ⟨by rfl,?_⟩) ?_ ?_
          rotate_left
          · intro w';go_simp;with_reducible rfl
          rotate_left
          · simp only [ζl,δa,δb,δc,i64_w,i32_w];rfl
          refine ζk (i:=2) (N:=some 24) (v:=?_) (a':=?_) #[τ,τ,τ,φ,φ,φ,φ,φ,φ,φ,φ] rfl rfl (ζj HT_.out (by kernel_rfl)) (fun _ _ _ h=>h) (Or.inl ⟨by rfl,?_⟩) ?_ ?_
          rotate_left
          · intro w';go_simp;with_reducible rfl
          rotate_left
          · simp only [ζl,δa,δb,δc,i64_w,i32_w];rfl
          refine ζk (i:=4) (N:=some 26) (v:=?_) (a':=?_) #[τ,τ,τ,φ,τ,φ,φ,φ,φ,φ,φ] rfl rfl (ζj HT_.out (by kernel_rfl)) (fun _ _ _ h=>h) (Or.inl ⟨by rfl,?_⟩) ?_ ?_
          rotate_left
          · intro w';go_simp;with_reducible rfl
          rotate_left
          · simp only [ζl,δa,δb,δc,i64_w,i32_w];rfl
          refine ζk (i:=5) (N:=some 27) (v:=?_) (a':=?_) #[τ,τ,τ,φ,τ,τ,φ,φ,φ,φ,φ] rfl rfl (ζj HT_.out (by kernel_rfl)) (fun _ _ _ h=>h) (Or.inl ⟨by rfl,?_⟩) ?_ ?_
          rotate_left
          · intro w';go_simp;with_reducible rfl
          rotate_left
          · simp only [ζl,δa,δb,δc,i64_w,i32_w];rfl
          refine take_ (i:=3) (N:=some 25) (v:=?_) (a':=?_) #[τ,τ,τ,τ,τ,τ,φ,φ,φ,φ,φ] rfl rfl (take_ofW HT_.out HW_.out (by kernel_rfl)) (fun _ _ _ h=>h) (Or.inl ⟨by rfl,?_⟩) hHeld ?_ ?_
          rotate_left
          · rintro w' ⟨s0,s1⟩;go_simp;with_reducible rfl
          rotate_left
          · simp only [ζl,δa,δb,δc,i64_w,i32_w];rfl
          refine take_ (i:=6) (N:=some 28) (v:=?_) (a':=?_) #[τ,τ,τ,τ,τ,τ,τ,φ,φ,φ,φ] rfl rfl (take_ofW HT_.out HW_.out (by kernel_rfl)) (fun _ _ _ h=>h) (Or.inl ⟨by rfl,?_⟩) hHeld ?_ ?_
          rotate_left
          · rintro w' ⟨s0,s1⟩;go_simp;with_reducible rfl
          rotate_left
          · simp only [ζl,δa,δb,δc,i64_w,i32_w];rfl
          refine ζk (i:=7) (N:=some 29) (v:=?_) (a':=?_) #[τ,τ,τ,τ,τ,τ,τ,τ,φ,φ,φ] rfl rfl (ζj HT_.out (by kernel_rfl)) (fun _ _ _ h=>h) (Or.inl ⟨by rfl,?_⟩) ?_ ?_
          rotate_left
          · intro w';go_simp;with_reducible rfl
          rotate_left
          · simp only [ζl,δa,δb,δc,i64_w,i32_w];rfl
          refine ζk (i:=8) (N:=some 30) (v:=?_) (a':=?_) #[τ,τ,τ,τ,τ,τ,τ,τ,τ,φ,φ] rfl rfl (ζj HT_.out (by kernel_rfl)) (fun _ _ _ h=>h) (Or.inl ⟨by rfl,?_⟩) ?_ ?_
          rotate_left
          · intro w';go_simp;with_reducible rfl
          rotate_left
          · simp only [ζl,δa,δb,δc,i64_w,i32_w];rfl
          refine one_ (i:=9) (N:=some 8) #[τ,τ,τ,τ,τ,τ,τ,τ,τ,τ,φ] rfl rfl (one_of HT_.out (by kernel_rfl)) (by decide) (fun K hK => ?_)
          refine box_step ?hg (N:=8) ?hd (cs:=#[.string (⟨#[]⟩:ByteArray),.string (⟨#[]⟩:ByteArray),.int .i64 0,.int .i64 0,.int .i64 0,.bool φ]) (t:=66) ?hr ?_;(case hd=>rfl);(case hg=>rfl);(case hr=>(go_simp;done))
          intro gb728 hg w24 hbox hb
          have HS0_:=(hb.cell (World.block_lt_of_cell? _ _ (hHeld.1))).trans (hHeld.1)
          have HS1_:=(hb.cell (World.block_lt_of_cell? _ _ (hHeld.2))).trans (hHeld.2)
          have n0_:=ζa (ζh (by exact HO_6.out) hb)
          have n1_:=ζa (blk_below (g:=gb721) (o:=.cells #[.string (⟨#[]⟩:ByteArray),.string (⟨#[]⟩:ByteArray),.int .i64 0,.int .i64 0,.int .i64 0,.bool φ] 66 (0,0)) (by exact BK721.out) hb)
          have n2_:=ζa (δr (by exact HB.out) hb)
          have n3_:=ζa (hbox)
          have n4_:=ζa ((by rw [hg];exact (δs (by exact HB.out)):w.heap.size≤gb728))
          have n5_:=ζa ((by rw [hg];exact (δs (by exact HB.out)):w.heap.size≤gb728))
          have n6_:=ζa ((by rw [hg];exact Nat.ne_of_lt (blk_lt (g:=gb721) (o:=.cells #[.string (⟨#[]⟩:ByteArray),.string (⟨#[]⟩:ByteArray),.int .i64 0,.int .i64 0,.int .i64 0,.bool φ] 66 (0,0)) (by exact BK721.out)):gb721≠gb728))
          have n7_:=ζa ((by rw [hg];exact Nat.ne_of_gt (blk_lt (g:=gb721) (o:=.cells #[.string (⟨#[]⟩:ByteArray),.string (⟨#[]⟩:ByteArray),.int .i64 0,.int .i64 0,.int .i64 0,.bool φ] 66 (0,0)) (by exact BK721.out)):gb728≠gb721))
          clear HO_6
          clear BK721
          clear HB
          have HO_6:=n0_
          have BK721:=n1_
          have HB:=n2_
          have BK728:=n3_
          have GW728:=n4_
          have GE728:=n5_
          have NB721_728:=n6_
          have NB728_721:=n7_
          clear n0_ n1_ n2_ n3_ n4_ n5_ n6_ n7_
          clear hb hbox hg
          refine hK.out _ _ ⟨HS0_,HS1_⟩ (fun hHeld => ?_)
          clear hK K
          refine norm_ (a':=?_) ?_ ?_
          rotate_left
          ·
           show ζl _ (some 8) _=_
           simp only [ζl,δa,δb,δc,i64_w,i32_w];rfl
          refine one_ (i:=10) (N:=none) #[τ,τ,τ,τ,τ,τ,τ,τ,τ,τ,τ] rfl rfl (one_of HT_.out (by kernel_rfl)) (by decide) (fun K hK => ?_)
          have hs25:w24.cell? ⟨gb728,0,none⟩=some (.string (⟨#[]⟩:ByteArray)):=(δl BK728.out 0).trans rfl
          have hfs25:=δm BK728.out 0
          have hns25_0:=NB721_728.out
          have hms25_0:=NB728_721.out
          have hs26:w24.cell? ⟨gb728,1,none⟩=some (.string (⟨#[]⟩:ByteArray)):=(δl BK728.out 1).trans rfl
          have hfs26:=δm BK728.out 1
          have hns26_0:=NB721_728.out
          have hms26_0:=NB728_721.out
          have hs27:w24.cell? ⟨gb728,2,none⟩=some (.int .i64 0):=(δl BK728.out 2).trans rfl
          have hfs27:=δm BK728.out 2
          have hns27_0:=NB721_728.out
          have hms27_0:=NB728_721.out
          have hs28:w24.cell? ⟨gb728,3,none⟩=some (.int .i64 0):=(δl BK728.out 3).trans rfl
          have hfs28:=δm BK728.out 3
          have hns28_0:=NB721_728.out
          have hms28_0:=NB728_721.out
          have hs29:w24.cell? ⟨gb728,4,none⟩=some (.int .i64 0):=(δl BK728.out 4).trans rfl
          have hfs29:=δm BK728.out 4
          have hns29_0:=NB721_728.out
          have hms29_0:=NB728_721.out
          have hs30:w24.cell? ⟨gb728,5,none⟩=some (.bool φ):=(δl BK728.out 5).trans rfl
          have hfs30:=δm BK728.out 5
          have hns30_0:=NB721_728.out
          have hms30_0:=NB728_721.out
          refine skip_ (w1:=?_) (by rfl) rfl ?_ ?_
          rotate_left
          ·
           go_simp
           rfl
          refine hK.out _ _ ⟨((δt (p:=⟨gb728,_,none⟩) (by exact ζb (ζf HO_6.out BK728.out (by decide))) _).trans (((δt (p:=⟨gb728,_,none⟩) (by exact ζb (ζf HO_6.out BK728.out (by decide))) _).trans (((δt (p:=⟨gb728,_,none⟩) (by exact ζb (ζf HO_6.out BK728.out (by decide))) _).trans (((δt (p:=⟨gb728,_,none⟩) (by exact ζb (ζf HO_6.out BK728.out (by decide))) _).trans (((δt (p:=⟨gb728,_,none⟩) (by exact ζb (ζf HO_6.out BK728.out (by decide))) _).trans (((δt (p:=⟨gb728,_,none⟩) (by exact ζb (ζf HO_6.out BK728.out (by decide))) _).trans (hHeld.1)))))))))))),((δt (p:=⟨gb728,_,none⟩) (by (dsimp only;exact ζb (ζf HO_6.out BK728.out (by decide)))) _).trans (((δt (p:=⟨gb728,_,none⟩) (by (dsimp only;exact ζb (ζf HO_6.out BK728.out (by decide)))) _).trans (((δt (p:=⟨gb728,_,none⟩) (by (dsimp only;exact ζb (ζf HO_6.out BK728.out (by decide)))) _).trans (((δt (p:=⟨gb728,_,none⟩) (by (dsimp only;exact ζb (ζf HO_6.out BK728.out (by decide)))) _).trans (((δt (p:=⟨gb728,_,none⟩) (by (dsimp only;exact ζb (ζf HO_6.out BK728.out (by decide)))) _).trans (((δt (p:=⟨gb728,_,none⟩) (by (dsimp only;exact ζb (ζf HO_6.out BK728.out (by decide)))) _).trans (hHeld.2))))))))))))⟩ (fun hHeld => ?_)
          clear hK K
          refine done_ (done_of HT_.out (by kernel_rfl)) ?_
          have p729:0≤(1:Int):=(by omega)
          have q729:1<(t722.length:Int):=of_decide_eq_true (by (with_reducible assumption))
          obtain ⟨ad729,e729,hx729_0⟩:=Kd.at_string (ζg HO_6.out).2.2 1 p729 q729
          obtain rfl:ad726=ad729:=(by injection e729)
          (try simp only [show (1:Int).toNat=1 from rfl,Nat.reduceMul,Nat.reduceEqDiff,Go.Addr.add,↓reduceIte] at hx729_0)
          have qi729:(1<t722.length)=True:=eq_true (by omega)
          (try rw [show ((1:Int)).toNat=1 from rfl] at hx729_0)
          have hn729_0:ad726.block≠gb728:=ζb (ζf HO_6.out BK728.out (by decide))
          have hn729_1:ad726.block≠gb728:=ζb (ζf HO_6.out BK728.out (by decide))
          have hn729_2:ad726.block≠gb728:=ζb (ζf HO_6.out BK728.out (by decide))
          have hn729_3:ad726.block≠gb728:=ζb (ζf HO_6.out BK728.out (by decide))
          have hn729_4:ad726.block≠gb728:=ζb (ζf HO_6.out BK728.out (by decide))
          have hn729_5:ad726.block≠gb728:=ζb (ζf HO_6.out BK728.out (by decide))
          replace hx729_0:=(δt (p:=⟨gb728,0,none⟩) (by exact hn729_0) (.string a0)).trans hx729_0
          replace hx729_0:=(δt (p:=⟨gb728,1,none⟩) (by exact hn729_1) (.string (rdOf ByteArray.empty t722 0))).trans hx729_0
          replace hx729_0:=(δt (p:=⟨gb728,2,none⟩) (by exact hn729_2) (.int .i64 0)).trans hx729_0
          replace hx729_0:=(δt (p:=⟨gb728,3,none⟩) (by exact hn729_3) (.int .i64 0)).trans hx729_0
          replace hx729_0:=(δt (p:=⟨gb728,4,none⟩) (by exact hn729_4) (.int .i64 0)).trans hx729_0
          replace hx729_0:=(δt (p:=⟨gb728,5,none⟩) (by exact hn729_5) (.bool ((rdOf ByteArray.empty t722 4).toList == ([111,112,101,110]:List UInt8)))).trans hx729_0
          clear hn729_0
          clear hn729_1
          clear hn729_2
          clear hn729_3
          clear hn729_4
          clear hn729_5
          replace p729:=eq_true p729
          replace q729:=eq_true q729
          try go_wp2_with (first|((with_reducible refine δv (f:=151) rfl ?_);refine goesL_ (some 35) rfl rfl Tryz.func151 (by kernel_rfl) rfl #[.string (rdOf ByteArray.empty t722 1)] rfl (by (try simp only [δd,δe,δf]);rfl) ?_;(with_reducible refine (impl_readAmount.calls (rdOf ByteArray.empty t722 1) t730 t731 _ (HT0.out.below (by repeat ((with_reducible first|exact HB.out|refine δq ?_ GE728.out)))) A14.out).mono ?_);rintro e w31 ⟨rfl,hb⟩;refine ⟨_,rfl,?_⟩;have n0_:=ζa (ζh (by exact (Kd.R_mono (ζi (p:=⟨gb728,5,none⟩) (ζi (p:=⟨gb728,4,none⟩) (ζi (p:=⟨gb728,3,none⟩) (ζi (p:=⟨gb728,2,none⟩) (ζi (p:=⟨gb728,1,none⟩) (ζi (p:=⟨gb728,0,none⟩) (Kd.R_types HO_6.out BK728.out (by decide)) (fun _ hk=>hk.2) (.string a0)) (fun _ hk=>hk.2) (.string (rdOf ByteArray.empty t722 0))) (fun _ hk=>hk.2) (.int .i64 0)) (fun _ hk=>hk.2) (.int .i64 0)) (fun _ hk=>hk.2) (.int .i64 0)) (fun _ hk=>hk.2) (.bool ((rdOf ByteArray.empty t722 4).toList == ([111,112,101,110]:List UInt8)))) (fun _ h_=>h_.1))) hb);have n1_:=ζa (blk_below (g:=gb721) (o:=.cells #[.string (⟨#[]⟩:ByteArray),.string (⟨#[]⟩:ByteArray),.int .i64 0,.int .i64 0,.int .i64 0,.bool φ] 66 (0,0)) (by refine blk_far ?_ NB721_728.out _;refine blk_far ?_ NB721_728.out _;refine blk_far ?_ NB721_728.out _;refine blk_far ?_ NB721_728.out _;refine blk_far ?_ NB721_728.out _;refine blk_far ?_ NB721_728.out _;exact BK721.out) hb);have n2_:=ζa (blk_below (g:=gb728) (o:=.cells #[.string a0,.string (rdOf ByteArray.empty t722 0),.int .i64 0,.int .i64 0,.int .i64 0,.bool ((rdOf ByteArray.empty t722 4).toList == ([111,112,101,110]:List UInt8))] 66 (0,0)) (by refine δw (cs:=#[.string a0,.string (rdOf ByteArray.empty t722 0),.int .i64 0,.int .i64 0,.int .i64 0,.bool φ]) ?_ 5 _ rfl;refine δw (cs:=#[.string a0,.string (rdOf ByteArray.empty t722 0),.int .i64 0,.int .i64 0,.int .i64 0,.bool φ]) ?_ 4 _ rfl;refine δw (cs:=#[.string a0,.string (rdOf ByteArray.empty t722 0),.int .i64 0,.int .i64 0,.int .i64 0,.bool φ]) ?_ 3 _ rfl;refine δw (cs:=#[.string a0,.string (rdOf ByteArray.empty t722 0),.int .i64 0,.int .i64 0,.int .i64 0,.bool φ]) ?_ 2 _ rfl;refine δw (cs:=#[.string a0,.string (⟨#[]⟩:ByteArray),.int .i64 0,.int .i64 0,.int .i64 0,.bool φ]) ?_ 1 _ rfl;refine δw (cs:=#[.string (⟨#[]⟩:ByteArray),.string (⟨#[]⟩:ByteArray),.int .i64 0,.int .i64 0,.int .i64 0,.bool φ]) ?_ 0 _ rfl;exact BK728.out) hb);have n3_:=ζa (δr (by repeat ((with_reducible first|exact HB.out|refine δq ?_ GE728.out))) hb);clear HO_6;clear BK721;clear BK728;clear HB;have HO_6:=n0_;have BK721:=n1_;have BK728:=n2_;have HB:=n3_;clear n0_ n1_ n2_ n3_;(try clear hb);(try clear hb2);(try clear hk);(try clear hi);have hnb32:=NB728_721.out;have hnc32:=NB721_728.out;have hcz33_0:w31.cell? ⟨gb728,0,none⟩=some (.string a0):=(δl BK728.out 0).trans rfl;have hcz33_1:w31.cell? ⟨gb728,1,none⟩=some (.string (rdOf ByteArray.empty t722 0)):=(δl BK728.out 1).trans rfl;have hcz33_2:w31.cell? ⟨gb728,2,none⟩=some (.int .i64 0):=(δl BK728.out 2).trans rfl;have hcz33_3:w31.cell? ⟨gb728,3,none⟩=some (.int .i64 0):=(δl BK728.out 3).trans rfl;have hcz33_4:w31.cell? ⟨gb728,4,none⟩=some (.int .i64 0):=(δl BK728.out 4).trans rfl;have hcz33_5:w31.cell? ⟨gb728,5,none⟩=some (.bool ((rdOf ByteArray.empty t722 4).toList == ([111,112,101,110]:List UInt8))):=(δl BK728.out 5).trans rfl;have hfz33_0:=δm BK728.out 0;have hfz33_1:=δm BK728.out 1;have hfz33_2:=δm BK728.out 2;have hfz33_3:=δm BK728.out 3;have hfz33_4:=δm BK728.out 4;have hfz33_5:=δm BK728.out 5;have p732:0≤(2:Int):=(by omega);have q732:2<(t722.length:Int):=of_decide_eq_true (by (with_reducible assumption));obtain ⟨ad732,e732,hx732_0⟩:=Kd.at_string (ζg HO_6.out).2.2 2 p732 q732;obtain rfl:ad726=ad732:=(by injection e732);(try simp only [show (2:Int).toNat=2 from rfl,Nat.reduceMul,Nat.reduceEqDiff,Go.Addr.add,↓reduceIte] at hx732_0);have qi732:(2<t722.length)=True:=eq_true (by omega);(try rw [show ((2:Int)).toNat=2 from rfl] at hx732_0);have hn732_0:ad726.block≠gb728:=ζb (ζf HO_6.out BK728.out (by decide));replace hx732_0:=(δt (p:=⟨gb728,2,none⟩) (by exact hn732_0) (.int .i64 t730)).trans hx732_0;clear hn732_0;replace p732:=eq_true p732;replace q732:=eq_true q732)|((with_reducible refine δv (f:=151) rfl ?_);refine goesL_ (some 43) rfl rfl Tryz.func151 (by kernel_rfl) rfl #[.string (rdOf ByteArray.empty t722 2)] rfl (by (try simp only [δd,δe,δf]);rfl) ?_;(with_reducible refine (impl_readAmount.calls (rdOf ByteArray.empty t722 2) t733 t734 _ (HT0.out.below (by repeat ((with_reducible first|exact HB.out|refine δq ?_ GE728.out)))) A16.out).mono ?_);rintro e w34 ⟨rfl,hb⟩;refine ⟨_,rfl,?_⟩;have n0_:=ζa (ζh (by exact (Kd.R_mono (ζi (p:=⟨gb728,2,none⟩) (Kd.R_types HO_6.out BK728.out (by decide)) (fun _ hk=>hk.2) (.int .i64 t730)) (fun _ h_=>h_.1))) hb);have n1_:=ζa (blk_below (g:=gb721) (o:=.cells #[.string (⟨#[]⟩:ByteArray),.string (⟨#[]⟩:ByteArray),.int .i64 0,.int .i64 0,.int .i64 0,.bool φ] 66 (0,0)) (by refine blk_far ?_ NB721_728.out _;exact BK721.out) hb);have n2_:=ζa (blk_below (g:=gb728) (o:=.cells #[.string a0,.string (rdOf ByteArray.empty t722 0),.int .i64 t730,.int .i64 0,.int .i64 0,.bool ((rdOf ByteArray.empty t722 4).toList == ([111,112,101,110]:List UInt8))] 66 (0,0)) (by refine δw (cs:=#[.string a0,.string (rdOf ByteArray.empty t722 0),.int .i64 0,.int .i64 0,.int .i64 0,.bool ((rdOf ByteArray.empty t722 4).toList == ([111,112,101,110]:List UInt8))]) ?_ 2 _ rfl;exact BK728.out) hb);have n3_:=ζa (δr (by repeat ((with_reducible first|exact HB.out|refine δq ?_ GE728.out))) hb);clear HO_6;clear BK721;clear BK728;clear HB;have HO_6:=n0_;have BK721:=n1_;have BK728:=n2_;have HB:=n3_;clear n0_ n1_ n2_ n3_;(try clear hb);(try clear hb2);(try clear hk);(try clear hi);have hcz35_0:w34.cell? ⟨gb728,0,none⟩=some (.string a0):=(δl BK728.out 0).trans rfl;have hcz35_1:w34.cell? ⟨gb728,1,none⟩=some (.string (rdOf ByteArray.empty t722 0)):=(δl BK728.out 1).trans rfl;have hcz35_2:w34.cell? ⟨gb728,2,none⟩=some (.int .i64 t730):=(δl BK728.out 2).trans rfl;have hcz35_3:w34.cell? ⟨gb728,3,none⟩=some (.int .i64 0):=(δl BK728.out 3).trans rfl;have hcz35_4:w34.cell? ⟨gb728,4,none⟩=some (.int .i64 0):=(δl BK728.out 4).trans rfl;have hcz35_5:w34.cell? ⟨gb728,5,none⟩=some (.bool ((rdOf ByteArray.empty t722 4).toList == ([111,112,101,110]:List UInt8))):=(δl BK728.out 5).trans rfl;have hfz35_0:=δm BK728.out 0;have hfz35_1:=δm BK728.out 1;have hfz35_2:=δm BK728.out 2;have hfz35_3:=δm BK728.out 3;have hfz35_4:=δm BK728.out 4;have hfz35_5:=δm BK728.out 5;have p735:0≤(3:Int):=(by omega);have q735:3<(t722.length:Int):=of_decide_eq_true (by (with_reducible assumption));obtain ⟨ad735,e735,hx735_0⟩:=Kd.at_string (ζg HO_6.out).2.2 3 p735 q735;obtain rfl:ad726=ad735:=(by injection e735);(try simp only [show (3:Int).toNat=3 from rfl,Nat.reduceMul,Nat.reduceEqDiff,Go.Addr.add,↓reduceIte] at hx735_0);have qi735:(3<t722.length)=True:=eq_true (by omega);(try rw [show ((3:Int)).toNat=3 from rfl] at hx735_0);have hn735_0:ad726.block≠gb728:=ζb (ζf HO_6.out BK728.out (by decide));replace hx735_0:=(δt (p:=⟨gb728,3,none⟩) (by exact hn735_0) (.int .i64 t733)).trans hx735_0;clear hn735_0;replace p735:=eq_true p735;replace q735:=eq_true q735)|((with_reducible refine δv (f:=151) rfl ?_);refine goesL_ (some 51) rfl rfl Tryz.func151 (by kernel_rfl) rfl #[.string (rdOf ByteArray.empty t722 3)] rfl (by (try simp only [δd,δe,δf]);rfl) ?_;(with_reducible refine (impl_readAmount.calls (rdOf ByteArray.empty t722 3) t736 t737 _ (HT0.out.below (by repeat ((with_reducible first|exact HB.out|refine δq ?_ GE728.out)))) A18.out).mono ?_);rintro e w36 ⟨rfl,hb⟩;refine ⟨_,rfl,?_⟩;have n0_:=ζa (ζh (by exact (Kd.R_mono (ζi (p:=⟨gb728,3,none⟩) (Kd.R_types HO_6.out BK728.out (by decide)) (fun _ hk=>hk.2) (.int .i64 t733)) (fun _ h_=>h_.1))) hb);have n1_:=ζa (blk_below (g:=gb721) (o:=.cells #[.string (⟨#[]⟩:ByteArray),.string (⟨#[]⟩:ByteArray),.int .i64 0,.int .i64 0,.int .i64 0,.bool φ] 66 (0,0)) (by refine blk_far ?_ NB721_728.out _;exact BK721.out) hb);have n2_:=ζa (blk_below (g:=gb728) (o:=.cells #[.string a0,.string (rdOf ByteArray.empty t722 0),.int .i64 t730,.int .i64 t733,.int .i64 0,.bool ((rdOf ByteArray.empty t722 4).toList == ([111,112,101,110]:List UInt8))] 66 (0,0)) (by refine δw (cs:=#[.string a0,.string (rdOf ByteArray.empty t722 0),.int .i64 t730,.int .i64 0,.int .i64 0,.bool ((rdOf ByteArray.empty t722 4).toList == ([111,112,101,110]:List UInt8))]) ?_ 3 _ rfl;exact BK728.out) hb);have n3_:=ζa (δr (by repeat ((with_reducible first|exact HB.out|refine δq ?_ GE728.out))) hb);clear HO_6;clear BK721;clear BK728;clear HB;have HO_6:=n0_;have BK721:=n1_;have BK728:=n2_;have HB:=n3_;clear n0_ n1_ n2_ n3_;(try clear hb);(try clear hb2);(try clear hk);(try clear hi);have hcz37_0:w36.cell? ⟨gb728,0,none⟩=some (.string a0):=(δl BK728.out 0).trans rfl;have hcz37_1:w36.cell? ⟨gb728,1,none⟩=some (.string (rdOf ByteArray.empty t722 0)):=(δl BK728.out 1).trans rfl;have hcz37_2:w36.cell? ⟨gb728,2,none⟩=some (.int .i64 t730):=(δl BK728.out 2).trans rfl;have hcz37_3:w36.cell? ⟨gb728,3,none⟩=some (.int .i64 t733):=(δl BK728.out 3).trans rfl;have hcz37_4:w36.cell? ⟨gb728,4,none⟩=some (.int .i64 0):=(δl BK728.out 4).trans rfl;have hcz37_5:w36.cell? ⟨gb728,5,none⟩=some (.bool ((rdOf ByteArray.empty t722 4).toList == ([111,112,101,110]:List UInt8))):=(δl BK728.out 5).trans rfl;have hfz37_0:=δm BK728.out 0;have hfz37_1:=δm BK728.out 1;have hfz37_2:=δm BK728.out 2;have hfz37_3:=δm BK728.out 3;have hfz37_4:=δm BK728.out 4;have hfz37_5:=δm BK728.out 5))
          have n0_:Aside0 (Kd.R Kd.string 9 (w36.setCell ⟨gb728,4,none⟩ (.int .i64 t736)) w.heap.size (fun _=>True) (.slice (some ad726) t722.length co23) t722):=⟨by exact Kd.R_mono (ζi (p:=⟨gb728,4,none⟩) (Kd.R_types HO_6.out BK728.out (by decide)) (fun _ hk=>hk.2) (.int .i64 t736)) (fun _ hk=>trivial)⟩
          have n1_:Aside0 ((w36.setCell ⟨gb728,4,none⟩ (.int .i64 t736)).heap[gb721]? = some (.cells #[.string (⟨#[]⟩:ByteArray),.string (⟨#[]⟩:ByteArray),.int .i64 0,.int .i64 0,.int .i64 0,.bool φ] 66 (0,0))):=⟨by refine blk_far ?_ NB721_728.out _;exact BK721.out⟩
          have n2_:Aside0 ((w36.setCell ⟨gb728,4,none⟩ (.int .i64 t736)).heap[gb728]? = some (.cells #[.string a0,.string (rdOf ByteArray.empty t722 0),.int .i64 t730,.int .i64 t733,.int .i64 t736,.bool ((rdOf ByteArray.empty t722 4).toList == ([111,112,101,110]:List UInt8))] 66 (0,0))):=⟨by refine δw (cs:=#[.string a0,.string (rdOf ByteArray.empty t722 0),.int .i64 t730,.int .i64 t733,.int .i64 0,.bool ((rdOf ByteArray.empty t722 4).toList == ([111,112,101,110]:List UInt8))]) ?_ 4 _ rfl;exact BK728.out⟩
          have n3_:Aside0 (Below w.heap.size w (w36.setCell ⟨gb728,4,none⟩ (.int .i64 t736))):=⟨by repeat ((with_reducible first|exact HB.out|refine δq ?_ GE728.out))⟩
          (try clear HO_6)
          (try clear BK721)
          (try clear BK728)
          (try clear HB)
          generalize (w36.setCell ⟨gb728,4,none⟩ (.int .i64 t736))=w38 at n0_ n1_ n2_ n3_ ⊢
          have HO_6:=n0_
          have BK721:=n1_
          have BK728:=n2_
          have HB:=n3_
          clear n0_ n1_ n2_ n3_
          have n0_:=ζa (ζe HO_6.out)
          have n1_:=ζa (δp BK721.out)
          have n2_:=ζa (δp BK728.out)
          have n3_:=ζa (δj HB.out)
          clear HO_6
          clear BK721
          clear BK728
          clear HB
          have HO_6:=n0_
          have BK721:=n1_
          have BK728:=n2_
          have HB:=n3_
          clear n0_ n1_ n2_ n3_
          refine start_ (n:=11) (S:=fun w'=>w'.cell? ⟨gb728,0,none⟩=some (.string a0)∧w'.cell? ⟨gb728,1,none⟩=some (.string (rdOf ByteArray.empty t722 0))∧w'.cell? ⟨gb728,2,none⟩=some (.int .i64 t730)∧w'.cell? ⟨gb728,3,none⟩=some (.int .i64 t733)∧w'.cell? ⟨gb728,4,none⟩=some (.int .i64 t736)∧w'.cell? ⟨gb728,5,none⟩=some (.bool ((rdOf ByteArray.empty t722 4).toList == ([111,112,101,110]:List UInt8)))) (ds:=[]) #[φ,φ,φ,φ,φ,φ,φ,φ,φ,φ,φ] (by kernel_rfl) rfl rfl ⟨(δl BK728.out 0).trans rfl,(δl BK728.out 1).trans rfl,(δl BK728.out 2).trans rfl,(δl BK728.out 3).trans rfl,(δl BK728.out 4).trans rfl,(δl BK728.out 5).trans rfl⟩ (fun hHeld => ?_);refine with_tabW impl_orderOf.tab8 impl_orderOf.bits8 (fun HT_ HW_ => ?_)
          generalize w38.drew=w39 at HO_6 BK721 BK728 HB hHeld ⊢
          refine take_ (i:=0) (N:=some 55) (v:=?_) (a':=?_) #[τ,φ,φ,φ,φ,φ,φ,φ,φ,φ,φ] rfl rfl (take_ofW HT_.out HW_.out (by kernel_rfl)) (fun _ _ _ h=>h) (Or.inl ⟨by rfl,?_⟩) hHeld ?_ ?_
          rotate_left
          · rintro w' ⟨s0,s1,s2,s3,s4,s5⟩;go_simp;with_reducible rfl
          rotate_left
          · simp only [ζl,δa,δb,δc,i64_w,i32_w];rfl
          refine take_ (i:=1) (N:=some 56) (v:=?_) (a':=?_) #[τ,τ,φ,φ,φ,φ,φ,φ,φ,φ,φ] rfl rfl (take_ofW HT_.out HW_.out (by kernel_rfl)) (fun _ _ _ h=>h) (Or.inl ⟨by rfl,?_⟩) hHeld ?_ ?_
          rotate_left
          · rintro w' ⟨s0,s1,s2,s3,s4,s5⟩;go_simp;with_reducible rfl
          rotate_left
          · simp only [ζl,δa,δb,δc,i64_w,i32_w];rfl
          refine one_ (i:=2) (N:=some 57) #[τ,τ,τ,φ,φ,φ,φ,φ,φ,φ,φ] rfl rfl (one_of HT_.out (by kernel_rfl)) (by decide) (fun K hK => ?_)
          refine goes_ Tryz.func106 (by kernel_rfl) rfl #[.agg #[.string a0,.string (rdOf ByteArray.empty t722 0),.int .i64 t730,.int .i64 t733,.int .i64 t736,.bool ((rdOf ByteArray.empty t722 4).toList == ([111,112,101,110]:List UInt8))]] (by rfl) rfl rfl (by (try simp only [δd,δe,δf]);rfl) ?_
          with_reducible refine (impl_OrderOK.calls kj3 a0 (rdOf ByteArray.empty t722 0) t730 t733 t736 ((rdOf ByteArray.empty t722 4).toList == ([111,112,101,110]:List UInt8)) τ _ A19.out).mono ?_
          rintro e w40 ⟨rfl,hb⟩
          refine ⟨_,rfl,?_⟩
          have n0_:=ζa (ζh (by exact HO_6.out) hb)
          have n1_:=ζa (blk_below (g:=gb721) (o:=.cells #[.string (⟨#[]⟩:ByteArray),.string (⟨#[]⟩:ByteArray),.int .i64 0,.int .i64 0,.int .i64 0,.bool φ] 66 (0,0)) (by exact BK721.out) hb)
          have n2_:=ζa (blk_below (g:=gb728) (o:=.cells #[.string a0,.string (rdOf ByteArray.empty t722 0),.int .i64 t730,.int .i64 t733,.int .i64 t736,.bool ((rdOf ByteArray.empty t722 4).toList == ([111,112,101,110]:List UInt8))] 66 (0,0)) (by exact BK728.out) hb)
          have n3_:=ζa (δr (by exact HB.out) hb)
          clear HO_6
          clear BK721
          clear BK728
          clear HB
          have HO_6:=n0_
          have BK721:=n1_
          have BK728:=n2_
          have HB:=n3_
          clear n0_ n1_ n2_ n3_
          (try clear hb)
          (try clear hb2)
          (try clear hk)
          (try clear hi)
          refine hK.out _ _ ⟨(δl BK728.out 0).trans rfl,(δl BK728.out 1).trans rfl,(δl BK728.out 2).trans rfl,(δl BK728.out 3).trans rfl,(δl BK728.out 4).trans rfl,(δl BK728.out 5).trans rfl⟩ (fun hHeld => ?_)
          clear hK K
          refine norm_ (a':=?_) ?_ ?_
          rotate_left
          ·
           show ζl _ (some 57) _=_
           simp only [ζl,δa,δb,δc,i64_w,i32_w];rfl
          refine ζk (i:=3) (N:=some 58) (v:=?_) (a':=?_) #[τ,τ,τ,τ,φ,φ,φ,φ,φ,φ,φ] rfl rfl (ζj HT_.out (by kernel_rfl)) (fun _ _ _ h=>h) (Or.inl ⟨by rfl,?_⟩) ?_ ?_
          rotate_left
          · intro w';go_simp;with_reducible rfl
          rotate_left
          · simp only [ζl,δa,δb,δc,i64_w,i32_w];rfl
          refine ζk (i:=6) (N:=some 61) (v:=?_) (a':=?_) #[τ,τ,τ,τ,φ,φ,τ,φ,φ,φ,φ] rfl rfl (ζj HT_.out (by kernel_rfl)) (fun _ _ _ h=>h) (Or.inl ⟨by rfl,?_⟩) ?_ ?_
          rotate_left
          · intro w';go_simp;with_reducible rfl
          rotate_left
          · simp only [ζl,δa,δb,δc,i64_w,i32_w];rfl
          refine take_ (i:=4) (N:=some 59) (v:=?_) (a':=?_) #[τ,τ,τ,τ,τ,φ,τ,φ,φ,φ,φ] rfl rfl (take_ofW HT_.out HW_.out (by kernel_rfl)) (fun _ _ _ h=>h) (Or.inl ⟨by rfl,?_⟩) hHeld ?_ ?_
          rotate_left
          · rintro w' ⟨s0,s1,s2,s3,s4,s5⟩;go_simp;with_reducible rfl
          rotate_left
          · simp only [ζl,δa,δb,δc,i64_w,i32_w];rfl
          refine one_ (i:=5) (N:=some 60) #[τ,τ,τ,τ,τ,τ,τ,φ,φ,φ,φ] rfl rfl (one_of HT_.out (by kernel_rfl)) (by decide) (fun K hK => ?_)
          refine goes_ Tryz.func166 (by kernel_rfl) rfl #[.agg #[.string a0,.string (rdOf ByteArray.empty t722 0),.int .i64 t730,.int .i64 t733,.int .i64 t736,.bool ((rdOf ByteArray.empty t722 4).toList == ([111,112,101,110]:List UInt8))]] (by rfl) rfl rfl (by (try simp only [δd,δe,δf]);rfl) ?_
          with_reducible refine (impl_Order_value.calls kj3 a0 (rdOf ByteArray.empty t722 0) t730 t733 t736 ((rdOf ByteArray.empty t722 4).toList == ([111,112,101,110]:List UInt8)) t739 _ (HT0.out.below (by exact HB.out)) A21.out).mono ?_
          rintro e w41 ⟨rfl,hb⟩
          refine ⟨_,rfl,?_⟩
          have n0_:=ζa (ζh (by exact HO_6.out) hb)
          have n1_:=ζa (blk_below (g:=gb721) (o:=.cells #[.string (⟨#[]⟩:ByteArray),.string (⟨#[]⟩:ByteArray),.int .i64 0,.int .i64 0,.int .i64 0,.bool φ] 66 (0,0)) (by exact BK721.out) hb)
          have n2_:=ζa (blk_below (g:=gb728) (o:=.cells #[.string a0,.string (rdOf ByteArray.empty t722 0),.int .i64 t730,.int .i64 t733,.int .i64 t736,.bool ((rdOf ByteArray.empty t722 4).toList == ([111,112,101,110]:List UInt8))] 66 (0,0)) (by exact BK728.out) hb)
          have n3_:=ζa (δr (by exact HB.out) hb)
          clear HO_6
          clear BK721
          clear BK728
          clear HB
          have HO_6:=n0_
          have BK721:=n1_
          have BK728:=n2_
          have HB:=n3_
          clear n0_ n1_ n2_ n3_
          (try clear hb)
          (try clear hb2)
          (try clear hk)
          (try clear hi)
          refine hK.out _ _ ⟨(δl BK728.out 0).trans rfl,(δl BK728.out 1).trans rfl,(δl BK728.out 2).trans rfl,(δl BK728.out 3).trans rfl,(δl BK728.out 4).trans rfl,(δl BK728.out 5).trans rfl⟩ (fun hHeld => ?_)
          clear hK K
          refine norm_ (a':=?_) ?_ ?_
          rotate_left
          ·
           show ζl _ (some 60) _=_
           simp only [ζl,δa,δb,δc,i64_w,i32_w];rfl
          refine ζk (i:=7) (N:=some 62) (v:=?_) (a':=?_) #[τ,τ,τ,τ,τ,τ,τ,τ,φ,φ,φ] rfl rfl (ζj HT_.out (by kernel_rfl)) (fun _ _ _ h=>h) (Or.inl ⟨by rfl,?_⟩) ?_ ?_
          rotate_left
          · intro w';go_simp;with_reducible rfl
          rotate_left
          · simp only [ζl,δa,δb,δc,i64_w,i32_w];rfl
          refine ζk (i:=8) (N:=some 63) (v:=?_) (a':=?_) #[τ,τ,τ,τ,τ,τ,τ,τ,τ,φ,φ] rfl rfl (ζj HT_.out (by kernel_rfl)) (fun _ _ _ h=>h) (Or.inl ⟨by rfl,?_⟩) ?_ ?_
          rotate_left
          · intro w';go_simp;with_reducible rfl
          rotate_left
          · simp only [ζl,δa,δb,δc,i64_w,i32_w];rfl
          refine one_ (i:=9) (N:=none) #[τ,τ,τ,τ,τ,τ,τ,τ,τ,τ,φ] rfl rfl (one_of HT_.out (by kernel_rfl)) (by decide) (fun K hK => ?_)
          have hs42:w41.cell? ⟨gb721,0,none⟩=some (.string (⟨#[]⟩:ByteArray)):=(δl BK721.out 0).trans rfl
          have hfs42:=δm BK721.out 0
          have hns42_1:=NB728_721.out
          have hms42_1:=NB721_728.out
          have hs43:w41.cell? ⟨gb721,1,none⟩=some (.string (⟨#[]⟩:ByteArray)):=(δl BK721.out 1).trans rfl
          have hfs43:=δm BK721.out 1
          have hns43_1:=NB728_721.out
          have hms43_1:=NB721_728.out
          have hs44:w41.cell? ⟨gb721,2,none⟩=some (.int .i64 0):=(δl BK721.out 2).trans rfl
          have hfs44:=δm BK721.out 2
          have hns44_1:=NB728_721.out
          have hms44_1:=NB721_728.out
          have hs45:w41.cell? ⟨gb721,3,none⟩=some (.int .i64 0):=(δl BK721.out 3).trans rfl
          have hfs45:=δm BK721.out 3
          have hns45_1:=NB728_721.out
          have hms45_1:=NB721_728.out
          have hs46:w41.cell? ⟨gb721,4,none⟩=some (.int .i64 0):=(δl BK721.out 4).trans rfl
          have hfs46:=δm BK721.out 4
          have hns46_1:=NB728_721.out
          have hms46_1:=NB721_728.out
          have hs47:w41.cell? ⟨gb721,5,none⟩=some (.bool φ):=(δl BK721.out 5).trans rfl
          have hfs47:=δm BK721.out 5
          have hns47_1:=NB728_721.out
          have hms47_1:=NB721_728.out
          refine skip_ (w1:=?_) (by rfl) rfl ?_ ?_
          rotate_left
          ·
           go_simp
           rfl
          refine hK.out _ _ ⟨((δt (p:=⟨gb721,_,none⟩) NB728_721.out _).trans (((δt (p:=⟨gb721,_,none⟩) NB728_721.out _).trans (((δt (p:=⟨gb721,_,none⟩) NB728_721.out _).trans (((δt (p:=⟨gb721,_,none⟩) NB728_721.out _).trans (((δt (p:=⟨gb721,_,none⟩) NB728_721.out _).trans (((δt (p:=⟨gb721,_,none⟩) NB728_721.out _).trans (hHeld.1)))))))))))),((δt (p:=⟨gb721,_,none⟩) NB728_721.out _).trans (((δt (p:=⟨gb721,_,none⟩) NB728_721.out _).trans (((δt (p:=⟨gb721,_,none⟩) NB728_721.out _).trans (((δt (p:=⟨gb721,_,none⟩) NB728_721.out _).trans (((δt (p:=⟨gb721,_,none⟩) NB728_721.out _).trans (((δt (p:=⟨gb721,_,none⟩) NB728_721.out _).trans (hHeld.2.1)))))))))))),((δt (p:=⟨gb721,_,none⟩) NB728_721.out _).trans (((δt (p:=⟨gb721,_,none⟩) NB728_721.out _).trans (((δt (p:=⟨gb721,_,none⟩) NB728_721.out _).trans (((δt (p:=⟨gb721,_,none⟩) NB728_721.out _).trans (((δt (p:=⟨gb721,_,none⟩) NB728_721.out _).trans (((δt (p:=⟨gb721,_,none⟩) NB728_721.out _).trans (hHeld.2.2.1)))))))))))),((δt (p:=⟨gb721,_,none⟩) NB728_721.out _).trans (((δt (p:=⟨gb721,_,none⟩) NB728_721.out _).trans (((δt (p:=⟨gb721,_,none⟩) NB728_721.out _).trans (((δt (p:=⟨gb721,_,none⟩) NB728_721.out _).trans (((δt (p:=⟨gb721,_,none⟩) NB728_721.out _).trans (((δt (p:=⟨gb721,_,none⟩) NB728_721.out _).trans (hHeld.2.2.2.1)))))))))))),((δt (p:=⟨gb721,_,none⟩) NB728_721.out _).trans (((δt (p:=⟨gb721,_,none⟩) NB728_721.out _).trans (((δt (p:=⟨gb721,_,none⟩) NB728_721.out _).trans (((δt (p:=⟨gb721,_,none⟩) NB728_721.out _).trans (((δt (p:=⟨gb721,_,none⟩) NB728_721.out _).trans (((δt (p:=⟨gb721,_,none⟩) NB728_721.out _).trans (hHeld.2.2.2.2.1)))))))))))),((δt (p:=⟨gb721,_,none⟩) NB728_721.out _).trans (((δt (p:=⟨gb721,_,none⟩) NB728_721.out _).trans (((δt (p:=⟨gb721,_,none⟩) NB728_721.out _).trans (((δt (p:=⟨gb721,_,none⟩) NB728_721.out _).trans (((δt (p:=⟨gb721,_,none⟩) NB728_721.out _).trans (((δt (p:=⟨gb721,_,none⟩) NB728_721.out _).trans (hHeld.2.2.2.2.2))))))))))))⟩ (fun hHeld => ?_)
          clear hK K
          refine ζk (i:=10) (N:=some 5) (v:=?_) (a':=?_) #[τ,τ,τ,τ,τ,τ,τ,τ,τ,τ,τ] rfl rfl (ζj HT_.out (by kernel_rfl)) (fun _ _ _ h=>h) (Or.inl ⟨by rfl,?_⟩) ?_ ?_
          rotate_left
          · intro w';go_simp;with_reducible rfl
          rotate_left
          · simp only [ζl,δa,δb,δc,i64_w,i32_w];rfl
          refine done_ (done_of HT_.out (by kernel_rfl)) ?_
          try go_wp2
          refine bodyPost_ret (results_ct rfl _ _ gb721 66 #[.string a0,.string (rdOf ByteArray.empty t722 0),.int .i64 t730,.int .i64 t733,.int .i64 t736,.bool ((rdOf ByteArray.empty t722 4).toList == ([111,112,101,110]:List UInt8))] (0,0) _ rfl (by refine δw (cs:=#[.string a0,.string (rdOf ByteArray.empty t722 0),.int .i64 t730,.int .i64 t733,.int .i64 t736,.bool φ]) ?_ 5 _ rfl;refine δw (cs:=#[.string a0,.string (rdOf ByteArray.empty t722 0),.int .i64 t730,.int .i64 t733,.int .i64 0,.bool φ]) ?_ 4 _ rfl;refine δw (cs:=#[.string a0,.string (rdOf ByteArray.empty t722 0),.int .i64 t730,.int .i64 0,.int .i64 0,.bool φ]) ?_ 3 _ rfl;refine δw (cs:=#[.string a0,.string (rdOf ByteArray.empty t722 0),.int .i64 0,.int .i64 0,.int .i64 0,.bool φ]) ?_ 2 _ rfl;refine δw (cs:=#[.string a0,.string (⟨#[]⟩:ByteArray),.int .i64 0,.int .i64 0,.int .i64 0,.bool φ]) ?_ 1 _ rfl;refine δw (cs:=#[.string (⟨#[]⟩:ByteArray),.string (⟨#[]⟩:ByteArray),.int .i64 0,.int .i64 0,.int .i64 0,.bool φ]) ?_ 0 _ rfl;exact BK721.out) Tryz.underlying66 rfl (by kernel_rfl)) rfl ?_
          exact ⟨by rfl,by repeat ((with_reducible first|exact HB.out|refine δq ?_ GE721.out))⟩
         ·
          replace c20:=Bool.eq_false_iff.mpr c20
          subst c20
          have H1:(some (a0,rdOf ByteArray.empty t722 0,t730,t733,t736,((rdOf ByteArray.empty t722 4).toList == ([111,112,101,110]:List UInt8)),φ))=some (r1,r2,r3,r4,r5,r6,r7):=by rw [if_neg (show ¬ (φ=τ) by decide)] at H;exact H
          clear H
          have H:=H1
          clear H1
          simp only [Option.some.injEq,Prod.mk.injEq] at H
          obtain ⟨rfl,rfl,rfl,rfl,rfl,rfl,rfl⟩:=H
          try go_wp2
          have n0_:=ζa (ζe HO_6.out)
          have n1_:=ζa (δp BK721.out)
          have n2_:=ζa (δj HB.out)
          clear HO_6
          clear BK721
          clear HB
          have HO_6:=n0_
          have BK721:=n1_
          have HB:=n2_
          clear n0_ n1_ n2_
          obtain ⟨Ao49,co49,eo49⟩:=Kd.R_slice HO_6.out
          (subst eo49)
          have p726:0≤(0:Int):=(by omega)
          have q726:0<(t722.length:Int):=of_decide_eq_true (by (with_reducible assumption))
          obtain ⟨ad726,e726,hx726_0⟩:=Kd.at_string (ζg HO_6.out).2.2 0 p726 q726
          cases e726
          have qi726:(0<t722.length)=True:=eq_true (by omega)
          (try rw [show ((0:Int)).toNat=0 from rfl] at hx726_0)
          (try rw [Addr.add_zero'] at hx726_0)
          replace p726:=eq_true p726
          replace q726:=eq_true q726
          have p727:0≤(4:Int):=(by omega)
          have q727:4<(t722.length:Int):=of_decide_eq_true (by (with_reducible assumption))
          obtain ⟨ad727,e727,hx727_0⟩:=Kd.at_string (ζg HO_6.out).2.2 4 p727 q727
          obtain rfl:ad726=ad727:=(by injection e727)
          (try simp only [show (4:Int).toNat=4 from rfl,Nat.reduceMul,Nat.reduceEqDiff,Go.Addr.add,↓reduceIte] at hx727_0)
          have qi727:(4<t722.length)=True:=eq_true (by omega)
          (try rw [show ((4:Int)).toNat=4 from rfl] at hx727_0)
          replace p727:=eq_true p727
          replace q727:=eq_true q727
          refine start_ (n:=11) (S:=fun w'=>w'.cell? ad726=some (.string (rdOf ByteArray.empty t722 0))∧w'.cell? ⟨ad726.block,ad726.off+4,none⟩=some (.string (rdOf ByteArray.empty t722 4))) (ds:=[]) #[φ,φ,φ,φ,φ,φ,φ,φ,φ,φ,φ] (by kernel_rfl) rfl rfl ⟨hx726_0,hx727_0⟩ (fun hHeld => ?_);refine with_tabW impl_orderOf.tab4 impl_orderOf.bits4 (fun HT_ HW_ => ?_)
          generalize wc.drew=w48 at HO_6 BK721 HB hx726_0 hx727_0 hHeld ⊢
          refine ζk (i:=0) (N:=some 22) (v:=?_) (a':=?_) #[τ,φ,φ,φ,φ,φ,φ,φ,φ,φ,φ] rfl rfl (ζj HT_.out (by kernel_rfl)) (fun _ _ _ h=>h) (Or.inl ⟨by rfl,?_⟩) ?_ ?_
          rotate_left
          · intro w';go_simp;with_reducible rfl
          rotate_left
          · simp only [ζl,δa,δb,δc,i64_w,i32_w];rfl
          refine ζk (i:=1) (N:=some 23) (v:=?_) (a':=?_) #[τ,τ,φ,φ,φ,φ,φ,φ,φ,φ,φ] rfl rfl (ζj HT_.out (by kernel_rfl)) (fun _ _ _ h=>h) (Or.inl ⟨by rfl,?_⟩) ?_ ?_
          rotate_left
          · intro w';go_simp;with_reducible rfl
          rotate_left
          · simp only [ζl,δa,δb,δc,i64_w,i32_w];rfl
          refine ζk (i:=2) (N:=some 24) (v:=?_) (a':=?_) #[τ,τ,τ,φ,φ,φ,φ,φ,φ,φ,φ] rfl rfl (ζj HT_.out (by kernel_rfl)) (fun _ _ _ h=>h) (Or.inl ⟨by rfl,?_⟩) ?_ ?_
          rotate_left
          · intro w';go_simp;with_reducible rfl
          rotate_left
          · simp only [ζl,δa,δb,δc,i64_w,i32_w];rfl
          refine ζk (i:=4) (N:=some 26) (v:=?_) (a':=?_) #[τ,τ,τ,φ,τ,φ,φ,φ,φ,φ,φ] rfl rfl (ζj HT_.out (by kernel_rfl)) (fun _ _ _ h=>h) (Or.inl ⟨by rfl,?_⟩) ?_ ?_
          rotate_left
          · intro w';go_simp;with_reducible rfl
          rotate_left
          · simp only [ζl,δa,δb,δc,i64_w,i32_w];rfl
          refine ζk (i:=5) (N:=some 27) (v:=?_) (a':=?_) #[τ,τ,τ,φ,τ,τ,φ,φ,φ,φ,φ] rfl rfl (ζj HT_.out (by kernel_rfl)) (fun _ _ _ h=>h) (Or.inl ⟨by rfl,?_⟩) ?_ ?_
          rotate_left
          · intro w';go_simp;with_reducible rfl
          rotate_left
          · simp only [ζl,δa,δb,δc,i64_w,i32_w];rfl
          refine take_ (i:=3) (N:=some 25) (v:=?_) (a':=?_) #[τ,τ,τ,τ,τ,τ,φ,φ,φ,φ,φ] rfl rfl (take_ofW HT_.out HW_.out (by kernel_rfl)) (fun _ _ _ h=>h) (Or.inl ⟨by rfl,?_⟩) hHeld ?_ ?_
          rotate_left
          · rintro w' ⟨s0,s1⟩;go_simp;with_reducible rfl
          rotate_left
          · simp only [ζl,δa,δb,δc,i64_w,i32_w];rfl
          refine take_ (i:=6) (N:=some 28) (v:=?_) (a':=?_) #[τ,τ,τ,τ,τ,τ,τ,φ,φ,φ,φ] rfl rfl (take_ofW HT_.out HW_.out (by kernel_rfl)) (fun _ _ _ h=>h) (Or.inl ⟨by rfl,?_⟩) hHeld ?_ ?_
          rotate_left
          · rintro w' ⟨s0,s1⟩;go_simp;with_reducible rfl
          rotate_left
          · simp only [ζl,δa,δb,δc,i64_w,i32_w];rfl
          refine ζk (i:=7) (N:=some 29) (v:=?_) (a':=?_) #[τ,τ,τ,τ,τ,τ,τ,τ,φ,φ,φ] rfl rfl (ζj HT_.out (by kernel_rfl)) (fun _ _ _ h=>h) (Or.inl ⟨by rfl,?_⟩) ?_ ?_
          rotate_left
          · intro w';go_simp;with_reducible rfl
          rotate_left
          · simp only [ζl,δa,δb,δc,i64_w,i32_w];rfl
          refine ζk (i:=8) (N:=some 30) (v:=?_) (a':=?_) #[τ,τ,τ,τ,τ,τ,τ,τ,τ,φ,φ] rfl rfl (ζj HT_.out (by kernel_rfl)) (fun _ _ _ h=>h) (Or.inl ⟨by rfl,?_⟩) ?_ ?_
          rotate_left
          · intro w';go_simp;with_reducible rfl
          rotate_left
          · simp only [ζl,δa,δb,δc,i64_w,i32_w];rfl
          refine one_ (i:=9) (N:=some 8) #[τ,τ,τ,τ,τ,τ,τ,τ,τ,τ,φ] rfl rfl (one_of HT_.out (by kernel_rfl)) (by decide) (fun K hK => ?_)
          refine box_step ?hg (N:=8) ?hd (cs:=#[.string (⟨#[]⟩:ByteArray),.string (⟨#[]⟩:ByteArray),.int .i64 0,.int .i64 0,.int .i64 0,.bool φ]) (t:=66) ?hr ?_;(case hd=>rfl);(case hg=>rfl);(case hr=>(go_simp;done))
          intro gb728 hg w50 hbox hb
          have HS0_:=(hb.cell (World.block_lt_of_cell? _ _ (hHeld.1))).trans (hHeld.1)
          have HS1_:=(hb.cell (World.block_lt_of_cell? _ _ (hHeld.2))).trans (hHeld.2)
          have n0_:=ζa (ζh (by exact HO_6.out) hb)
          have n1_:=ζa (blk_below (g:=gb721) (o:=.cells #[.string (⟨#[]⟩:ByteArray),.string (⟨#[]⟩:ByteArray),.int .i64 0,.int .i64 0,.int .i64 0,.bool φ] 66 (0,0)) (by exact BK721.out) hb)
          have n2_:=ζa (δr (by exact HB.out) hb)
          have n3_:=ζa (hbox)
          have n4_:=ζa ((by rw [hg];exact (δs (by exact HB.out)):w.heap.size≤gb728))
          have n5_:=ζa ((by rw [hg];exact (δs (by exact HB.out)):w.heap.size≤gb728))
          have n6_:=ζa ((by rw [hg];exact Nat.ne_of_lt (blk_lt (g:=gb721) (o:=.cells #[.string (⟨#[]⟩:ByteArray),.string (⟨#[]⟩:ByteArray),.int .i64 0,.int .i64 0,.int .i64 0,.bool φ] 66 (0,0)) (by exact BK721.out)):gb721≠gb728))
          have n7_:=ζa ((by rw [hg];exact Nat.ne_of_gt (blk_lt (g:=gb721) (o:=.cells #[.string (⟨#[]⟩:ByteArray),.string (⟨#[]⟩:ByteArray),.int .i64 0,.int .i64 0,.int .i64 0,.bool φ] 66 (0,0)) (by exact BK721.out)):gb728≠gb721))
          clear HO_6
          clear BK721
          clear HB
          have HO_6:=n0_
          have BK721:=n1_
          have HB:=n2_
          have BK728:=n3_
          have GW728:=n4_
          have GE728:=n5_
          have NB721_728:=n6_
          have NB728_721:=n7_
          clear n0_ n1_ n2_ n3_ n4_ n5_ n6_ n7_
          clear hb hbox hg
          refine hK.out _ _ ⟨HS0_,HS1_⟩ (fun hHeld => ?_)
          clear hK K
          refine norm_ (a':=?_) ?_ ?_
          rotate_left
          ·
           show ζl _ (some 8) _=_
           simp only [ζl,δa,δb,δc,i64_w,i32_w];rfl
          refine one_ (i:=10) (N:=none) #[τ,τ,τ,τ,τ,τ,τ,τ,τ,τ,τ] rfl rfl (one_of HT_.out (by kernel_rfl)) (by decide) (fun K hK => ?_)
          have hs51:w50.cell? ⟨gb728,0,none⟩=some (.string (⟨#[]⟩:ByteArray)):=(δl BK728.out 0).trans rfl
          have hfs51:=δm BK728.out 0
          have hns51_0:=NB721_728.out
          have hms51_0:=NB728_721.out
          have hs52:w50.cell? ⟨gb728,1,none⟩=some (.string (⟨#[]⟩:ByteArray)):=(δl BK728.out 1).trans rfl
          have hfs52:=δm BK728.out 1
          have hns52_0:=NB721_728.out
          have hms52_0:=NB728_721.out
          have hs53:w50.cell? ⟨gb728,2,none⟩=some (.int .i64 0):=(δl BK728.out 2).trans rfl
          have hfs53:=δm BK728.out 2
          have hns53_0:=NB721_728.out
          have hms53_0:=NB728_721.out
          have hs54:w50.cell? ⟨gb728,3,none⟩=some (.int .i64 0):=(δl BK728.out 3).trans rfl
          have hfs54:=δm BK728.out 3
          have hns54_0:=NB721_728.out
          have hms54_0:=NB728_721.out
          have hs55:w50.cell? ⟨gb728,4,none⟩=some (.int .i64 0):=(δl BK728.out 4).trans rfl
          have hfs55:=δm BK728.out 4
          have hns55_0:=NB721_728.out
          have hms55_0:=NB728_721.out
          have hs56:w50.cell? ⟨gb728,5,none⟩=some (.bool φ):=(δl BK728.out 5).trans rfl
          have hfs56:=δm BK728.out 5
          have hns56_0:=NB721_728.out
          have hms56_0:=NB728_721.out
          refine skip_ (w1:=?_) (by rfl) rfl ?_ ?_
          rotate_left
          ·
           go_simp
           rfl
          refine hK.out _ _ ⟨((δt (p:=⟨gb728,_,none⟩) (by exact ζb (ζf HO_6.out BK728.out (by decide))) _).trans (((δt (p:=⟨gb728,_,none⟩) (by exact ζb (ζf HO_6.out BK728.out (by decide))) _).trans (((δt (p:=⟨gb728,_,none⟩) (by exact ζb (ζf HO_6.out BK728.out (by decide))) _).trans (((δt (p:=⟨gb728,_,none⟩) (by exact ζb (ζf HO_6.out BK728.out (by decide))) _).trans (((δt (p:=⟨gb728,_,none⟩) (by exact ζb (ζf HO_6.out BK728.out (by decide))) _).trans (((δt (p:=⟨gb728,_,none⟩) (by exact ζb (ζf HO_6.out BK728.out (by decide))) _).trans (hHeld.1)))))))))))),((δt (p:=⟨gb728,_,none⟩) (by (dsimp only;exact ζb (ζf HO_6.out BK728.out (by decide)))) _).trans (((δt (p:=⟨gb728,_,none⟩) (by (dsimp only;exact ζb (ζf HO_6.out BK728.out (by decide)))) _).trans (((δt (p:=⟨gb728,_,none⟩) (by (dsimp only;exact ζb (ζf HO_6.out BK728.out (by decide)))) _).trans (((δt (p:=⟨gb728,_,none⟩) (by (dsimp only;exact ζb (ζf HO_6.out BK728.out (by decide)))) _).trans (((δt (p:=⟨gb728,_,none⟩) (by (dsimp only;exact ζb (ζf HO_6.out BK728.out (by decide)))) _).trans (((δt (p:=⟨gb728,_,none⟩) (by (dsimp only;exact ζb (ζf HO_6.out BK728.out (by decide)))) _).trans (hHeld.2))))))))))))⟩ (fun hHeld => ?_)
          clear hK K
          refine done_ (done_of HT_.out (by kernel_rfl)) ?_
          have p729:0≤(1:Int):=(by omega)
          have q729:1<(t722.length:Int):=of_decide_eq_true (by (with_reducible assumption))
          obtain ⟨ad729,e729,hx729_0⟩:=Kd.at_string (ζg HO_6.out).2.2 1 p729 q729
          obtain rfl:ad726=ad729:=(by injection e729)
          (try simp only [show (1:Int).toNat=1 from rfl,Nat.reduceMul,Nat.reduceEqDiff,Go.Addr.add,↓reduceIte] at hx729_0)
          have qi729:(1<t722.length)=True:=eq_true (by omega)
          (try rw [show ((1:Int)).toNat=1 from rfl] at hx729_0)
          have hn729_0:ad726.block≠gb728:=ζb (ζf HO_6.out BK728.out (by decide))
          have hn729_1:ad726.block≠gb728:=ζb (ζf HO_6.out BK728.out (by decide))
          have hn729_2:ad726.block≠gb728:=ζb (ζf HO_6.out BK728.out (by decide))
          have hn729_3:ad726.block≠gb728:=ζb (ζf HO_6.out BK728.out (by decide))
          have hn729_4:ad726.block≠gb728:=ζb (ζf HO_6.out BK728.out (by decide))
          have hn729_5:ad726.block≠gb728:=ζb (ζf HO_6.out BK728.out (by decide))
          replace hx729_0:=(δt (p:=⟨gb728,0,none⟩) (by exact hn729_0) (.string a0)).trans hx729_0
          replace hx729_0:=(δt (p:=⟨gb728,1,none⟩) (by exact hn729_1) (.string (rdOf ByteArray.empty t722 0))).trans hx729_0
          replace hx729_0:=(δt (p:=⟨gb728,2,none⟩) (by exact hn729_2) (.int .i64 0)).trans hx729_0
          replace hx729_0:=(δt (p:=⟨gb728,3,none⟩) (by exact hn729_3) (.int .i64 0)).trans hx729_0
          replace hx729_0:=(δt (p:=⟨gb728,4,none⟩) (by exact hn729_4) (.int .i64 0)).trans hx729_0
          replace hx729_0:=(δt (p:=⟨gb728,5,none⟩) (by exact hn729_5) (.bool ((rdOf ByteArray.empty t722 4).toList == ([111,112,101,110]:List UInt8)))).trans hx729_0
          clear hn729_0
          clear hn729_1
          clear hn729_2
          clear hn729_3
          clear hn729_4
          clear hn729_5
          replace p729:=eq_true p729
          replace q729:=eq_true q729
          try go_wp2_with (first|((with_reducible refine δv (f:=151) rfl ?_);refine goesL_ (some 35) rfl rfl Tryz.func151 (by kernel_rfl) rfl #[.string (rdOf ByteArray.empty t722 1)] rfl (by (try simp only [δd,δe,δf]);rfl) ?_;(with_reducible refine (impl_readAmount.calls (rdOf ByteArray.empty t722 1) t730 t731 _ (HT0.out.below (by repeat ((with_reducible first|exact HB.out|refine δq ?_ GE728.out)))) A14.out).mono ?_);rintro e w57 ⟨rfl,hb⟩;refine ⟨_,rfl,?_⟩;have n0_:=ζa (ζh (by exact (Kd.R_mono (ζi (p:=⟨gb728,5,none⟩) (ζi (p:=⟨gb728,4,none⟩) (ζi (p:=⟨gb728,3,none⟩) (ζi (p:=⟨gb728,2,none⟩) (ζi (p:=⟨gb728,1,none⟩) (ζi (p:=⟨gb728,0,none⟩) (Kd.R_types HO_6.out BK728.out (by decide)) (fun _ hk=>hk.2) (.string a0)) (fun _ hk=>hk.2) (.string (rdOf ByteArray.empty t722 0))) (fun _ hk=>hk.2) (.int .i64 0)) (fun _ hk=>hk.2) (.int .i64 0)) (fun _ hk=>hk.2) (.int .i64 0)) (fun _ hk=>hk.2) (.bool ((rdOf ByteArray.empty t722 4).toList == ([111,112,101,110]:List UInt8)))) (fun _ h_=>h_.1))) hb);have n1_:=ζa (blk_below (g:=gb721) (o:=.cells #[.string (⟨#[]⟩:ByteArray),.string (⟨#[]⟩:ByteArray),.int .i64 0,.int .i64 0,.int .i64 0,.bool φ] 66 (0,0)) (by refine blk_far ?_ NB721_728.out _;refine blk_far ?_ NB721_728.out _;refine blk_far ?_ NB721_728.out _;refine blk_far ?_ NB721_728.out _;refine blk_far ?_ NB721_728.out _;refine blk_far ?_ NB721_728.out _;exact BK721.out) hb);have n2_:=ζa (blk_below (g:=gb728) (o:=.cells #[.string a0,.string (rdOf ByteArray.empty t722 0),.int .i64 0,.int .i64 0,.int .i64 0,.bool ((rdOf ByteArray.empty t722 4).toList == ([111,112,101,110]:List UInt8))] 66 (0,0)) (by refine δw (cs:=#[.string a0,.string (rdOf ByteArray.empty t722 0),.int .i64 0,.int .i64 0,.int .i64 0,.bool φ]) ?_ 5 _ rfl;refine δw (cs:=#[.string a0,.string (rdOf ByteArray.empty t722 0),.int .i64 0,.int .i64 0,.int .i64 0,.bool φ]) ?_ 4 _ rfl;refine δw (cs:=#[.string a0,.string (rdOf ByteArray.empty t722 0),.int .i64 0,.int .i64 0,.int .i64 0,.bool φ]) ?_ 3 _ rfl;refine δw (cs:=#[.string a0,.string (rdOf ByteArray.empty t722 0),.int .i64 0,.int .i64 0,.int .i64 0,.bool φ]) ?_ 2 _ rfl;refine δw (cs:=#[.string a0,.string (⟨#[]⟩:ByteArray),.int .i64 0,.int .i64 0,.int .i64 0,.bool φ]) ?_ 1 _ rfl;refine δw (cs:=#[.string (⟨#[]⟩:ByteArray),.string (⟨#[]⟩:ByteArray),.int .i64 0,.int .i64 0,.int .i64 0,.bool φ]) ?_ 0 _ rfl;exact BK728.out) hb);have n3_:=ζa (δr (by repeat ((with_reducible first|exact HB.out|refine δq ?_ GE728.out))) hb);clear HO_6;clear BK721;clear BK728;clear HB;have HO_6:=n0_;have BK721:=n1_;have BK728:=n2_;have HB:=n3_;clear n0_ n1_ n2_ n3_;(try clear hb);(try clear hb2);(try clear hk);(try clear hi);have hnb58:=NB728_721.out;have hnc58:=NB721_728.out;have hcz59_0:w57.cell? ⟨gb728,0,none⟩=some (.string a0):=(δl BK728.out 0).trans rfl;have hcz59_1:w57.cell? ⟨gb728,1,none⟩=some (.string (rdOf ByteArray.empty t722 0)):=(δl BK728.out 1).trans rfl;have hcz59_2:w57.cell? ⟨gb728,2,none⟩=some (.int .i64 0):=(δl BK728.out 2).trans rfl;have hcz59_3:w57.cell? ⟨gb728,3,none⟩=some (.int .i64 0):=(δl BK728.out 3).trans rfl;have hcz59_4:w57.cell? ⟨gb728,4,none⟩=some (.int .i64 0):=(δl BK728.out 4).trans rfl;have hcz59_5:w57.cell? ⟨gb728,5,none⟩=some (.bool ((rdOf ByteArray.empty t722 4).toList == ([111,112,101,110]:List UInt8))):=(δl BK728.out 5).trans rfl;have hfz59_0:=δm BK728.out 0;have hfz59_1:=δm BK728.out 1;have hfz59_2:=δm BK728.out 2;have hfz59_3:=δm BK728.out 3;have hfz59_4:=δm BK728.out 4;have hfz59_5:=δm BK728.out 5;have p732:0≤(2:Int):=(by omega);have q732:2<(t722.length:Int):=of_decide_eq_true (by (with_reducible assumption));obtain ⟨ad732,e732,hx732_0⟩:=Kd.at_string (ζg HO_6.out).2.2 2 p732 q732;obtain rfl:ad726=ad732:=(by injection e732);(try simp only [show (2:Int).toNat=2 from rfl,Nat.reduceMul,Nat.reduceEqDiff,Go.Addr.add,↓reduceIte] at hx732_0);have qi732:(2<t722.length)=True:=eq_true (by omega);(try rw [show ((2:Int)).toNat=2 from rfl] at hx732_0);have hn732_0:ad726.block≠gb728:=ζb (ζf HO_6.out BK728.out (by decide));replace hx732_0:=(δt (p:=⟨gb728,2,none⟩) (by exact hn732_0) (.int .i64 t730)).trans hx732_0;clear hn732_0;replace p732:=eq_true p732;replace q732:=eq_true q732)|((with_reducible refine δv (f:=151) rfl ?_);refine goesL_ (some 43) rfl rfl Tryz.func151 (by kernel_rfl) rfl #[.string (rdOf ByteArray.empty t722 2)] rfl (by (try simp only [δd,δe,δf]);rfl) ?_;(with_reducible refine (impl_readAmount.calls (rdOf ByteArray.empty t722 2) t733 t734 _ (HT0.out.below (by repeat ((with_reducible first|exact HB.out|refine δq ?_ GE728.out)))) A16.out).mono ?_);rintro e w60 ⟨rfl,hb⟩;refine ⟨_,rfl,?_⟩;have n0_:=ζa (ζh (by exact (Kd.R_mono (ζi (p:=⟨gb728,2,none⟩) (Kd.R_types HO_6.out BK728.out (by decide)) (fun _ hk=>hk.2) (.int .i64 t730)) (fun _ h_=>h_.1))) hb);have n1_:=ζa (blk_below (g:=gb721) (o:=.cells #[.string (⟨#[]⟩:ByteArray),.string (⟨#[]⟩:ByteArray),.int .i64 0,.int .i64 0,.int .i64 0,.bool φ] 66 (0,0)) (by refine blk_far ?_ NB721_728.out _;exact BK721.out) hb);have n2_:=ζa (blk_below (g:=gb728) (o:=.cells #[.string a0,.string (rdOf ByteArray.empty t722 0),.int .i64 t730,.int .i64 0,.int .i64 0,.bool ((rdOf ByteArray.empty t722 4).toList == ([111,112,101,110]:List UInt8))] 66 (0,0)) (by refine δw (cs:=#[.string a0,.string (rdOf ByteArray.empty t722 0),.int .i64 0,.int .i64 0,.int .i64 0,.bool ((rdOf ByteArray.empty t722 4).toList == ([111,112,101,110]:List UInt8))]) ?_ 2 _ rfl;exact BK728.out) hb);have n3_:=ζa (δr (by repeat ((with_reducible first|exact HB.out|refine δq ?_ GE728.out))) hb);clear HO_6;clear BK721;clear BK728;clear HB;have HO_6:=n0_;have BK721:=n1_;have BK728:=n2_;have HB:=n3_;clear n0_ n1_ n2_ n3_;(try clear hb);(try clear hb2);(try clear hk);(try clear hi);have hcz61_0:w60.cell? ⟨gb728,0,none⟩=some (.string a0):=(δl BK728.out 0).trans rfl;have hcz61_1:w60.cell? ⟨gb728,1,none⟩=some (.string (rdOf ByteArray.empty t722 0)):=(δl BK728.out 1).trans rfl;have hcz61_2:w60.cell? ⟨gb728,2,none⟩=some (.int .i64 t730):=(δl BK728.out 2).trans rfl;have hcz61_3:w60.cell? ⟨gb728,3,none⟩=some (.int .i64 0):=(δl BK728.out 3).trans rfl;have hcz61_4:w60.cell? ⟨gb728,4,none⟩=some (.int .i64 0):=(δl BK728.out 4).trans rfl;have hcz61_5:w60.cell? ⟨gb728,5,none⟩=some (.bool ((rdOf ByteArray.empty t722 4).toList == ([111,112,101,110]:List UInt8))):=(δl BK728.out 5).trans rfl;have hfz61_0:=δm BK728.out 0;have hfz61_1:=δm BK728.out 1;have hfz61_2:=δm BK728.out 2;have hfz61_3:=δm BK728.out 3;have hfz61_4:=δm BK728.out 4;have hfz61_5:=δm BK728.out 5;have p735:0≤(3:Int):=(by omega);have q735:3<(t722.length:Int):=of_decide_eq_true (by (with_reducible assumption));obtain ⟨ad735,e735,hx735_0⟩:=Kd.at_string (ζg HO_6.out).2.2 3 p735 q735;obtain rfl:ad726=ad735:=(by injection e735);(try simp only [show (3:Int).toNat=3 from rfl,Nat.reduceMul,Nat.reduceEqDiff,Go.Addr.add,↓reduceIte] at hx735_0);have qi735:(3<t722.length)=True:=eq_true (by omega);(try rw [show ((3:Int)).toNat=3 from rfl] at hx735_0);have hn735_0:ad726.block≠gb728:=ζb (ζf HO_6.out BK728.out (by decide));replace hx735_0:=(δt (p:=⟨gb728,3,none⟩) (by exact hn735_0) (.int .i64 t733)).trans hx735_0;clear hn735_0;replace p735:=eq_true p735;replace q735:=eq_true q735)|((with_reducible refine δv (f:=151) rfl ?_);refine goesL_ (some 51) rfl rfl Tryz.func151 (by kernel_rfl) rfl #[.string (rdOf ByteArray.empty t722 3)] rfl (by (try simp only [δd,δe,δf]);rfl) ?_;(with_reducible refine (impl_readAmount.calls (rdOf ByteArray.empty t722 3) t736 t737 _ (HT0.out.below (by repeat ((with_reducible first|exact HB.out|refine δq ?_ GE728.out)))) A18.out).mono ?_);rintro e w62 ⟨rfl,hb⟩;refine ⟨_,rfl,?_⟩;have n0_:=ζa (ζh (by exact (Kd.R_mono (ζi (p:=⟨gb728,3,none⟩) (Kd.R_types HO_6.out BK728.out (by decide)) (fun _ hk=>hk.2) (.int .i64 t733)) (fun _ h_=>h_.1))) hb);have n1_:=ζa (blk_below (g:=gb721) (o:=.cells #[.string (⟨#[]⟩:ByteArray),.string (⟨#[]⟩:ByteArray),.int .i64 0,.int .i64 0,.int .i64 0,.bool φ] 66 (0,0)) (by refine blk_far ?_ NB721_728.out _;exact BK721.out) hb);have n2_:=ζa (blk_below (g:=gb728) (o:=.cells #[.string a0,.string (rdOf ByteArray.empty t722 0),.int .i64 t730,.int .i64 t733,.int .i64 0,.bool ((rdOf ByteArray.empty t722 4).toList == ([111,112,101,110]:List UInt8))] 66 (0,0)) (by refine δw (cs:=#[.string a0,.string (rdOf ByteArray.empty t722 0),.int .i64 t730,.int .i64 0,.int .i64 0,.bool ((rdOf ByteArray.empty t722 4).toList == ([111,112,101,110]:List UInt8))]) ?_ 3 _ rfl;exact BK728.out) hb);have n3_:=ζa (δr (by repeat ((with_reducible first|exact HB.out|refine δq ?_ GE728.out))) hb);clear HO_6;clear BK721;clear BK728;clear HB;have HO_6:=n0_;have BK721:=n1_;have BK728:=n2_;have HB:=n3_;clear n0_ n1_ n2_ n3_;(try clear hb);(try clear hb2);(try clear hk);(try clear hi);have hcz63_0:w62.cell? ⟨gb728,0,none⟩=some (.string a0):=(δl BK728.out 0).trans rfl;have hcz63_1:w62.cell? ⟨gb728,1,none⟩=some (.string (rdOf ByteArray.empty t722 0)):=(δl BK728.out 1).trans rfl;have hcz63_2:w62.cell? ⟨gb728,2,none⟩=some (.int .i64 t730):=(δl BK728.out 2).trans rfl;have hcz63_3:w62.cell? ⟨gb728,3,none⟩=some (.int .i64 t733):=(δl BK728.out 3).trans rfl;have hcz63_4:w62.cell? ⟨gb728,4,none⟩=some (.int .i64 0):=(δl BK728.out 4).trans rfl;have hcz63_5:w62.cell? ⟨gb728,5,none⟩=some (.bool ((rdOf ByteArray.empty t722 4).toList == ([111,112,101,110]:List UInt8))):=(δl BK728.out 5).trans rfl;have hfz63_0:=δm BK728.out 0;have hfz63_1:=δm BK728.out 1;have hfz63_2:=δm BK728.out 2;have hfz63_3:=δm BK728.out 3;have hfz63_4:=δm BK728.out 4;have hfz63_5:=δm BK728.out 5))
          have n0_:Aside0 (Kd.R Kd.string 9 (w62.setCell ⟨gb728,4,none⟩ (.int .i64 t736)) w.heap.size (fun _=>True) (.slice (some ad726) t722.length co49) t722):=⟨by exact Kd.R_mono (ζi (p:=⟨gb728,4,none⟩) (Kd.R_types HO_6.out BK728.out (by decide)) (fun _ hk=>hk.2) (.int .i64 t736)) (fun _ hk=>trivial)⟩
          have n1_:Aside0 ((w62.setCell ⟨gb728,4,none⟩ (.int .i64 t736)).heap[gb721]? = some (.cells #[.string (⟨#[]⟩:ByteArray),.string (⟨#[]⟩:ByteArray),.int .i64 0,.int .i64 0,.int .i64 0,.bool φ] 66 (0,0))):=⟨by refine blk_far ?_ NB721_728.out _;exact BK721.out⟩
          have n2_:Aside0 ((w62.setCell ⟨gb728,4,none⟩ (.int .i64 t736)).heap[gb728]? = some (.cells #[.string a0,.string (rdOf ByteArray.empty t722 0),.int .i64 t730,.int .i64 t733,.int .i64 t736,.bool ((rdOf ByteArray.empty t722 4).toList == ([111,112,101,110]:List UInt8))] 66 (0,0))):=⟨by refine δw (cs:=#[.string a0,.string (rdOf ByteArray.empty t722 0),.int .i64 t730,.int .i64 t733,.int .i64 0,.bool ((rdOf ByteArray.empty t722 4).toList == ([111,112,101,110]:List UInt8))]) ?_ 4 _ rfl;exact BK728.out⟩
          have n3_:Aside0 (Below w.heap.size w (w62.setCell ⟨gb728,4,none⟩ (.int .i64 t736))):=⟨by repeat ((with_reducible first|exact HB.out|refine δq ?_ GE728.out))⟩
          (try clear HO_6)
          (try clear BK721)
          (try clear BK728)
          (try clear HB)
          generalize (w62.setCell ⟨gb728,4,none⟩ (.int .i64 t736))=w64 at n0_ n1_ n2_ n3_ ⊢
          have HO_6:=n0_
          have BK721:=n1_
          have BK728:=n2_
          have HB:=n3_
          clear n0_ n1_ n2_ n3_
          have n0_:=ζa (ζe HO_6.out)
          have n1_:=ζa (δp BK721.out)
          have n2_:=ζa (δp BK728.out)
          have n3_:=ζa (δj HB.out)
          clear HO_6
          clear BK721
          clear BK728
          clear HB
          have HO_6:=n0_
          have BK721:=n1_
          have BK728:=n2_
          have HB:=n3_
          clear n0_ n1_ n2_ n3_
          refine start_ (n:=11) (S:=fun w'=>w'.cell? ⟨gb728,0,none⟩=some (.string a0)∧w'.cell? ⟨gb728,1,none⟩=some (.string (rdOf ByteArray.empty t722 0))∧w'.cell? ⟨gb728,2,none⟩=some (.int .i64 t730)∧w'.cell? ⟨gb728,3,none⟩=some (.int .i64 t733)∧w'.cell? ⟨gb728,4,none⟩=some (.int .i64 t736)∧w'.cell? ⟨gb728,5,none⟩=some (.bool ((rdOf ByteArray.empty t722 4).toList == ([111,112,101,110]:List UInt8)))) (ds:=[]) #[φ,φ,φ,φ,φ,φ,φ,φ,φ,φ,φ] (by kernel_rfl) rfl rfl ⟨(δl BK728.out 0).trans rfl,(δl BK728.out 1).trans rfl,(δl BK728.out 2).trans rfl,(δl BK728.out 3).trans rfl,(δl BK728.out 4).trans rfl,(δl BK728.out 5).trans rfl⟩ (fun hHeld => ?_);refine with_tabW impl_orderOf.tab8 impl_orderOf.bits8 (fun HT_ HW_ => ?_)
          generalize w64.drew=w65 at HO_6 BK721 BK728 HB hHeld ⊢
          refine take_ (i:=0) (N:=some 55) (v:=?_) (a':=?_) #[τ,φ,φ,φ,φ,φ,φ,φ,φ,φ,φ] rfl rfl (take_ofW HT_.out HW_.out (by kernel_rfl)) (fun _ _ _ h=>h) (Or.inl ⟨by rfl,?_⟩) hHeld ?_ ?_
          rotate_left
          · rintro w' ⟨s0,s1,s2,s3,s4,s5⟩;go_simp;with_reducible rfl
          rotate_left
          · simp only [ζl,δa,δb,δc,i64_w,i32_w];rfl
          refine take_ (i:=1) (N:=some 56) (v:=?_) (a':=?_) #[τ,τ,φ,φ,φ,φ,φ,φ,φ,φ,φ] rfl rfl (take_ofW HT_.out HW_.out (by kernel_rfl)) (fun _ _ _ h=>h) (Or.inl ⟨by rfl,?_⟩) hHeld ?_ ?_
          rotate_left
          · rintro w' ⟨s0,s1,s2,s3,s4,s5⟩;go_simp;with_reducible rfl
          rotate_left
          · simp only [ζl,δa,δb,δc,i64_w,i32_w];rfl
          refine one_ (i:=2) (N:=some 57) #[τ,τ,τ,φ,φ,φ,φ,φ,φ,φ,φ] rfl rfl (one_of HT_.out (by kernel_rfl)) (by decide) (fun K hK => ?_)
          refine goes_ Tryz.func106 (by kernel_rfl) rfl #[.agg #[.string a0,.string (rdOf ByteArray.empty t722 0),.int .i64 t730,.int .i64 t733,.int .i64 t736,.bool ((rdOf ByteArray.empty t722 4).toList == ([111,112,101,110]:List UInt8))]] (by rfl) rfl rfl (by (try simp only [δd,δe,δf]);rfl) ?_
          with_reducible refine (impl_OrderOK.calls kj3 a0 (rdOf ByteArray.empty t722 0) t730 t733 t736 ((rdOf ByteArray.empty t722 4).toList == ([111,112,101,110]:List UInt8)) φ _ A19.out).mono ?_
          rintro e w66 ⟨rfl,hb⟩
          refine ⟨_,rfl,?_⟩
          have n0_:=ζa (ζh (by exact HO_6.out) hb)
          have n1_:=ζa (blk_below (g:=gb721) (o:=.cells #[.string (⟨#[]⟩:ByteArray),.string (⟨#[]⟩:ByteArray),.int .i64 0,.int .i64 0,.int .i64 0,.bool φ] 66 (0,0)) (by exact BK721.out) hb)
          have n2_:=ζa (blk_below (g:=gb728) (o:=.cells #[.string a0,.string (rdOf ByteArray.empty t722 0),.int .i64 t730,.int .i64 t733,.int .i64 t736,.bool ((rdOf ByteArray.empty t722 4).toList == ([111,112,101,110]:List UInt8))] 66 (0,0)) (by exact BK728.out) hb)
          have n3_:=ζa (δr (by exact HB.out) hb)
          clear HO_6
          clear BK721
          clear BK728
          clear HB
          have HO_6:=n0_
          have BK721:=n1_
          have BK728:=n2_
          have HB:=n3_
          clear n0_ n1_ n2_ n3_
          (try clear hb)
          (try clear hb2)
          (try clear hk)
          (try clear hi)
          refine hK.out _ _ ⟨(δl BK728.out 0).trans rfl,(δl BK728.out 1).trans rfl,(δl BK728.out 2).trans rfl,(δl BK728.out 3).trans rfl,(δl BK728.out 4).trans rfl,(δl BK728.out 5).trans rfl⟩ (fun hHeld => ?_)
          clear hK K
          refine norm_ (a':=?_) ?_ ?_
          rotate_left
          ·
           show ζl _ (some 57) _=_
           simp only [ζl,δa,δb,δc,i64_w,i32_w];rfl
          refine ζk (i:=3) (N:=some 58) (v:=?_) (a':=?_) #[τ,τ,τ,τ,φ,φ,φ,φ,φ,φ,φ] rfl rfl (ζj HT_.out (by kernel_rfl)) (fun _ _ _ h=>h) (Or.inl ⟨by rfl,?_⟩) ?_ ?_
          rotate_left
          · intro w';go_simp;with_reducible rfl
          rotate_left
          · simp only [ζl,δa,δb,δc,i64_w,i32_w];rfl
          refine ζk (i:=4) (N:=some 59) (v:=undef) (a':=?_) #[τ,τ,τ,τ,τ,φ,φ,φ,φ,φ,φ] rfl rfl (ζj HT_.out (by kernel_rfl)) (fun _ _ _ h=>h) (Or.inr ⟨by rfl,rfl⟩) ?_ ?_
          rotate_left
          · simp only [ζl,δa,δb,δc,i64_w,i32_w];rfl
          refine ζk (i:=5) (N:=some 60) (v:=undef) (a':=?_) #[τ,τ,τ,τ,τ,τ,φ,φ,φ,φ,φ] rfl rfl (ζj HT_.out (by kernel_rfl)) (fun _ _ _ h=>h) (Or.inr ⟨by rfl,rfl⟩) ?_ ?_
          rotate_left
          · simp only [ζl,δa,δb,δc,i64_w,i32_w];rfl
          refine ζk (i:=6) (N:=some 61) (v:=undef) (a':=?_) #[τ,τ,τ,τ,τ,τ,τ,φ,φ,φ,φ] rfl rfl (ζj HT_.out (by kernel_rfl)) (fun _ _ _ h=>h) (Or.inr ⟨by rfl,rfl⟩) ?_ ?_
          rotate_left
          · simp only [ζl,δa,δb,δc,i64_w,i32_w];rfl
          refine ζk (i:=7) (N:=some 62) (v:=undef) (a':=?_) #[τ,τ,τ,τ,τ,τ,τ,τ,φ,φ,φ] rfl rfl (ζj HT_.out (by kernel_rfl)) (fun _ _ _ h=>h) (Or.inr ⟨by rfl,rfl⟩) ?_ ?_
          rotate_left
          · simp only [ζl,δa,δb,δc,i64_w,i32_w];rfl
          refine ζk (i:=8) (N:=some 63) (v:=?_) (a':=?_) #[τ,τ,τ,τ,τ,τ,τ,τ,τ,φ,φ] rfl rfl (ζj HT_.out (by kernel_rfl)) (fun _ _ _ h=>h) (Or.inl ⟨by rfl,?_⟩) ?_ ?_
          rotate_left
          · intro w';go_simp;with_reducible rfl
          rotate_left
          · simp only [ζl,δa,δb,δc,i64_w,i32_w];rfl
          refine one_ (i:=9) (N:=none) #[τ,τ,τ,τ,τ,τ,τ,τ,τ,τ,φ] rfl rfl (one_of HT_.out (by kernel_rfl)) (by decide) (fun K hK => ?_)
          have hs67:w66.cell? ⟨gb721,0,none⟩=some (.string (⟨#[]⟩:ByteArray)):=(δl BK721.out 0).trans rfl
          have hfs67:=δm BK721.out 0
          have hns67_1:=NB728_721.out
          have hms67_1:=NB721_728.out
          have hs68:w66.cell? ⟨gb721,1,none⟩=some (.string (⟨#[]⟩:ByteArray)):=(δl BK721.out 1).trans rfl
          have hfs68:=δm BK721.out 1
          have hns68_1:=NB728_721.out
          have hms68_1:=NB721_728.out
          have hs69:w66.cell? ⟨gb721,2,none⟩=some (.int .i64 0):=(δl BK721.out 2).trans rfl
          have hfs69:=δm BK721.out 2
          have hns69_1:=NB728_721.out
          have hms69_1:=NB721_728.out
          have hs70:w66.cell? ⟨gb721,3,none⟩=some (.int .i64 0):=(δl BK721.out 3).trans rfl
          have hfs70:=δm BK721.out 3
          have hns70_1:=NB728_721.out
          have hms70_1:=NB721_728.out
          have hs71:w66.cell? ⟨gb721,4,none⟩=some (.int .i64 0):=(δl BK721.out 4).trans rfl
          have hfs71:=δm BK721.out 4
          have hns71_1:=NB728_721.out
          have hms71_1:=NB721_728.out
          have hs72:w66.cell? ⟨gb721,5,none⟩=some (.bool φ):=(δl BK721.out 5).trans rfl
          have hfs72:=δm BK721.out 5
          have hns72_1:=NB728_721.out
          have hms72_1:=NB721_728.out
          refine skip_ (w1:=?_) (by rfl) rfl ?_ ?_
          rotate_left
          ·
           go_simp
           rfl
          refine hK.out _ _ ⟨((δt (p:=⟨gb721,_,none⟩) NB728_721.out _).trans (((δt (p:=⟨gb721,_,none⟩) NB728_721.out _).trans (((δt (p:=⟨gb721,_,none⟩) NB728_721.out _).trans (((δt (p:=⟨gb721,_,none⟩) NB728_721.out _).trans (((δt (p:=⟨gb721,_,none⟩) NB728_721.out _).trans (((δt (p:=⟨gb721,_,none⟩) NB728_721.out _).trans (hHeld.1)))))))))))),((δt (p:=⟨gb721,_,none⟩) NB728_721.out _).trans (((δt (p:=⟨gb721,_,none⟩) NB728_721.out _).trans (((δt (p:=⟨gb721,_,none⟩) NB728_721.out _).trans (((δt (p:=⟨gb721,_,none⟩) NB728_721.out _).trans (((δt (p:=⟨gb721,_,none⟩) NB728_721.out _).trans (((δt (p:=⟨gb721,_,none⟩) NB728_721.out _).trans (hHeld.2.1)))))))))))),((δt (p:=⟨gb721,_,none⟩) NB728_721.out _).trans (((δt (p:=⟨gb721,_,none⟩) NB728_721.out _).trans (((δt (p:=⟨gb721,_,none⟩) NB728_721.out _).trans (((δt (p:=⟨gb721,_,none⟩) NB728_721.out _).trans (((δt (p:=⟨gb721,_,none⟩) NB728_721.out _).trans (((δt (p:=⟨gb721,_,none⟩) NB728_721.out _).trans (hHeld.2.2.1)))))))))))),((δt (p:=⟨gb721,_,none⟩) NB728_721.out _).trans (((δt (p:=⟨gb721,_,none⟩) NB728_721.out _).trans (((δt (p:=⟨gb721,_,none⟩) NB728_721.out _).trans (((δt (p:=⟨gb721,_,none⟩) NB728_721.out _).trans (((δt (p:=⟨gb721,_,none⟩) NB728_721.out _).trans (((δt (p:=⟨gb721,_,none⟩) NB728_721.out _).trans (hHeld.2.2.2.1)))))))))))),((δt (p:=⟨gb721,_,none⟩) NB728_721.out _).trans (((δt (p:=⟨gb721,_,none⟩) NB728_721.out _).trans (((δt (p:=⟨gb721,_,none⟩) NB728_721.out _).trans (((δt (p:=⟨gb721,_,none⟩) NB728_721.out _).trans (((δt (p:=⟨gb721,_,none⟩) NB728_721.out _).trans (((δt (p:=⟨gb721,_,none⟩) NB728_721.out _).trans (hHeld.2.2.2.2.1)))))))))))),((δt (p:=⟨gb721,_,none⟩) NB728_721.out _).trans (((δt (p:=⟨gb721,_,none⟩) NB728_721.out _).trans (((δt (p:=⟨gb721,_,none⟩) NB728_721.out _).trans (((δt (p:=⟨gb721,_,none⟩) NB728_721.out _).trans (((δt (p:=⟨gb721,_,none⟩) NB728_721.out _).trans (((δt (p:=⟨gb721,_,none⟩) NB728_721.out _).trans (hHeld.2.2.2.2.2))))))))))))⟩ (fun hHeld => ?_)
          clear hK K
          refine ζk (i:=10) (N:=some 5) (v:=?_) (a':=?_) #[τ,τ,τ,τ,τ,τ,τ,τ,τ,τ,τ] rfl rfl (ζj HT_.out (by kernel_rfl)) (fun _ _ _ h=>h) (Or.inl ⟨by rfl,?_⟩) ?_ ?_
          rotate_left
          · intro w';go_simp;with_reducible rfl
          rotate_left
          · simp only [ζl,δa,δb,δc,i64_w,i32_w];rfl
          refine done_ (done_of HT_.out (by kernel_rfl)) ?_
          try go_wp2
          refine bodyPost_ret (results_ct rfl _ _ gb721 66 #[.string a0,.string (rdOf ByteArray.empty t722 0),.int .i64 t730,.int .i64 t733,.int .i64 t736,.bool ((rdOf ByteArray.empty t722 4).toList == ([111,112,101,110]:List UInt8))] (0,0) _ rfl (by refine δw (cs:=#[.string a0,.string (rdOf ByteArray.empty t722 0),.int .i64 t730,.int .i64 t733,.int .i64 t736,.bool φ]) ?_ 5 _ rfl;refine δw (cs:=#[.string a0,.string (rdOf ByteArray.empty t722 0),.int .i64 t730,.int .i64 t733,.int .i64 0,.bool φ]) ?_ 4 _ rfl;refine δw (cs:=#[.string a0,.string (rdOf ByteArray.empty t722 0),.int .i64 t730,.int .i64 0,.int .i64 0,.bool φ]) ?_ 3 _ rfl;refine δw (cs:=#[.string a0,.string (rdOf ByteArray.empty t722 0),.int .i64 0,.int .i64 0,.int .i64 0,.bool φ]) ?_ 2 _ rfl;refine δw (cs:=#[.string a0,.string (⟨#[]⟩:ByteArray),.int .i64 0,.int .i64 0,.int .i64 0,.bool φ]) ?_ 1 _ rfl;refine δw (cs:=#[.string (⟨#[]⟩:ByteArray),.string (⟨#[]⟩:ByteArray),.int .i64 0,.int .i64 0,.int .i64 0,.bool φ]) ?_ 0 _ rfl;exact BK721.out) Tryz.underlying66 rfl (by kernel_rfl)) rfl ?_
          exact ⟨by rfl,by repeat ((with_reducible first|exact HB.out|refine δq ?_ GE721.out))⟩
        ·
         rw [if_neg c17] at H
         exact absurd H (by simp)
       ·
        rw [if_neg c15] at H
        exact absurd H (by simp)
      ·
       rw [if_neg c13] at H
       exact absurd H (by simp)
     ·
      rw [if_neg c12] at H
      exact absurd H (by simp)
    ·
     rw [if_neg c11] at H
     exact absurd H (by simp)


open Go.Proofs.YtabmfhnhmoiljaaGreatDoorW.PrintWords renaming gate_dst → δx, box_event → δz, below_step → δr, below_size → δs, gate_callee → δv, blk_drewN → δn, pw_below_drewN → δi, blk_cell → δl, blk_frozen → δm, blk_put → δw, below_set → δq
open List renaming map_toArray → δd, map_cons → δe, map_nil → δf

/-! ### impl_orderAt: function 115 -/
def impl_orderAt.f (k:Nat) (l0:List (S51)) (a1:ByteArray):Option (ByteArray × ByteArray × Int × Int × Int × Bool × Bool):=(impl_orderKey.f a1).bind fun t741=>((impl_get.f k l0 t741).bind fun bt742=>((impl_orderOf.f k a1 bt742.1).bind fun bt744=>(if bt742.2=τ then (some (bt744.1,bt744.2.1,bt744.2.2.1,bt744.2.2.2.1,bt744.2.2.2.2.1,bt744.2.2.2.2.2.1,bt744.2.2.2.2.2.2)) else (some (bt744.1,bt744.2.1,bt744.2.2.1,bt744.2.2.2.1,bt744.2.2.2.2.1,bt744.2.2.2.2.2.1,φ)))))
set_option maxHeartbeats 8000000 in
set_option maxRecDepth 100000 in
theorem impl_orderAt.calls (k:Nat) (A0:Option Addr) (c0:Nat) (l0:List (S51)) (a1:ByteArray) (r1:ByteArray) (r2:ByteArray) (r3:Int) (r4:Int) (r5:Int) (r6:Bool) (r7:Bool) (w:World) (hr0:Kd.C k51 w A0 l0.length l0) (hc0:l0.length≤c0) (hT0:TabsOK w) (h:impl_orderAt.f k l0 a1=some (r1,r2,r3,r4,r5,r6,r7)) :
  Calls Tryz.prog 115 #[.slice A0 l0.length c0,.string a1] w fun e w'=>e = .returned (.tuple #[.agg #[.string r1,.string r2,.int .i64 r3,.int .i64 r4,.int .i64 r5,.bool r6],.bool r7])∧Below w.heap.size w w':=by
 have HT0:=ζa hT0
 clear hT0
 have hu66:=Tryz.underlying66
 have HR0:=ζa hr0
 have HC0:=ζa hc0
 clear hr0 hc0
 have HB:=ζa (Below.refl w.heap.size w)
 have H:((impl_orderKey.f a1).bind fun t741=>((impl_get.f k l0 t741).bind fun bt742=>((impl_orderOf.f k a1 bt742.1).bind fun bt744=>(if bt742.2=τ then (some (bt744.1,bt744.2.1,bt744.2.2.1,bt744.2.2.2.1,bt744.2.2.2.2.1,bt744.2.2.2.2.2.1,bt744.2.2.2.2.2.2)) else (some (bt744.1,bt744.2.1,bt744.2.2.1,bt744.2.2.2.1,bt744.2.2.2.2.1,bt744.2.2.2.2.2.1,φ))))))=some (r1,r2,r3,r4,r5,r6,r7):=h
 clear h
 replace H:=Option.bind_eq_some_iff.mp H
 obtain ⟨t741,A30,H⟩:=H
 replace H:((impl_get.f k l0 t741).bind fun bt742=>((impl_orderOf.f k a1 bt742.1).bind fun bt744=>(if bt742.2=τ then (some (bt744.1,bt744.2.1,bt744.2.2.1,bt744.2.2.2.1,bt744.2.2.2.2.1,bt744.2.2.2.2.2.1,bt744.2.2.2.2.2.2)) else (some (bt744.1,bt744.2.1,bt744.2.2.1,bt744.2.2.2.1,bt744.2.2.2.2.1,bt744.2.2.2.2.2.1,φ)))))=some (r1,r2,r3,r4,r5,r6,r7):=H
 have A3:=ζa A30
 clear A30
 replace H:=Option.bind_eq_some_iff.mp H
 obtain ⟨⟨t742,t743⟩,A40,H⟩:=H
 replace H:((impl_orderOf.f k a1 t742).bind fun bt744=>(if t743=τ then (some (bt744.1,bt744.2.1,bt744.2.2.1,bt744.2.2.2.1,bt744.2.2.2.2.1,bt744.2.2.2.2.2.1,bt744.2.2.2.2.2.2)) else (some (bt744.1,bt744.2.1,bt744.2.2.1,bt744.2.2.2.1,bt744.2.2.2.2.1,bt744.2.2.2.2.2.1,φ))))=some (r1,r2,r3,r4,r5,r6,r7):=H
 have A4:=ζa A40
 clear A40
 replace H:=Option.bind_eq_some_iff.mp H
 obtain ⟨⟨t744,t745,t746,t747,t748,t749,t750⟩,A50,H⟩:=H
 replace H:(if t743=τ then (some (t744,t745,t746,t747,t748,t749,t750)) else (some (t744,t745,t746,t747,t748,t749,φ)))=some (r1,r2,r3,r4,r5,r6,r7):=H
 have A5:=ζa A50
 clear A50
 by_cases c6:t743=τ
 ·
  subst c6
  have H1:(some (t744,t745,t746,t747,t748,t749,t750))=some (r1,r2,r3,r4,r5,r6,r7):=by rw [if_pos rfl] at H;exact H
  clear H
  have H:=H1
  clear H1
  simp only [Option.some.injEq,Prod.mk.injEq] at H
  obtain ⟨rfl,rfl,rfl,rfl,rfl,rfl,rfl⟩:=H
  go_enter Tryz.func115,Tryz.ntmps115
  go_wp2_with (first|((with_reducible refine δx (N:=4) rfl ?_);refine δz ?hg (N:=4) ?hd (cs:=#[.string (⟨#[]⟩:ByteArray),.string (⟨#[]⟩:ByteArray),.int .i64 0,.int .i64 0,.int .i64 0,.bool φ]) (t:=66) ?hr ?_;(case hd=>rfl);(case hg=>rfl);(case hr=>(go_simp;done));intro gb740 hg w7 hbox hb;have n0_:=ζa (δr (by exact HB.out) hb);have n1_:=ζa (hbox);have n2_:=ζa ((by rw [hg];exact (δs (by exact HB.out)):w.heap.size≤gb740));have n3_:=ζa ((by rw [hg];exact (δs (by exact HB.out)):w.heap.size≤gb740));clear HB;have HB:=n0_;have BK740:=n1_;have GW740:=n2_;have GE740:=n3_;clear n0_ n1_ n2_ n3_;clear hb hbox hg)|((with_reducible refine δv (f:=108) rfl ?_);refine goesL_ (some 13) rfl rfl Tryz.func108 (by kernel_rfl) rfl #[.string a1] rfl (by (try simp only [δd,δe,δf]);rfl) ?_;(with_reducible refine (impl_orderKey.calls a1 t741 _ A3.out).mono ?_);rintro e w' ⟨rfl,⟨nd,rfl⟩⟩;refine ⟨_,rfl,?_⟩;(try (rw [drewN_self w7];generalize hq_:World.drewN w7 _=w7;have n0_:Aside0 (w7.heap[gb740]? = some (.cells #[.string (⟨#[]⟩:ByteArray),.string (⟨#[]⟩:ByteArray),.int .i64 0,.int .i64 0,.int .i64 0,.bool φ] 66 (0,0))):=⟨by rw [← hq_];exact (by (with_reducible repeat (refine δn ?_ _));exact BK740.out)⟩;have n1_:Aside0 (Below w.heap.size w w7):=⟨by rw [← hq_];exact (by repeat ((with_reducible first|exact HB.out|apply δi)))⟩;clear BK740 HB hq_;have BK740:=n0_;have HB:=n1_;clear n0_ n1_)))|((with_reducible refine δv (f:=107) rfl ?_);refine goesL_ (some 14) rfl rfl Tryz.func107 (by kernel_rfl) rfl #[.slice A0 l0.length c0,.string t741] rfl (by (try simp only [δd,δe,δf]);rfl) ?_;(with_reducible refine (impl_get.calls k _ _ l0 t741 t742 τ _ ?side1 ?side2 A4.out).mono ?_);(case side1=>repeat (exact (Kd.C_below HR0.out HB.out)));(case side2=>exact HC0.out);rintro e w8 ⟨rfl,hb⟩;refine ⟨_,rfl,?_⟩;have n0_:=ζa (blk_below (g:=gb740) (o:=.cells #[.string (⟨#[]⟩:ByteArray),.string (⟨#[]⟩:ByteArray),.int .i64 0,.int .i64 0,.int .i64 0,.bool φ] 66 (0,0)) (by exact BK740.out) hb);have n1_:=ζa (δr (by exact HB.out) hb);clear BK740;clear HB;have BK740:=n0_;have HB:=n1_;clear n0_ n1_;(try clear hb);(try clear hb2);(try clear hk);(try clear hi))|((with_reducible refine δv (f:=170) rfl ?_);refine goesL_ (some 20) rfl rfl Tryz.func170 (by kernel_rfl) rfl #[.string a1,.string t742] rfl (by (try simp only [δd,δe,δf]);rfl) ?_;(with_reducible refine (impl_orderOf.calls k a1 t742 t744 t745 t746 t747 t748 t749 t750 _ (HT0.out.below (by exact HB.out)) A5.out).mono ?_);rintro e w9 ⟨rfl,hb⟩;refine ⟨_,rfl,?_⟩;have n0_:=ζa (blk_below (g:=gb740) (o:=.cells #[.string (⟨#[]⟩:ByteArray),.string (⟨#[]⟩:ByteArray),.int .i64 0,.int .i64 0,.int .i64 0,.bool φ] 66 (0,0)) (by exact BK740.out) hb);have n1_:=ζa (δr (by exact HB.out) hb);clear BK740;clear HB;have BK740:=n0_;have HB:=n1_;clear n0_ n1_;(try clear hb);(try clear hb2);(try clear hk);(try clear hi))|((with_reducible refine δx (N:=8) rfl ?_);refine δz ?hg (N:=8) ?hd (cs:=#[.string (⟨#[]⟩:ByteArray),.string (⟨#[]⟩:ByteArray),.int .i64 0,.int .i64 0,.int .i64 0,.bool φ]) (t:=66) ?hr ?_;(case hd=>rfl);(case hg=>rfl);(case hr=>(go_simp;done));intro gb751 hg w10 hbox hb;have n0_:=ζa (blk_below (g:=gb740) (o:=.cells #[.string (⟨#[]⟩:ByteArray),.string (⟨#[]⟩:ByteArray),.int .i64 0,.int .i64 0,.int .i64 0,.bool φ] 66 (0,0)) (by exact BK740.out) hb);have n1_:=ζa (δr (by exact HB.out) hb);have n2_:=ζa (hbox);have n3_:=ζa ((by rw [hg];exact (δs (by exact HB.out)):w.heap.size≤gb751));have n4_:=ζa ((by rw [hg];exact (δs (by exact HB.out)):w.heap.size≤gb751));have n5_:=ζa ((by rw [hg];exact Nat.ne_of_lt (blk_lt (g:=gb740) (o:=.cells #[.string (⟨#[]⟩:ByteArray),.string (⟨#[]⟩:ByteArray),.int .i64 0,.int .i64 0,.int .i64 0,.bool φ] 66 (0,0)) (by exact BK740.out)):gb740≠gb751));have n6_:=ζa ((by rw [hg];exact Nat.ne_of_gt (blk_lt (g:=gb740) (o:=.cells #[.string (⟨#[]⟩:ByteArray),.string (⟨#[]⟩:ByteArray),.int .i64 0,.int .i64 0,.int .i64 0,.bool φ] 66 (0,0)) (by exact BK740.out)):gb751≠gb740));clear BK740;clear HB;have BK740:=n0_;have HB:=n1_;have BK751:=n2_;have GW751:=n3_;have GE751:=n4_;have NB740_751:=n5_;have NB751_740:=n6_;clear n0_ n1_ n2_ n3_ n4_ n5_ n6_;clear hb hbox hg;have hnb11:=NB751_740.out;have hnc11:=NB740_751.out;have hcz12_0:w10.cell? ⟨gb751,0,none⟩=some (.string (⟨#[]⟩:ByteArray)):=(δl BK751.out 0).trans rfl;have hcz12_1:w10.cell? ⟨gb751,1,none⟩=some (.string (⟨#[]⟩:ByteArray)):=(δl BK751.out 1).trans rfl;have hcz12_2:w10.cell? ⟨gb751,2,none⟩=some (.int .i64 0):=(δl BK751.out 2).trans rfl;have hcz12_3:w10.cell? ⟨gb751,3,none⟩=some (.int .i64 0):=(δl BK751.out 3).trans rfl;have hcz12_4:w10.cell? ⟨gb751,4,none⟩=some (.int .i64 0):=(δl BK751.out 4).trans rfl;have hcz12_5:w10.cell? ⟨gb751,5,none⟩=some (.bool φ):=(δl BK751.out 5).trans rfl;have hfz12_0:=δm BK751.out 0;have hfz12_1:=δm BK751.out 1;have hfz12_2:=δm BK751.out 2;have hfz12_3:=δm BK751.out 3;have hfz12_4:=δm BK751.out 4;have hfz12_5:=δm BK751.out 5;have hcz13_0:w10.cell? ⟨gb740,0,none⟩=some (.string (⟨#[]⟩:ByteArray)):=(δl BK740.out 0).trans rfl;have hcz13_1:w10.cell? ⟨gb740,1,none⟩=some (.string (⟨#[]⟩:ByteArray)):=(δl BK740.out 1).trans rfl;have hcz13_2:w10.cell? ⟨gb740,2,none⟩=some (.int .i64 0):=(δl BK740.out 2).trans rfl;have hcz13_3:w10.cell? ⟨gb740,3,none⟩=some (.int .i64 0):=(δl BK740.out 3).trans rfl;have hcz13_4:w10.cell? ⟨gb740,4,none⟩=some (.int .i64 0):=(δl BK740.out 4).trans rfl;have hcz13_5:w10.cell? ⟨gb740,5,none⟩=some (.bool φ):=(δl BK740.out 5).trans rfl;have hfz13_0:=δm BK740.out 0;have hfz13_1:=δm BK740.out 1;have hfz13_2:=δm BK740.out 2;have hfz13_3:=δm BK740.out 3;have hfz13_4:=δm BK740.out 4;have hfz13_5:=δm BK740.out 5))
  refine bodyPost_ret (results_ct rfl _ _ gb740 66 #[.string t744,.string t745,.int .i64 t746,.int .i64 t747,.int .i64 t748,.bool t749] (0,0) _ rfl (by refine δw (cs:=#[.string t744,.string t745,.int .i64 t746,.int .i64 t747,.int .i64 t748,.bool φ]) ?_ 5 _ rfl;refine δw (cs:=#[.string t744,.string t745,.int .i64 t746,.int .i64 t747,.int .i64 0,.bool φ]) ?_ 4 _ rfl;refine δw (cs:=#[.string t744,.string t745,.int .i64 t746,.int .i64 0,.int .i64 0,.bool φ]) ?_ 3 _ rfl;refine δw (cs:=#[.string t744,.string t745,.int .i64 0,.int .i64 0,.int .i64 0,.bool φ]) ?_ 2 _ rfl;refine δw (cs:=#[.string t744,.string (⟨#[]⟩:ByteArray),.int .i64 0,.int .i64 0,.int .i64 0,.bool φ]) ?_ 1 _ rfl;refine δw (cs:=#[.string (⟨#[]⟩:ByteArray),.string (⟨#[]⟩:ByteArray),.int .i64 0,.int .i64 0,.int .i64 0,.bool φ]) ?_ 0 _ rfl;refine blk_far ?_ NB740_751.out _;refine blk_far ?_ NB740_751.out _;refine blk_far ?_ NB740_751.out _;refine blk_far ?_ NB740_751.out _;refine blk_far ?_ NB740_751.out _;refine blk_far ?_ NB740_751.out _;exact BK740.out) Tryz.underlying66 rfl (by kernel_rfl)) rfl ?_
  exact ⟨by rfl,by repeat ((with_reducible first|exact HB.out|refine δq ?_ GE740.out|refine δq ?_ GE751.out))⟩
 ·
  replace c6:=Bool.eq_false_iff.mpr c6
  subst c6
  have H1:(some (t744,t745,t746,t747,t748,t749,φ))=some (r1,r2,r3,r4,r5,r6,r7):=by rw [if_neg (show ¬ (φ=τ) by decide)] at H;exact H
  clear H
  have H:=H1
  clear H1
  simp only [Option.some.injEq,Prod.mk.injEq] at H
  obtain ⟨rfl,rfl,rfl,rfl,rfl,rfl,rfl⟩:=H
  go_enter Tryz.func115,Tryz.ntmps115
  go_wp2_with (first|((with_reducible refine δx (N:=4) rfl ?_);refine δz ?hg (N:=4) ?hd (cs:=#[.string (⟨#[]⟩:ByteArray),.string (⟨#[]⟩:ByteArray),.int .i64 0,.int .i64 0,.int .i64 0,.bool φ]) (t:=66) ?hr ?_;(case hd=>rfl);(case hg=>rfl);(case hr=>(go_simp;done));intro gb740 hg w14 hbox hb;have n0_:=ζa (δr (by exact HB.out) hb);have n1_:=ζa (hbox);have n2_:=ζa ((by rw [hg];exact (δs (by exact HB.out)):w.heap.size≤gb740));have n3_:=ζa ((by rw [hg];exact (δs (by exact HB.out)):w.heap.size≤gb740));clear HB;have HB:=n0_;have BK740:=n1_;have GW740:=n2_;have GE740:=n3_;clear n0_ n1_ n2_ n3_;clear hb hbox hg)|((with_reducible refine δv (f:=108) rfl ?_);refine goesL_ (some 13) rfl rfl Tryz.func108 (by kernel_rfl) rfl #[.string a1] rfl (by (try simp only [δd,δe,δf]);rfl) ?_;(with_reducible refine (impl_orderKey.calls a1 t741 _ A3.out).mono ?_);rintro e w' ⟨rfl,⟨nd,rfl⟩⟩;refine ⟨_,rfl,?_⟩;(try (rw [drewN_self w14];generalize hq_:World.drewN w14 _=w14;have n0_:Aside0 (w14.heap[gb740]? = some (.cells #[.string (⟨#[]⟩:ByteArray),.string (⟨#[]⟩:ByteArray),.int .i64 0,.int .i64 0,.int .i64 0,.bool φ] 66 (0,0))):=⟨by rw [← hq_];exact (by (with_reducible repeat (refine δn ?_ _));exact BK740.out)⟩;have n1_:Aside0 (Below w.heap.size w w14):=⟨by rw [← hq_];exact (by repeat ((with_reducible first|exact HB.out|apply δi)))⟩;clear BK740 HB hq_;have BK740:=n0_;have HB:=n1_;clear n0_ n1_)))|((with_reducible refine δv (f:=107) rfl ?_);refine goesL_ (some 14) rfl rfl Tryz.func107 (by kernel_rfl) rfl #[.slice A0 l0.length c0,.string t741] rfl (by (try simp only [δd,δe,δf]);rfl) ?_;(with_reducible refine (impl_get.calls k _ _ l0 t741 t742 φ _ ?side1 ?side2 A4.out).mono ?_);(case side1=>repeat (exact (Kd.C_below HR0.out HB.out)));(case side2=>exact HC0.out);rintro e w15 ⟨rfl,hb⟩;refine ⟨_,rfl,?_⟩;have n0_:=ζa (blk_below (g:=gb740) (o:=.cells #[.string (⟨#[]⟩:ByteArray),.string (⟨#[]⟩:ByteArray),.int .i64 0,.int .i64 0,.int .i64 0,.bool φ] 66 (0,0)) (by exact BK740.out) hb);have n1_:=ζa (δr (by exact HB.out) hb);clear BK740;clear HB;have BK740:=n0_;have HB:=n1_;clear n0_ n1_;(try clear hb);(try clear hb2);(try clear hk);(try clear hi))|((with_reducible refine δv (f:=170) rfl ?_);refine goesL_ (some 20) rfl rfl Tryz.func170 (by kernel_rfl) rfl #[.string a1,.string t742] rfl (by (try simp only [δd,δe,δf]);rfl) ?_;(with_reducible refine (impl_orderOf.calls k a1 t742 t744 t745 t746 t747 t748 t749 t750 _ (HT0.out.below (by exact HB.out)) A5.out).mono ?_);rintro e w16 ⟨rfl,hb⟩;refine ⟨_,rfl,?_⟩;have n0_:=ζa (blk_below (g:=gb740) (o:=.cells #[.string (⟨#[]⟩:ByteArray),.string (⟨#[]⟩:ByteArray),.int .i64 0,.int .i64 0,.int .i64 0,.bool φ] 66 (0,0)) (by exact BK740.out) hb);have n1_:=ζa (δr (by exact HB.out) hb);clear BK740;clear HB;have BK740:=n0_;have HB:=n1_;clear n0_ n1_;(try clear hb);(try clear hb2);(try clear hk);(try clear hi))|((with_reducible refine δx (N:=8) rfl ?_);refine δz ?hg (N:=8) ?hd (cs:=#[.string (⟨#[]⟩:ByteArray),.string (⟨#[]⟩:ByteArray),.int .i64 0,.int .i64 0,.int .i64 0,.bool φ]) (t:=66) ?hr ?_;(case hd=>rfl);(case hg=>rfl);(case hr=>(go_simp;done));intro gb751 hg w17 hbox hb;have n0_:=ζa (blk_below (g:=gb740) (o:=.cells #[.string (⟨#[]⟩:ByteArray),.string (⟨#[]⟩:ByteArray),.int .i64 0,.int .i64 0,.int .i64 0,.bool φ] 66 (0,0)) (by exact BK740.out) hb);have n1_:=ζa (δr (by exact HB.out) hb);have n2_:=ζa (hbox);have n3_:=ζa ((by rw [hg];exact (δs (by exact HB.out)):w.heap.size≤gb751));have n4_:=ζa ((by rw [hg];exact (δs (by exact HB.out)):w.heap.size≤gb751));have n5_:=ζa ((by rw [hg];exact Nat.ne_of_lt (blk_lt (g:=gb740) (o:=.cells #[.string (⟨#[]⟩:ByteArray),.string (⟨#[]⟩:ByteArray),.int .i64 0,.int .i64 0,.int .i64 0,.bool φ] 66 (0,0)) (by exact BK740.out)):gb740≠gb751));have n6_:=ζa ((by rw [hg];exact Nat.ne_of_gt (blk_lt (g:=gb740) (o:=.cells #[.string (⟨#[]⟩:ByteArray),.string (⟨#[]⟩:ByteArray),.int .i64 0,.int .i64 0,.int .i64 0,.bool φ] 66 (0,0)) (by exact BK740.out)):gb751≠gb740));clear BK740;clear HB;have BK740:=n0_;have HB:=n1_;have BK751:=n2_;have GW751:=n3_;have GE751:=n4_;have NB740_751:=n5_;have NB751_740:=n6_;clear n0_ n1_ n2_ n3_ n4_ n5_ n6_;clear hb hbox hg;have hnb18:=NB751_740.out;have hnc18:=NB740_751.out;have hcz19_0:w17.cell? ⟨gb751,0,none⟩=some (.string (⟨#[]⟩:ByteArray)):=(δl BK751.out 0).trans rfl;have hcz19_1:w17.cell? ⟨gb751,1,none⟩=some (.string (⟨#[]⟩:ByteArray)):=(δl BK751.out 1).trans rfl;have hcz19_2:w17.cell? ⟨gb751,2,none⟩=some (.int .i64 0):=(δl BK751.out 2).trans rfl;have hcz19_3:w17.cell? ⟨gb751,3,none⟩=some (.int .i64 0):=(δl BK751.out 3).trans rfl;have hcz19_4:w17.cell? ⟨gb751,4,none⟩=some (.int .i64 0):=(δl BK751.out 4).trans rfl;have hcz19_5:w17.cell? ⟨gb751,5,none⟩=some (.bool φ):=(δl BK751.out 5).trans rfl;have hfz19_0:=δm BK751.out 0;have hfz19_1:=δm BK751.out 1;have hfz19_2:=δm BK751.out 2;have hfz19_3:=δm BK751.out 3;have hfz19_4:=δm BK751.out 4;have hfz19_5:=δm BK751.out 5;have hcz20_0:w17.cell? ⟨gb740,0,none⟩=some (.string (⟨#[]⟩:ByteArray)):=(δl BK740.out 0).trans rfl;have hcz20_1:w17.cell? ⟨gb740,1,none⟩=some (.string (⟨#[]⟩:ByteArray)):=(δl BK740.out 1).trans rfl;have hcz20_2:w17.cell? ⟨gb740,2,none⟩=some (.int .i64 0):=(δl BK740.out 2).trans rfl;have hcz20_3:w17.cell? ⟨gb740,3,none⟩=some (.int .i64 0):=(δl BK740.out 3).trans rfl;have hcz20_4:w17.cell? ⟨gb740,4,none⟩=some (.int .i64 0):=(δl BK740.out 4).trans rfl;have hcz20_5:w17.cell? ⟨gb740,5,none⟩=some (.bool φ):=(δl BK740.out 5).trans rfl;have hfz20_0:=δm BK740.out 0;have hfz20_1:=δm BK740.out 1;have hfz20_2:=δm BK740.out 2;have hfz20_3:=δm BK740.out 3;have hfz20_4:=δm BK740.out 4;have hfz20_5:=δm BK740.out 5))
  refine bodyPost_ret (results_ct rfl _ _ gb740 66 #[.string t744,.string t745,.int .i64 t746,.int .i64 t747,.int .i64 t748,.bool t749] (0,0) _ rfl (by refine δw (cs:=#[.string t744,.string t745,.int .i64 t746,.int .i64 t747,.int .i64 t748,.bool φ]) ?_ 5 _ rfl;refine δw (cs:=#[.string t744,.string t745,.int .i64 t746,.int .i64 t747,.int .i64 0,.bool φ]) ?_ 4 _ rfl;refine δw (cs:=#[.string t744,.string t745,.int .i64 t746,.int .i64 0,.int .i64 0,.bool φ]) ?_ 3 _ rfl;refine δw (cs:=#[.string t744,.string t745,.int .i64 0,.int .i64 0,.int .i64 0,.bool φ]) ?_ 2 _ rfl;refine δw (cs:=#[.string t744,.string (⟨#[]⟩:ByteArray),.int .i64 0,.int .i64 0,.int .i64 0,.bool φ]) ?_ 1 _ rfl;refine δw (cs:=#[.string (⟨#[]⟩:ByteArray),.string (⟨#[]⟩:ByteArray),.int .i64 0,.int .i64 0,.int .i64 0,.bool φ]) ?_ 0 _ rfl;refine blk_far ?_ NB740_751.out _;refine blk_far ?_ NB740_751.out _;refine blk_far ?_ NB740_751.out _;refine blk_far ?_ NB740_751.out _;refine blk_far ?_ NB740_751.out _;refine blk_far ?_ NB740_751.out _;exact BK740.out) Tryz.underlying66 rfl (by kernel_rfl)) rfl ?_
  exact ⟨by rfl,by repeat ((with_reducible first|exact HB.out|refine δq ?_ GE740.out|refine δq ?_ GE751.out))⟩


open Go.Proofs.YtabmfhnhmoiljaaGreatDoorW.PrintWords renaming below_step → δr, gate_dst → δx, box_event → δz, blk_cell → δl, blk_frozen → δm, below_set → δq, blk_put → δw, below_alloc → δk, below_drew1 → δj, pw_below_drewN → δi, blk_alloc → δo, blk_drew → δp, blk_drewN → δn
open Go.Proofs.YtabmfhnhmoiljaaGreatDoorW.PrintWords.Kd renaming R_alloc → ζd, R_drew → ζe, R_drewN → ζc

/-! ### impl_cancelOrder: function 65 -/
def impl_cancelOrder.f (k:Nat) (name:ByteArray) (list:List S51) (id:ByteArray) (maker:ByteArray):Option (List S51 × Int) :=
 (impl_orderAt.f k list id).bind fun q1=>if q1.2.2.2.2.2.2=τ then (if q1.2.1.toList=maker.toList then (if q1.2.2.2.2.2.1=τ then ((impl_all.f k list [(impl_move.F k (⟨#[111,114,100,101,114,115]⟩:ByteArray) maker name q1.2.2.2.2.1),(impl_putOrder.F k q1.1 q1.2.1 q1.2.2.1 q1.2.2.2.1 0 φ)]).bind fun q2=>some (q2.1,q2.2)) else ((slices_Clone_impl_Pair_impl_Pair.f list).bind fun q3=>some (q3,16))) else ((slices_Clone_impl_Pair_impl_Pair.f list).bind fun q4=>some (q4,18))) else ((slices_Clone_impl_Pair_impl_Pair.f list).bind fun q5=>some (q5,5))
set_option maxHeartbeats 4000000 in
set_option maxRecDepth 100000 in
theorem impl_cancelOrder.calls (k:Nat) (name:ByteArray) (A_list:Option Addr) (c_list:Nat) (list:List S51) (id:ByteArray) (maker:ByteArray) (r1:List S51) (r2:Int) (w:World) (hr0_list:Kd.C k51 w A_list list.length list) (hc0_list:list.length≤c_list) (hT0:TabsOK w) (h:impl_cancelOrder.f k name list id maker=some (r1,r2)) :
  Calls Tryz.prog 65 #[.string name,.slice A_list list.length c_list,.string id,.string maker] w fun e w' => ∃ v0_:Value,e = .returned (.tuple #[v0_,.int .i64 r2])∧Kd.R k51 51 w' w.heap.size (fun _=>True) v0_ r1∧Below w.heap.size w w':=by
 have HR0_list:=ζa hr0_list
 have HC0_list:=ζa hc0_list
 clear hr0_list hc0_list
 have HT0:=ζa hT0
 clear hT0
 have HB0:=ζa (Below.refl w.heap.size w)
 unfold impl_cancelOrder.f at h
 have HH:=ζa h
 clear h
 go_enter Tryz.func65,Tryz.ntmps65
 have h:=HH.out
 clear HH
 obtain ⟨⟨u0,u1,u2,u3,u4,u5,found⟩,h1_,h⟩:=Option.bind_eq_some_iff.mp h
 have HH:=ζa h
 have H1:=ζa h1_
 clear h h1_
 go_wp2_with fail
 refine (impl_orderAt.calls k A_list c_list list id u0 u1 u2 u3 u4 u5 found _ (by repeat (exact Kd.C_below HR0_list.out HB0.out)) HC0_list.out (HT0.out.below (by repeat (exact HB0.out))) H1.out).mono ?_
 rintro e w1 ⟨rfl,hb⟩
 have m_:=ζa (δr (by repeat (exact HB0.out)) hb)
 clear hb
 have HB1:=m_
 clear m_
 have h:=HH.out
 clear HH
 cases found with
 | true =>
  rw [if_pos rfl] at h
  have HH:=ζa h
  clear h
  have h:=HH.out
  clear HH
  by_cases cc3:u1.toList=maker.toList
  ·
   rw [if_pos cc3] at h
   have HH:=ζa h
   clear h
   have f3a:(u1.toList == maker.toList)=τ:=beq_iff_eq.mpr cc3
   have f3b:(u1.toList != maker.toList)=φ:=bne_eq_false_iff_eq.mpr cc3
   have C3:=ζa cc3
   clear cc3
   have h:=HH.out
   clear HH
   cases u5 with
   | true =>
    rw [if_pos rfl] at h
    have HH:=ζa h
    clear h
    have h:=HH.out
    clear HH
    obtain ⟨⟨o1,c1⟩,h9_,h⟩:=Option.bind_eq_some_iff.mp h
    have HH:=ζa h
    have H9:=ζa h9_
    clear h h9_
    go_wp2_with (first|((with_reducible refine δx (N:=10) rfl ?_);refine δz ?hg (N:=10) ?hd (cs:=#[.string (⟨#[]⟩:ByteArray),.string (⟨#[]⟩:ByteArray),.int .i64 0,.int .i64 0,.int .i64 0,.bool φ]) (t:=66) ?hr ?_;(case hd=>rfl);(case hg=>rfl);(case hr=>(go_simp;done));intro gbo hg w5 hbox hb;have hbc:=δr (show Below w1.heap.size w1 _ from by repeat (exact Below.refl _ _)) hb;have GEo:Aside0 (w1.heap.size≤gbo):=⟨by rw [hg];exact Below.size (show Below w1.heap.size w1 _ from by repeat (exact Below.refl _ _))⟩;have GWo:Aside0 (w.heap.size≤gbo):=⟨Nat.le_trans HB1.out.size GEo.out⟩;have BKZ:=ζa hbox;have HBZ:=ζa hbc;have hzz:=hbox;clear hb hbc hbox hg;have hzo_0:=(δl BKZ.out 0).trans rfl;have hzo_1:=(δl BKZ.out 1).trans rfl;have hzo_2:=(δl BKZ.out 2).trans rfl;have hzo_3:=(δl BKZ.out 3).trans rfl;have hzo_4:=(δl BKZ.out 4).trans rfl;have hzo_5:=(δl BKZ.out 5).trans rfl;have hfo_0:=δm BKZ.out 0;have hfo_1:=δm BKZ.out 1;have hfo_2:=δm BKZ.out 2;have hfo_3:=δm BKZ.out 3;have hfo_4:=δm BKZ.out 4;have hfo_5:=δm BKZ.out 5;clear hzz)|((with_reducible refine gate_store (t:=66) (p:=10) rfl ?_);refine store_event (t:=66) (p:=10) (v:=?vo5) (w1:=((((((w5.setCell ⟨gbo,0,none⟩ (.string u0)).setCell ⟨gbo,1,none⟩ (.string u1)).setCell ⟨gbo,2,none⟩ (.int .i64 u2)).setCell ⟨gbo,3,none⟩ (.int .i64 u3)).setCell ⟨gbo,4,none⟩ (.int .i64 u4)).setCell ⟨gbo,5,none⟩ (.bool τ))) ?hg ?ho ?hn ?hr ?_;(case ho=>rfl);(case hg=>rfl);(case hn=>rfl);(case hr=>(go_simp;done));intro w6 hw;have hbc:Below w1.heap.size w1 w6:=(by rw [hw];exact (δq (δq (δq (δq (δq (δq HBZ.out GEo.out) GEo.out) GEo.out) GEo.out) GEo.out) GEo.out));have BKo:Aside0 (w6.heap[gbo]? = some (.cells #[.string u0,.string u1,.int .i64 u2,.int .i64 u3,.int .i64 u4,.bool τ] 66 (0,0))):=⟨by rw [hw];exact (δw (δw (δw (δw (δw (δw BKZ.out 0 _ rfl) 1 _ rfl) 2 _ rfl) 3 _ rfl) 4 _ rfl) 5 _ rfl)⟩;have m_:=ζa (δr HB1.out hbc);have HB5:=m_;clear m_;clear hbc hw BKZ HBZ;clear hzo_0 hfo_0 hzo_1 hfo_1 hzo_2 hfo_2 hzo_3 hfo_3 hzo_4 hfo_4 hzo_5 hfo_5;have hzo_0:=(δl BKo.out 0).trans rfl;have hzo_1:=(δl BKo.out 1).trans rfl;have hzo_2:=(δl BKo.out 2).trans rfl;have hzo_3:=(δl BKo.out 3).trans rfl;have hzo_4:=(δl BKo.out 4).trans rfl;have hzo_5:=(δl BKo.out 5).trans rfl;have hfo_0:=δm BKo.out 0;have hfo_1:=δm BKo.out 1;have hfo_2:=δm BKo.out 2;have hfo_3:=δm BKo.out 3;have hfo_4:=δm BKo.out 4;have hfo_5:=δm BKo.out 5)|((with_reducible refine gate_store (t:=3) (p:=39) rfl ?_);refine store_event (t:=3) (p:=39) (v:=?vo7) (w1:=(w6.setCell ⟨gbo,4,none⟩ (.int .i64 0))) ?hg ?ho ?hn ?hr ?_;(case ho=>rfl);(case hg=>rfl);(case hn=>rfl);(case hr=>(go_simp;done));intro w7 hw;have HB7:Aside0 (Below w.heap.size w w7):=⟨by rw [hw];exact δq HB5.out GWo.out⟩;have m_:Aside0 (w7.heap[gbo]? = some (.cells #[.string u0,.string u1,.int .i64 u2,.int .i64 u3,.int .i64 0,.bool τ] 66 (0,0))):=⟨by rw [hw];exact δw BKo.out 4 _ rfl⟩;have no_:=m_;clear m_;clear BKo;have BKo:=no_;clear no_;clear hw;clear hzo_0 hfo_0 hzo_1 hfo_1 hzo_2 hfo_2 hzo_3 hfo_3 hzo_4 hfo_4 hzo_5 hfo_5;have hzo_0:=(δl BKo.out 0).trans rfl;have hzo_1:=(δl BKo.out 1).trans rfl;have hzo_2:=(δl BKo.out 2).trans rfl;have hzo_3:=(δl BKo.out 3).trans rfl;have hzo_4:=(δl BKo.out 4).trans rfl;have hzo_5:=(δl BKo.out 5).trans rfl;have hfo_0:=δm BKo.out 0;have hfo_1:=δm BKo.out 1;have hfo_2:=δm BKo.out 2;have hfo_3:=δm BKo.out 3;have hfo_4:=δm BKo.out 4;have hfo_5:=δm BKo.out 5)|((with_reducible refine gate_store (t:=4) (p:=40) rfl ?_);refine store_event (t:=4) (p:=40) (v:=?vo8) (w1:=(w7.setCell ⟨gbo,5,none⟩ (.bool φ))) ?hg ?ho ?hn ?hr ?_;(case ho=>rfl);(case hg=>rfl);(case hn=>rfl);(case hr=>(go_simp;done));intro w8 hw;have HB8:Aside0 (Below w.heap.size w w8):=⟨by rw [hw];exact δq HB7.out GWo.out⟩;have m_:Aside0 (w8.heap[gbo]? = some (.cells #[.string u0,.string u1,.int .i64 u2,.int .i64 u3,.int .i64 0,.bool φ] 66 (0,0))):=⟨by rw [hw];exact δw BKo.out 5 _ rfl⟩;have no_:=m_;clear m_;clear BKo;have BKo:=no_;clear no_;clear hw;clear hzo_0 hfo_0 hzo_1 hfo_1 hzo_2 hfo_2 hzo_3 hfo_3 hzo_4 hfo_4 hzo_5 hfo_5;have hzo_0:=(δl BKo.out 0).trans rfl;have hzo_1:=(δl BKo.out 1).trans rfl;have hzo_2:=(δl BKo.out 2).trans rfl;have hzo_3:=(δl BKo.out 3).trans rfl;have hzo_4:=(δl BKo.out 4).trans rfl;have hzo_5:=(δl BKo.out 5).trans rfl;have hfo_0:=δm BKo.out 0;have hfo_1:=δm BKo.out 1;have hfo_2:=δm BKo.out 2;have hfo_3:=δm BKo.out 3;have hfo_4:=δm BKo.out 4;have hfo_5:=δm BKo.out 5))
    have HBr:=ζa HB8.out
    go_region_held3 (fun w'=>w'.cell? ⟨gbo,0,none⟩=some (.string u0)∧w'.cell? ⟨gbo,1,none⟩=some (.string u1)∧w'.cell? ⟨gbo,2,none⟩=some (.int .i64 u2)∧w'.cell? ⟨gbo,3,none⟩=some (.int .i64 u3)∧w'.cell? ⟨gbo,4,none⟩=some (.int .i64 0)∧w'.cell? ⟨gbo,5,none⟩=some (.bool φ)) (first|go_keep|exact ⟨(δl (by repeat (exact BKo.out)) 0).trans rfl,(δl (by repeat (exact BKo.out)) 1).trans rfl,(δl (by repeat (exact BKo.out)) 2).trans rfl,(δl (by repeat (exact BKo.out)) 3).trans rfl,(δl (by repeat (exact BKo.out)) 4).trans rfl,(δl (by repeat (exact BKo.out)) 5).trans rfl⟩)
     (first
      | (go_at_call 84;refine (impl_move.calls k ((⟨#[111,114,100,101,114,115]⟩:ByteArray)) maker name u4 _ (HT0.out.below (by repeat (first|exact HBr.out|apply δk|apply δj|apply δi)))).mono ?_;rintro e w10 ⟨g_m,lb_m,rfl,hch,hb⟩;have m_:=ζa (blk_below (by repeat (first|exact BKo.out|apply δo|apply δp|apply δn)) hb);clear BKo;have BKo:=m_;clear m_;(try (have m_:=ζa (CH_m.out.below (δr (by repeat (first|exact Below.refl _ _|apply δk|apply δj|apply δi)) hb));clear CH_m;have CH_m:=m_;clear m_));(try (have m_:=ζa (CH_p.out.below (δr (by repeat (first|exact Below.refl _ _|apply δk|apply δj|apply δi)) hb));clear CH_p;have CH_p:=m_;clear m_));have m_:=ζa (δr (by repeat (first|exact HBr.out|apply δk|apply δj|apply δi)) hb);clear HBr;have HBr:=m_;clear m_;have CH_m:=ζa hch;have eg_m : ∀ args w,(callFunc g_m args).run Tryz.prog w = .ok (.enter g_m args) w:=hch.enters;clear hch hb)
      | (go_at_call 110;refine (impl_putOrder.calls k u0 u1 u2 u3 0 φ _ (HT0.out.below (by repeat (first|exact HBr.out|apply δk|apply δj|apply δi)))).mono ?_;rintro e w11 ⟨g_p,lb_p,rfl,hch,hb⟩;have m_:=ζa (blk_below (by repeat (first|exact BKo.out|apply δo|apply δp|apply δn)) hb);clear BKo;have BKo:=m_;clear m_;(try (have m_:=ζa (CH_m.out.below (δr (by repeat (first|exact Below.refl _ _|apply δk|apply δj|apply δi)) hb));clear CH_m;have CH_m:=m_;clear m_));(try (have m_:=ζa (CH_p.out.below (δr (by repeat (first|exact Below.refl _ _|apply δk|apply δj|apply δi)) hb));clear CH_p;have CH_p:=m_;clear m_));have m_:=ζa (δr (by repeat (first|exact HBr.out|apply δk|apply δj|apply δi)) hb);clear HBr;have HBr:=m_;clear m_;have CH_p:=ζa hch;have eg_p : ∀ args w,(callFunc g_p args).run Tryz.prog w = .ok (.enter g_p args) w:=hch.enters;clear hch hb)
      | (go_at_call 109;refine (impl_all.calls k A_list c_list list _ _ [(g_m,lb_m),(g_p,lb_p)] [(impl_move.F k (⟨#[111,114,100,101,114,115]⟩:ByteArray) maker name u4),(impl_putOrder.F k u0 u1 u2 u3 0 φ)] o1 c1 _ (by repeat (first|exact Kd.C_below HR0_list.out HBr.out|apply Kd.C_alloc|apply Kd.C_drew|apply Kd.C_drewN)) HC0_list.out (rowF _ (show 2≤1000 by decide) (heap_alloc_new _ _)) rfl (chg_cons (CH_m.out.below (by repeat (first|exact Below.refl _ _|apply δk|apply δj|apply δi))).chg (chg_cons (CH_p.out.below (by repeat (first|exact Below.refl _ _|apply δk|apply δj|apply δi))).chg chg_nil)) H9.out).mono ?_;rintro e w9 ⟨v9,rfl,ho,hb⟩;have ho':=Kd.R_lower ho (Below.size (show Below w.heap.size w _ from by repeat (first|exact HBr.out|apply δk|apply δj|apply δi)));obtain ⟨adr9,cap9,rfl,hl9,hq9⟩:=Kd.R_reads ho';have HC9:=ζa hl9;have HRn9:=ζa hq9;have HOn9:=ζa ho';clear hl9 hq9 ho ho';have m_:=ζa (blk_below (by repeat (first|exact BKo.out|apply δo|apply δp|apply δn)) hb);clear BKo;have BKo:=m_;clear m_;(try (have m_:=ζa (CH_m.out.below (δr (by repeat (first|exact Below.refl _ _|apply δk|apply δj|apply δi)) hb));clear CH_m;have CH_m:=m_;clear m_));(try (have m_:=ζa (CH_p.out.below (δr (by repeat (first|exact Below.refl _ _|apply δk|apply δj|apply δi)) hb));clear CH_p;have CH_p:=m_;clear m_));have m_:=ζa (δr (by repeat (first|exact HBr.out|apply δk|apply δj|apply δi)) hb);clear HBr;have HBr:=m_;clear m_;clear hb))
    all_goals
     clear hzo_0 hfo_0 hzo_1 hfo_1 hzo_2 hfo_2 hzo_3 hfo_3 hzo_4 hfo_4 hzo_5 hfo_5
     have hzo_0:=(δl BKo.out 0).trans rfl
     have hfo_0:=δm BKo.out 0
     have hzo_1:=(δl BKo.out 1).trans rfl
     have hfo_1:=δm BKo.out 1
     have hzo_2:=(δl BKo.out 2).trans rfl
     have hfo_2:=δm BKo.out 2
     have hzo_3:=(δl BKo.out 3).trans rfl
     have hfo_3:=δm BKo.out 3
     have hzo_4:=(δl BKo.out 4).trans rfl
     have hfo_4:=δm BKo.out 4
     have hzo_5:=(δl BKo.out 5).trans rfl
     have hfo_5:=δm BKo.out 5
     have h:=HH.out
     clear HH
     simp only [Option.some.injEq,Prod.mk.injEq] at h
     obtain ⟨rfl,rfl⟩:=h
     go_wp2
     go_ret2
     exact ⟨_,rfl,(by repeat (first|exact HOn9.out|apply ζd|apply ζe|apply ζc)),(by repeat (first|exact HBr.out|apply δk|apply δj|apply δi))⟩
   | false =>
    rw [if_neg (by decide)] at h
    have HH:=ζa h
    clear h
    have h:=HH.out
    clear HH
    obtain ⟨o2,h14_,h⟩:=Option.bind_eq_some_iff.mp h
    have HH:=ζa h
    have H14:=ζa h14_
    clear h h14_
    go_wp2_with (first|((with_reducible refine δx (N:=10) rfl ?_);refine δz ?hg (N:=10) ?hd (cs:=#[.string (⟨#[]⟩:ByteArray),.string (⟨#[]⟩:ByteArray),.int .i64 0,.int .i64 0,.int .i64 0,.bool φ]) (t:=66) ?hr ?_;(case hd=>rfl);(case hg=>rfl);(case hr=>(go_simp;done));intro gbo hg w12 hbox hb;have hbc:=δr (show Below w1.heap.size w1 _ from by repeat (exact Below.refl _ _)) hb;have GEo:Aside0 (w1.heap.size≤gbo):=⟨by rw [hg];exact Below.size (show Below w1.heap.size w1 _ from by repeat (exact Below.refl _ _))⟩;have GWo:Aside0 (w.heap.size≤gbo):=⟨Nat.le_trans HB1.out.size GEo.out⟩;have BKZ:=ζa hbox;have HBZ:=ζa hbc;have hzz:=hbox;clear hb hbc hbox hg;have hzo_0:=(δl BKZ.out 0).trans rfl;have hzo_1:=(δl BKZ.out 1).trans rfl;have hzo_2:=(δl BKZ.out 2).trans rfl;have hzo_3:=(δl BKZ.out 3).trans rfl;have hzo_4:=(δl BKZ.out 4).trans rfl;have hzo_5:=(δl BKZ.out 5).trans rfl;have hfo_0:=δm BKZ.out 0;have hfo_1:=δm BKZ.out 1;have hfo_2:=δm BKZ.out 2;have hfo_3:=δm BKZ.out 3;have hfo_4:=δm BKZ.out 4;have hfo_5:=δm BKZ.out 5;clear hzz)|((with_reducible refine gate_store (t:=66) (p:=10) rfl ?_);refine store_event (t:=66) (p:=10) (v:=?vo12) (w1:=((((((w12.setCell ⟨gbo,0,none⟩ (.string u0)).setCell ⟨gbo,1,none⟩ (.string u1)).setCell ⟨gbo,2,none⟩ (.int .i64 u2)).setCell ⟨gbo,3,none⟩ (.int .i64 u3)).setCell ⟨gbo,4,none⟩ (.int .i64 u4)).setCell ⟨gbo,5,none⟩ (.bool φ))) ?hg ?ho ?hn ?hr ?_;(case ho=>rfl);(case hg=>rfl);(case hn=>rfl);(case hr=>(go_simp;done));intro w13 hw;have hbc:Below w1.heap.size w1 w13:=(by rw [hw];exact (δq (δq (δq (δq (δq (δq HBZ.out GEo.out) GEo.out) GEo.out) GEo.out) GEo.out) GEo.out));have BKo:Aside0 (w13.heap[gbo]? = some (.cells #[.string u0,.string u1,.int .i64 u2,.int .i64 u3,.int .i64 u4,.bool φ] 66 (0,0))):=⟨by rw [hw];exact (δw (δw (δw (δw (δw (δw BKZ.out 0 _ rfl) 1 _ rfl) 2 _ rfl) 3 _ rfl) 4 _ rfl) 5 _ rfl)⟩;have m_:=ζa (δr HB1.out hbc);have HB12:=m_;clear m_;clear hbc hw BKZ HBZ;clear hzo_0 hfo_0 hzo_1 hfo_1 hzo_2 hfo_2 hzo_3 hfo_3 hzo_4 hfo_4 hzo_5 hfo_5;have hzo_0:=(δl BKo.out 0).trans rfl;have hzo_1:=(δl BKo.out 1).trans rfl;have hzo_2:=(δl BKo.out 2).trans rfl;have hzo_3:=(δl BKo.out 3).trans rfl;have hzo_4:=(δl BKo.out 4).trans rfl;have hzo_5:=(δl BKo.out 5).trans rfl;have hfo_0:=δm BKo.out 0;have hfo_1:=δm BKo.out 1;have hfo_2:=δm BKo.out 2;have hfo_3:=δm BKo.out 3;have hfo_4:=δm BKo.out 4;have hfo_5:=δm BKo.out 5))
    refine (slices_Clone_impl_Pair_impl_Pair.calls A_list c_list list o2 _ (by repeat (exact Kd.C_below HR0_list.out HB12.out)) HC0_list.out H14.out).mono ?_
    rintro e w14 ⟨v14,rfl,ho,hb⟩
    have m_:=ζa (blk_below (by repeat (exact BKo.out)) hb)
    clear BKo
    have BKo:=m_
    clear m_
    clear hzo_0 hfo_0 hzo_1 hfo_1 hzo_2 hfo_2 hzo_3 hfo_3 hzo_4 hfo_4 hzo_5 hfo_5
    have ho':=Kd.R_lower ho (Below.size (show Below w.heap.size w _ from by repeat (exact HB12.out)))
    obtain ⟨adr14,cap14,rfl,hl14,hq14⟩:=Kd.R_reads ho'
    have HC14:=ζa hl14
    have HRn14:=ζa hq14
    have HOn14:=ζa ho'
    clear hl14 hq14 ho ho'
    have m_:=ζa (δr (by repeat (exact HB12.out)) hb)
    clear hb
    have HB14:=m_
    clear m_
    have hzo_0:=(δl BKo.out 0).trans rfl
    have hfo_0:=δm BKo.out 0
    have hzo_1:=(δl BKo.out 1).trans rfl
    have hfo_1:=δm BKo.out 1
    have hzo_2:=(δl BKo.out 2).trans rfl
    have hfo_2:=δm BKo.out 2
    have hzo_3:=(δl BKo.out 3).trans rfl
    have hfo_3:=δm BKo.out 3
    have hzo_4:=(δl BKo.out 4).trans rfl
    have hfo_4:=δm BKo.out 4
    have hzo_5:=(δl BKo.out 5).trans rfl
    have hfo_5:=δm BKo.out 5
    have h:=HH.out
    clear HH
    simp only [Option.some.injEq,Prod.mk.injEq] at h
    obtain ⟨rfl,rfl⟩:=h
    go_wp2
    go_ret2
    exact ⟨_,rfl,(by repeat (exact HOn14.out)),(by repeat (exact HB14.out))⟩
  ·
   rw [if_neg cc3] at h
   have HH:=ζa h
   clear h
   have f3a:(u1.toList == maker.toList)=φ:=beq_eq_false_iff_ne.mpr cc3
   have f3b:(u1.toList != maker.toList)=τ:=bne_iff_ne.mpr cc3
   have C3:=ζa cc3
   clear cc3
   have h:=HH.out
   clear HH
   obtain ⟨o2,h17_,h⟩:=Option.bind_eq_some_iff.mp h
   have HH:=ζa h
   have H17:=ζa h17_
   clear h h17_
   go_wp2_with (first|((with_reducible refine δx (N:=10) rfl ?_);refine δz ?hg (N:=10) ?hd (cs:=#[.string (⟨#[]⟩:ByteArray),.string (⟨#[]⟩:ByteArray),.int .i64 0,.int .i64 0,.int .i64 0,.bool φ]) (t:=66) ?hr ?_;(case hd=>rfl);(case hg=>rfl);(case hr=>(go_simp;done));intro gbo hg w15 hbox hb;have hbc:=δr (show Below w1.heap.size w1 _ from by repeat (exact Below.refl _ _)) hb;have GEo:Aside0 (w1.heap.size≤gbo):=⟨by rw [hg];exact Below.size (show Below w1.heap.size w1 _ from by repeat (exact Below.refl _ _))⟩;have GWo:Aside0 (w.heap.size≤gbo):=⟨Nat.le_trans HB1.out.size GEo.out⟩;have BKZ:=ζa hbox;have HBZ:=ζa hbc;have hzz:=hbox;clear hb hbc hbox hg;have hzo_0:=(δl BKZ.out 0).trans rfl;have hzo_1:=(δl BKZ.out 1).trans rfl;have hzo_2:=(δl BKZ.out 2).trans rfl;have hzo_3:=(δl BKZ.out 3).trans rfl;have hzo_4:=(δl BKZ.out 4).trans rfl;have hzo_5:=(δl BKZ.out 5).trans rfl;have hfo_0:=δm BKZ.out 0;have hfo_1:=δm BKZ.out 1;have hfo_2:=δm BKZ.out 2;have hfo_3:=δm BKZ.out 3;have hfo_4:=δm BKZ.out 4;have hfo_5:=δm BKZ.out 5;clear hzz)|((with_reducible refine gate_store (t:=66) (p:=10) rfl ?_);refine store_event (t:=66) (p:=10) (v:=?vo15) (w1:=((((((w15.setCell ⟨gbo,0,none⟩ (.string u0)).setCell ⟨gbo,1,none⟩ (.string u1)).setCell ⟨gbo,2,none⟩ (.int .i64 u2)).setCell ⟨gbo,3,none⟩ (.int .i64 u3)).setCell ⟨gbo,4,none⟩ (.int .i64 u4)).setCell ⟨gbo,5,none⟩ (.bool u5))) ?hg ?ho ?hn ?hr ?_;(case ho=>rfl);(case hg=>rfl);(case hn=>rfl);(case hr=>(go_simp;done));intro w16 hw;have hbc:Below w1.heap.size w1 w16:=(by rw [hw];exact (δq (δq (δq (δq (δq (δq HBZ.out GEo.out) GEo.out) GEo.out) GEo.out) GEo.out) GEo.out));have BKo:Aside0 (w16.heap[gbo]? = some (.cells #[.string u0,.string u1,.int .i64 u2,.int .i64 u3,.int .i64 u4,.bool u5] 66 (0,0))):=⟨by rw [hw];exact (δw (δw (δw (δw (δw (δw BKZ.out 0 _ rfl) 1 _ rfl) 2 _ rfl) 3 _ rfl) 4 _ rfl) 5 _ rfl)⟩;have m_:=ζa (δr HB1.out hbc);have HB15:=m_;clear m_;clear hbc hw BKZ HBZ;clear hzo_0 hfo_0 hzo_1 hfo_1 hzo_2 hfo_2 hzo_3 hfo_3 hzo_4 hfo_4 hzo_5 hfo_5;have hzo_0:=(δl BKo.out 0).trans rfl;have hzo_1:=(δl BKo.out 1).trans rfl;have hzo_2:=(δl BKo.out 2).trans rfl;have hzo_3:=(δl BKo.out 3).trans rfl;have hzo_4:=(δl BKo.out 4).trans rfl;have hzo_5:=(δl BKo.out 5).trans rfl;have hfo_0:=δm BKo.out 0;have hfo_1:=δm BKo.out 1;have hfo_2:=δm BKo.out 2;have hfo_3:=δm BKo.out 3;have hfo_4:=δm BKo.out 4;have hfo_5:=δm BKo.out 5))
   refine (slices_Clone_impl_Pair_impl_Pair.calls A_list c_list list o2 _ (by repeat (exact Kd.C_below HR0_list.out HB15.out)) HC0_list.out H17.out).mono ?_
   rintro e w17 ⟨v17,rfl,ho,hb⟩
   have m_:=ζa (blk_below (by repeat (exact BKo.out)) hb)
   clear BKo
   have BKo:=m_
   clear m_
   clear hzo_0 hfo_0 hzo_1 hfo_1 hzo_2 hfo_2 hzo_3 hfo_3 hzo_4 hfo_4 hzo_5 hfo_5
   have ho':=Kd.R_lower ho (Below.size (show Below w.heap.size w _ from by repeat (exact HB15.out)))
   obtain ⟨adr17,cap17,rfl,hl17,hq17⟩:=Kd.R_reads ho'
   have HC17:=ζa hl17
   have HRn17:=ζa hq17
   have HOn17:=ζa ho'
   clear hl17 hq17 ho ho'
   have m_:=ζa (δr (by repeat (exact HB15.out)) hb)
   clear hb
   have HB17:=m_
   clear m_
   have hzo_0:=(δl BKo.out 0).trans rfl
   have hfo_0:=δm BKo.out 0
   have hzo_1:=(δl BKo.out 1).trans rfl
   have hfo_1:=δm BKo.out 1
   have hzo_2:=(δl BKo.out 2).trans rfl
   have hfo_2:=δm BKo.out 2
   have hzo_3:=(δl BKo.out 3).trans rfl
   have hfo_3:=δm BKo.out 3
   have hzo_4:=(δl BKo.out 4).trans rfl
   have hfo_4:=δm BKo.out 4
   have hzo_5:=(δl BKo.out 5).trans rfl
   have hfo_5:=δm BKo.out 5
   have h:=HH.out
   clear HH
   simp only [Option.some.injEq,Prod.mk.injEq] at h
   obtain ⟨rfl,rfl⟩:=h
   go_wp2
   go_ret2
   exact ⟨_,rfl,(by repeat (first|exact HOn17.out|apply ζd|apply ζe|apply ζc)),(by repeat (first|exact HB17.out|apply δk|apply δj|apply δi))⟩
 | false =>
  rw [if_neg (by decide)] at h
  have HH:=ζa h
  clear h
  have h:=HH.out
  clear HH
  obtain ⟨o2,h20_,h⟩:=Option.bind_eq_some_iff.mp h
  have HH:=ζa h
  have H20:=ζa h20_
  clear h h20_
  go_wp2_with (first|((with_reducible refine δx (N:=10) rfl ?_);refine δz ?hg (N:=10) ?hd (cs:=#[.string (⟨#[]⟩:ByteArray),.string (⟨#[]⟩:ByteArray),.int .i64 0,.int .i64 0,.int .i64 0,.bool φ]) (t:=66) ?hr ?_;(case hd=>rfl);(case hg=>rfl);(case hr=>(go_simp;done));intro gbo hg w18 hbox hb;have hbc:=δr (show Below w1.heap.size w1 _ from by repeat (exact Below.refl _ _)) hb;have GEo:Aside0 (w1.heap.size≤gbo):=⟨by rw [hg];exact Below.size (show Below w1.heap.size w1 _ from by repeat (exact Below.refl _ _))⟩;have GWo:Aside0 (w.heap.size≤gbo):=⟨Nat.le_trans HB1.out.size GEo.out⟩;have BKZ:=ζa hbox;have HBZ:=ζa hbc;have hzz:=hbox;clear hb hbc hbox hg;have hzo_0:=(δl BKZ.out 0).trans rfl;have hzo_1:=(δl BKZ.out 1).trans rfl;have hzo_2:=(δl BKZ.out 2).trans rfl;have hzo_3:=(δl BKZ.out 3).trans rfl;have hzo_4:=(δl BKZ.out 4).trans rfl;have hzo_5:=(δl BKZ.out 5).trans rfl;have hfo_0:=δm BKZ.out 0;have hfo_1:=δm BKZ.out 1;have hfo_2:=δm BKZ.out 2;have hfo_3:=δm BKZ.out 3;have hfo_4:=δm BKZ.out 4;have hfo_5:=δm BKZ.out 5;clear hzz)|((with_reducible refine gate_store (t:=66) (p:=10) rfl ?_);refine store_event (t:=66) (p:=10) (v:=?vo18) (w1:=((((((w18.setCell ⟨gbo,0,none⟩ (.string u0)).setCell ⟨gbo,1,none⟩ (.string u1)).setCell ⟨gbo,2,none⟩ (.int .i64 u2)).setCell ⟨gbo,3,none⟩ (.int .i64 u3)).setCell ⟨gbo,4,none⟩ (.int .i64 u4)).setCell ⟨gbo,5,none⟩ (.bool u5))) ?hg ?ho ?hn ?hr ?_;(case ho=>rfl);(case hg=>rfl);(case hn=>rfl);(case hr=>(go_simp;done));intro w19 hw;have hbc:Below w1.heap.size w1 w19:=(by rw [hw];exact (δq (δq (δq (δq (δq (δq HBZ.out GEo.out) GEo.out) GEo.out) GEo.out) GEo.out) GEo.out));have BKo:Aside0 (w19.heap[gbo]? = some (.cells #[.string u0,.string u1,.int .i64 u2,.int .i64 u3,.int .i64 u4,.bool u5] 66 (0,0))):=⟨by rw [hw];exact (δw (δw (δw (δw (δw (δw BKZ.out 0 _ rfl) 1 _ rfl) 2 _ rfl) 3 _ rfl) 4 _ rfl) 5 _ rfl)⟩;have m_:=ζa (δr HB1.out hbc);have HB18:=m_;clear m_;clear hbc hw BKZ HBZ;clear hzo_0 hfo_0 hzo_1 hfo_1 hzo_2 hfo_2 hzo_3 hfo_3 hzo_4 hfo_4 hzo_5 hfo_5;have hzo_0:=(δl BKo.out 0).trans rfl;have hzo_1:=(δl BKo.out 1).trans rfl;have hzo_2:=(δl BKo.out 2).trans rfl;have hzo_3:=(δl BKo.out 3).trans rfl;have hzo_4:=(δl BKo.out 4).trans rfl;have hzo_5:=(δl BKo.out 5).trans rfl;have hfo_0:=δm BKo.out 0;have hfo_1:=δm BKo.out 1;have hfo_2:=δm BKo.out 2;have hfo_3:=δm BKo.out 3;have hfo_4:=δm BKo.out 4;have hfo_5:=δm BKo.out 5))
  refine (slices_Clone_impl_Pair_impl_Pair.calls A_list c_list list o2 _ (by repeat (exact Kd.C_below HR0_list.out HB18.out)) HC0_list.out H20.out).mono ?_
  rintro e w20 ⟨v20,rfl,ho,hb⟩
  have m_:=ζa (blk_below (by repeat (exact BKo.out)) hb)
  clear BKo
  have BKo:=m_
  clear m_
  clear hzo_0 hfo_0 hzo_1 hfo_1 hzo_2 hfo_2 hzo_3 hfo_3 hzo_4 hfo_4 hzo_5 hfo_5
  have ho':=Kd.R_lower ho (Below.size (show Below w.heap.size w _ from by repeat (exact HB18.out)))
  obtain ⟨adr20,cap20,rfl,hl20,hq20⟩:=Kd.R_reads ho'
  have HC20:=ζa hl20
  have HRn20:=ζa hq20
  have HOn20:=ζa ho'
  clear hl20 hq20 ho ho'
  have m_:=ζa (δr (by repeat (exact HB18.out)) hb)
  clear hb
  have HB20:=m_
  clear m_
  have hzo_0:=(δl BKo.out 0).trans rfl
  have hfo_0:=δm BKo.out 0
  have hzo_1:=(δl BKo.out 1).trans rfl
  have hfo_1:=δm BKo.out 1
  have hzo_2:=(δl BKo.out 2).trans rfl
  have hfo_2:=δm BKo.out 2
  have hzo_3:=(δl BKo.out 3).trans rfl
  have hfo_3:=δm BKo.out 3
  have hzo_4:=(δl BKo.out 4).trans rfl
  have hfo_4:=δm BKo.out 4
  have hzo_5:=(δl BKo.out 5).trans rfl
  have hfo_5:=δm BKo.out 5
  have h:=HH.out
  clear HH
  simp only [Option.some.injEq,Prod.mk.injEq] at h
  obtain ⟨rfl,rfl⟩:=h
  go_wp2
  go_ret2
  exact ⟨_,rfl,(by repeat (exact HOn20.out)),(by repeat (exact HB20.out))⟩


open Go.Proofs.YtabmfhnhmoiljaaGreatDoorW.PrintWords renaming gate_dst → δx, below_size → δs, below_step → δr, gate_callee → δv, pw_below_drewN → δi
open Go.Proofs.YtabmfhnhmoiljaaGreatDoorW.PrintWords.Kd renaming R_reads' → ζg, R_drewN → ζc, R_below → ζh

/-! ### impl_CancelOrder: function 32 -/
def impl_CancelOrder.f (k:Nat) (a0:ByteArray) (l1:List (S51)) (a2:ByteArray) (a3:ByteArray):Option ((List (S51)) × Int):=(impl_isText.f (([a0]:List ByteArray))).bind fun t755=>(if t755=τ then ((impl_storeCode.f k l1 (([a2,a3]:List ByteArray))).bind fun t759=>(if t759=0 then ((impl_areNames.f k (([a2]:List ByteArray))).bind fun t763=>(if t763=τ then ((impl_isChain.f a0).bind fun t764=>(if t764=τ then ((impl_cancelOrder.f k a0 l1 a2 a3).bind fun bt765=>(some (bt765.1,bt765.2))) else (some (([]:List (S51)),1)))) else (some (([]:List (S51)),4)))) else ((impl_storeCode.f k l1 (([a2,a3]:List ByteArray))).bind fun t772=>(some (([]:List (S51)),t772))))) else (some (([]:List (S51)),2)))
set_option maxHeartbeats 8000000 in
set_option maxRecDepth 100000 in
theorem impl_CancelOrder.calls (k:Nat) (a0:ByteArray) (A1:Option Addr) (c1:Nat) (l1:List (S51)) (a2:ByteArray) (a3:ByteArray) (r1:List (S51)) (r2:Int) (w:World) (hr1:Kd.C k51 w A1 l1.length l1) (hc1:l1.length≤c1) (hT0:TabsOK w) (h:impl_CancelOrder.f k a0 l1 a2 a3=some (r1,r2)) :
  Calls Tryz.prog 32 #[.string a0,.slice A1 l1.length c1,.string a2,.string a3] w fun e w' => ∃ v0_:Value,e = .returned (.tuple #[v0_,.int .i64 r2])∧Kd.R k51 51 w' w.heap.size (fun _=>True) v0_ r1∧Below w.heap.size w w':=by
 have HT0:=ζa hT0
 clear hT0
 have HR1:=ζa hr1
 have HC1:=ζa hc1
 clear hr1 hc1
 have HB:=ζa (Below.refl w.heap.size w)
 have H:((impl_isText.f (([a0]:List ByteArray))).bind fun t755=>(if t755=τ then ((impl_storeCode.f k l1 (([a2,a3]:List ByteArray))).bind fun t759=>(if t759=0 then ((impl_areNames.f k (([a2]:List ByteArray))).bind fun t763=>(if t763=τ then ((impl_isChain.f a0).bind fun t764=>(if t764=τ then ((impl_cancelOrder.f k a0 l1 a2 a3).bind fun bt765=>(some (bt765.1,bt765.2))) else (some (([]:List (S51)),1)))) else (some (([]:List (S51)),4)))) else ((impl_storeCode.f k l1 (([a2,a3]:List ByteArray))).bind fun t772=>(some (([]:List (S51)),t772))))) else (some (([]:List (S51)),2))))=some (r1,r2):=h
 clear h
 obtain ⟨y752,hy752⟩ : ∃ y_:List ByteArray,y_=(([a0]:List ByteArray)):=⟨_,rfl⟩
 replace H:((impl_isText.f y752).bind fun t755=>(if t755=τ then ((impl_storeCode.f k l1 (([a2,a3]:List ByteArray))).bind fun t759=>(if t759=0 then ((impl_areNames.f k (([a2]:List ByteArray))).bind fun t763=>(if t763=τ then ((impl_isChain.f a0).bind fun t764=>(if t764=τ then ((impl_cancelOrder.f k a0 l1 a2 a3).bind fun bt765=>(some (bt765.1,bt765.2))) else (some (([]:List (S51)),1)))) else (some (([]:List (S51)),4)))) else ((impl_storeCode.f k l1 (([a2,a3]:List ByteArray))).bind fun t772=>(some (([]:List (S51)),t772))))) else (some (([]:List (S51)),2))))=some (r1,r2):=by (rw [hy752];with_reducible exact H)
 have Ny752:=ζa hy752
 clear hy752
 replace H:=Option.bind_eq_some_iff.mp H
 obtain ⟨t755,A50,H⟩:=H
 replace H:(if t755=τ then ((impl_storeCode.f k l1 (([a2,a3]:List ByteArray))).bind fun t759=>(if t759=0 then ((impl_areNames.f k (([a2]:List ByteArray))).bind fun t763=>(if t763=τ then ((impl_isChain.f a0).bind fun t764=>(if t764=τ then ((impl_cancelOrder.f k a0 l1 a2 a3).bind fun bt765=>(some (bt765.1,bt765.2))) else (some (([]:List (S51)),1)))) else (some (([]:List (S51)),4)))) else ((impl_storeCode.f k l1 (([a2,a3]:List ByteArray))).bind fun t772=>(some (([]:List (S51)),t772))))) else (some (([]:List (S51)),2)))=some (r1,r2):=H
 have A5:=ζa A50
 clear A50
 by_cases c6:t755=τ
 ·
  subst c6
  have H1:((impl_storeCode.f k l1 (([a2,a3]:List ByteArray))).bind fun t759=>(if t759=0 then ((impl_areNames.f k (([a2]:List ByteArray))).bind fun t763=>(if t763=τ then ((impl_isChain.f a0).bind fun t764=>(if t764=τ then ((impl_cancelOrder.f k a0 l1 a2 a3).bind fun bt765=>(some (bt765.1,bt765.2))) else (some (([]:List (S51)),1)))) else (some (([]:List (S51)),4)))) else ((impl_storeCode.f k l1 (([a2,a3]:List ByteArray))).bind fun t772=>(some (([]:List (S51)),t772)))))=some (r1,r2):=by rw [if_pos rfl] at H;exact H
  clear H
  have H:=H1
  clear H1
  obtain ⟨y756,hy756⟩ : ∃ y_:List ByteArray,y_=(([a2,a3]:List ByteArray)):=⟨_,rfl⟩
  replace H:((impl_storeCode.f k l1 y756).bind fun t759=>(if t759=0 then ((impl_areNames.f k (([a2]:List ByteArray))).bind fun t763=>(if t763=τ then ((impl_isChain.f a0).bind fun t764=>(if t764=τ then ((impl_cancelOrder.f k a0 l1 a2 a3).bind fun bt765=>(some (bt765.1,bt765.2))) else (some (([]:List (S51)),1)))) else (some (([]:List (S51)),4)))) else ((impl_storeCode.f k l1 (([a2,a3]:List ByteArray))).bind fun t772=>(some (([]:List (S51)),t772)))))=some (r1,r2):=by (rw [hy756];with_reducible exact H)
  have Ny756:=ζa hy756
  clear hy756
  replace H:=Option.bind_eq_some_iff.mp H
  obtain ⟨t759,A70,H⟩:=H
  replace H:(if t759=0 then ((impl_areNames.f k (([a2]:List ByteArray))).bind fun t763=>(if t763=τ then ((impl_isChain.f a0).bind fun t764=>(if t764=τ then ((impl_cancelOrder.f k a0 l1 a2 a3).bind fun bt765=>(some (bt765.1,bt765.2))) else (some (([]:List (S51)),1)))) else (some (([]:List (S51)),4)))) else ((impl_storeCode.f k l1 (([a2,a3]:List ByteArray))).bind fun t772=>(some (([]:List (S51)),t772))))=some (r1,r2):=H
  have A7:=ζa A70
  clear A70
  by_cases c8:t759=0
  ·
   rw [if_pos c8] at H
   have c8b0:(t759 == 0)=τ:=beq_iff_eq.mpr c8
   have c8b1:(t759 != 0)=φ:=bne_eq_false_iff_eq.mpr c8
   clear c8
   obtain ⟨y760,hy760⟩ : ∃ y_:List ByteArray,y_=(([a2]:List ByteArray)):=⟨_,rfl⟩
   replace H:((impl_areNames.f k y760).bind fun t763=>(if t763=τ then ((impl_isChain.f a0).bind fun t764=>(if t764=τ then ((impl_cancelOrder.f k a0 l1 a2 a3).bind fun bt765=>(some (bt765.1,bt765.2))) else (some (([]:List (S51)),1)))) else (some (([]:List (S51)),4))))=some (r1,r2):=by (rw [hy760];with_reducible exact H)
   have Ny760:=ζa hy760
   clear hy760
   replace H:=Option.bind_eq_some_iff.mp H
   obtain ⟨t763,A90,H⟩:=H
   replace H:(if t763=τ then ((impl_isChain.f a0).bind fun t764=>(if t764=τ then ((impl_cancelOrder.f k a0 l1 a2 a3).bind fun bt765=>(some (bt765.1,bt765.2))) else (some (([]:List (S51)),1)))) else (some (([]:List (S51)),4)))=some (r1,r2):=H
   have A9:=ζa A90
   clear A90
   by_cases c10:t763=τ
   ·
    subst c10
    have H1:((impl_isChain.f a0).bind fun t764=>(if t764=τ then ((impl_cancelOrder.f k a0 l1 a2 a3).bind fun bt765=>(some (bt765.1,bt765.2))) else (some (([]:List (S51)),1))))=some (r1,r2):=by rw [if_pos rfl] at H;exact H
    clear H
    have H:=H1
    clear H1
    replace H:=Option.bind_eq_some_iff.mp H
    obtain ⟨t764,A110,H⟩:=H
    replace H:(if t764=τ then ((impl_cancelOrder.f k a0 l1 a2 a3).bind fun bt765=>(some (bt765.1,bt765.2))) else (some (([]:List (S51)),1)))=some (r1,r2):=H
    have A11:=ζa A110
    clear A110
    by_cases c12:t764=τ
    ·
     subst c12
     have H1:((impl_cancelOrder.f k a0 l1 a2 a3).bind fun bt765=>(some (bt765.1,bt765.2)))=some (r1,r2):=by rw [if_pos rfl] at H;exact H
     clear H
     have H:=H1
     clear H1
     replace H:=Option.bind_eq_some_iff.mp H
     obtain ⟨⟨t765,t766⟩,A130,H⟩:=H
     replace H:(some (t765,t766))=some (r1,r2):=H
     have A13:=ζa A130
     clear A130
     simp only [Option.some.injEq,Prod.mk.injEq] at H
     obtain ⟨rfl,rfl⟩:=H
     go_enter Tryz.func32,Tryz.ntmps32
     go_wp2_with (first|((with_reducible refine δx (N:=12) rfl ?_);refine Kd.R_lit Kd.string _ 9 ?hg (N:=12) ?hd (xs:=([a0]:List ByteArray)) (inner:=[.string a0]) (ok:=fun _=>True) (okp:=fun _=>True) ?hr ?hp (fun _ hk=>hk) trivial (Below.refl _ _) (Nat.le_refl _) (by simp) ?_;(case hd=>rfl);(case hg=>rfl);(case hr=>(go_simp;done));(case hp=>exact (Reps.one (show Kd.M Kd.string _ _ _ a0 [.string a0] from rfl) (Reps.none _ _)));intro v753 w14 ho15 hb hg_ hnew_;clear hg_ hnew_;(rw [← Ny752.out] at ho15);have n0_:=ζa (Kd.R_lower ho15 (δs (by exact HB.out)));have n1_:=ζa (δr (by exact HB.out) hb);clear HB;have HO754:=n0_;have HB:=n1_;clear n0_ n1_;clear hb ho15;obtain ⟨Ao16,co16,eo16⟩:=Kd.R_slice HO754.out;subst eo16)|((with_reducible refine δv (f:=61) rfl ?_);refine goesL_ (some 13) rfl rfl Tryz.func61 (by kernel_rfl) rfl #[.slice Ao16 y752.length co16] rfl (by (try simp only [δd,δe,δf]);rfl) ?_;(with_reducible refine (impl_isText.calls _ _ y752 τ _ ?side1 ?side2 A5.out).mono ?_);(case side1=>repeat (exact (ζg HO754.out).2.2));(case side2=>exact (ζg HO754.out).2.1);rintro e w' ⟨rfl,⟨nd,rfl⟩⟩;refine ⟨_,rfl,?_⟩)|((with_reducible refine δx (N:=19) rfl ?_);refine Kd.R_lit Kd.string _ 9 ?hg (N:=19) ?hd (xs:=([a2,a3]:List ByteArray)) (inner:=[.string a2,.string a3]) (ok:=fun _=>True) (okp:=fun _=>True) ?hr ?hp (fun _ hk=>hk) trivial (Below.refl _ _) (Nat.le_refl _) (by simp) ?_;(case hd=>rfl);(case hg=>rfl);(case hr=>(go_simp;done));(case hp=>exact (Reps.one (show Kd.M Kd.string _ _ _ a2 [.string a2] from rfl) (Reps.one (show Kd.M Kd.string _ _ _ a3 [.string a3] from rfl) (Reps.none _ _))));intro v757 w17 ho18 hb hg_ hnew_;clear hg_ hnew_;(rw [← Ny756.out] at ho18);have n0_:=ζa (Kd.R_elder' (by (with_reducible repeat (apply ζc));exact HO754.out) (Kd.R_base ho18) hb);have n1_:=ζa (Kd.R_lower (Kd.R_new' ho18 (Kd.R_lt (by (with_reducible repeat (apply ζc));exact HO754.out))) (δs (by repeat ((with_reducible first|exact HB.out|apply δi)))));have n2_:=ζa (δr (by repeat ((with_reducible first|exact HB.out|apply δi))) hb);clear HO754;clear HB;have HO754:=n0_;have HO758:=n1_;have HB:=n2_;clear n0_ n1_ n2_;clear hb ho18;obtain ⟨Ao19,co19,eo19⟩:=Kd.R_slice HO758.out;subst eo19)|((with_reducible refine δv (f:=62) rfl ?_);refine goesL_ (some 20) rfl rfl Tryz.func62 (by kernel_rfl) rfl #[.slice A1 l1.length c1,.slice Ao19 y756.length co19] rfl (by (try simp only [δd,δe,δf]);rfl) ?_;(with_reducible refine (impl_storeCode.calls k _ _ l1 _ _ y756 t759 _ ?side1 ?side2 ?side3 ?side4 A7.out).mono ?_);(case side1=>repeat (exact (Kd.C_below HR1.out HB.out)));(case side2=>exact HC1.out);(case side3=>repeat (exact (ζg HO758.out).2.2));(case side4=>exact (ζg HO758.out).2.1);rintro e w20 ⟨rfl,hb⟩;refine ⟨_,rfl,?_⟩;have n0_:=ζa (ζh (by exact HO754.out) hb);have n1_:=ζa (ζh (by exact HO758.out) hb);have n2_:=ζa (δr (by exact HB.out) hb);clear HO754;clear HO758;clear HB;have HO754:=n0_;have HO758:=n1_;have HB:=n2_;clear n0_ n1_ n2_;(try clear hb);(try clear hb2);(try clear hk);(try clear hi))|((with_reducible refine δx (N:=29) rfl ?_);refine Kd.R_lit Kd.string _ 9 ?hg (N:=29) ?hd (xs:=([a2]:List ByteArray)) (inner:=[.string a2]) (ok:=fun _=>True) (okp:=fun _=>True) ?hr ?hp (fun _ hk=>hk) trivial (Below.refl _ _) (Nat.le_refl _) (by simp) ?_;(case hd=>rfl);(case hg=>rfl);(case hr=>(go_simp;done));(case hp=>exact (Reps.one (show Kd.M Kd.string _ _ _ a2 [.string a2] from rfl) (Reps.none _ _)));intro v761 w21 ho22 hb hg_ hnew_;clear hg_ hnew_;(rw [← Ny760.out] at ho22);have n0_:=ζa (Kd.R_elder' (by exact HO754.out) (Kd.R_base ho22) hb);have n1_:=ζa (Kd.R_elder' (by exact HO758.out) (Kd.R_base ho22) hb);have n2_:=ζa (Kd.R_lower (Kd.R_new' (Kd.R_new' ho22 (Kd.R_lt (by exact HO754.out))) (Kd.R_lt (by exact HO758.out))) (δs (by exact HB.out)));have n3_:=ζa (δr (by exact HB.out) hb);clear HO754;clear HO758;clear HB;have HO754:=n0_;have HO758:=n1_;have HO762:=n2_;have HB:=n3_;clear n0_ n1_ n2_ n3_;clear hb ho22;obtain ⟨Ao23,co23,eo23⟩:=Kd.R_slice HO762.out;subst eo23)|((with_reducible refine δv (f:=63) rfl ?_);refine goesL_ (some 30) rfl rfl Tryz.func63 (by kernel_rfl) rfl #[.slice Ao23 y760.length co23] rfl (by (try simp only [δd,δe,δf]);rfl) ?_;(with_reducible refine (impl_areNames.calls k _ _ y760 τ _ ?side1 ?side2 A9.out).mono ?_);(case side1=>repeat (exact (ζg HO762.out).2.2));(case side2=>exact (ζg HO762.out).2.1);rintro e w' ⟨rfl,⟨nd,rfl⟩⟩;refine ⟨_,rfl,?_⟩)|((with_reducible refine δv (f:=64) rfl ?_);refine goesL_ (some 34) rfl rfl Tryz.func64 (by kernel_rfl) rfl #[.string a0] rfl (by (try simp only [δd,δe,δf]);rfl) ?_;(with_reducible refine (impl_isChain.calls a0 τ _ A11.out).mono ?_);rintro e w' ⟨rfl,⟨nd,rfl⟩⟩;refine ⟨_,rfl,?_⟩)|((with_reducible refine δv (f:=65) rfl ?_);refine goesL_ (some 40) rfl rfl Tryz.func65 (by kernel_rfl) rfl #[.string a0,.slice A1 l1.length c1,.string a2,.string a3] rfl (by (try simp only [δd,δe,δf]);rfl) ?_;(with_reducible refine (impl_cancelOrder.calls k a0 _ _ l1 a2 a3 t765 t766 _ ?side1 ?side2 (HT0.out.below (by repeat ((with_reducible first|exact HB.out|apply δi)))) A13.out).mono ?_);(case side1=>repeat (exact (Kd.C_below HR1.out (by repeat ((with_reducible first|exact HB.out|apply δi))))));(case side2=>exact HC1.out);rintro e w24 ⟨v767,rfl,ho0,hb⟩;refine ⟨_,rfl,?_⟩;have n0_:=ζa (ζh (by (with_reducible repeat (apply ζc));exact HO754.out) hb);have n1_:=ζa (ζh (by (with_reducible repeat (apply ζc));exact HO758.out) hb);have n2_:=ζa (ζh (by (with_reducible repeat (apply ζc));exact HO762.out) hb);have n3_:=ζa (Kd.R_lower ho0 (δs (by repeat ((with_reducible first|exact HB.out|apply δi)))));have n4_:=ζa (δr (by repeat ((with_reducible first|exact HB.out|apply δi))) hb);clear HO754;clear HO758;clear HO762;clear HB;have HO754:=n0_;have HO758:=n1_;have HO762:=n2_;have HO768:=n3_;have HB:=n4_;clear n0_ n1_ n2_ n3_ n4_;(try clear hb);(try clear hb2);(try clear hk);(try clear hi);(try clear ho0)))
     go_ret2
     exact ⟨_,by rfl,by exact HO768.out,by repeat ((with_reducible exact HB.out))⟩
    ·
     replace c12:=Bool.eq_false_iff.mpr c12
     subst c12
     have H1:(some (([]:List (S51)),1))=some (r1,r2):=by rw [if_neg (show ¬ (φ=τ) by decide)] at H;exact H
     clear H
     have H:=H1
     clear H1
     simp only [Option.some.injEq,Prod.mk.injEq] at H
     obtain ⟨rfl,rfl⟩:=H
     go_enter Tryz.func32,Tryz.ntmps32
     go_wp2_with (first|((with_reducible refine δx (N:=12) rfl ?_);refine Kd.R_lit Kd.string _ 9 ?hg (N:=12) ?hd (xs:=([a0]:List ByteArray)) (inner:=[.string a0]) (ok:=fun _=>True) (okp:=fun _=>True) ?hr ?hp (fun _ hk=>hk) trivial (Below.refl _ _) (Nat.le_refl _) (by simp) ?_;(case hd=>rfl);(case hg=>rfl);(case hr=>(go_simp;done));(case hp=>exact (Reps.one (show Kd.M Kd.string _ _ _ a0 [.string a0] from rfl) (Reps.none _ _)));intro v753 w25 ho26 hb hg_ hnew_;clear hg_ hnew_;(rw [← Ny752.out] at ho26);have n0_:=ζa (Kd.R_lower ho26 (δs (by exact HB.out)));have n1_:=ζa (δr (by exact HB.out) hb);clear HB;have HO754:=n0_;have HB:=n1_;clear n0_ n1_;clear hb ho26;obtain ⟨Ao27,co27,eo27⟩:=Kd.R_slice HO754.out;subst eo27)|((with_reducible refine δv (f:=61) rfl ?_);refine goesL_ (some 13) rfl rfl Tryz.func61 (by kernel_rfl) rfl #[.slice Ao27 y752.length co27] rfl (by (try simp only [δd,δe,δf]);rfl) ?_;(with_reducible refine (impl_isText.calls _ _ y752 τ _ ?side1 ?side2 A5.out).mono ?_);(case side1=>repeat (exact (ζg HO754.out).2.2));(case side2=>exact (ζg HO754.out).2.1);rintro e w' ⟨rfl,⟨nd,rfl⟩⟩;refine ⟨_,rfl,?_⟩)|((with_reducible refine δx (N:=19) rfl ?_);refine Kd.R_lit Kd.string _ 9 ?hg (N:=19) ?hd (xs:=([a2,a3]:List ByteArray)) (inner:=[.string a2,.string a3]) (ok:=fun _=>True) (okp:=fun _=>True) ?hr ?hp (fun _ hk=>hk) trivial (Below.refl _ _) (Nat.le_refl _) (by simp) ?_;(case hd=>rfl);(case hg=>rfl);(case hr=>(go_simp;done));(case hp=>exact (Reps.one (show Kd.M Kd.string _ _ _ a2 [.string a2] from rfl) (Reps.one (show Kd.M Kd.string _ _ _ a3 [.string a3] from rfl) (Reps.none _ _))));intro v757 w28 ho29 hb hg_ hnew_;clear hg_ hnew_;(rw [← Ny756.out] at ho29);have n0_:=ζa (Kd.R_elder' (by (with_reducible repeat (apply ζc));exact HO754.out) (Kd.R_base ho29) hb);have n1_:=ζa (Kd.R_lower (Kd.R_new' ho29 (Kd.R_lt (by (with_reducible repeat (apply ζc));exact HO754.out))) (δs (by repeat ((with_reducible first|exact HB.out|apply δi)))));have n2_:=ζa (δr (by repeat ((with_reducible first|exact HB.out|apply δi))) hb);clear HO754;clear HB;have HO754:=n0_;have HO758:=n1_;have HB:=n2_;clear n0_ n1_ n2_;clear hb ho29;obtain ⟨Ao30,co30,eo30⟩:=Kd.R_slice HO758.out;subst eo30)|((with_reducible refine δv (f:=62) rfl ?_);refine goesL_ (some 20) rfl rfl Tryz.func62 (by kernel_rfl) rfl #[.slice A1 l1.length c1,.slice Ao30 y756.length co30] rfl (by (try simp only [δd,δe,δf]);rfl) ?_;(with_reducible refine (impl_storeCode.calls k _ _ l1 _ _ y756 t759 _ ?side1 ?side2 ?side3 ?side4 A7.out).mono ?_);(case side1=>repeat (exact (Kd.C_below HR1.out HB.out)));(case side2=>exact HC1.out);(case side3=>repeat (exact (ζg HO758.out).2.2));(case side4=>exact (ζg HO758.out).2.1);rintro e w31 ⟨rfl,hb⟩;refine ⟨_,rfl,?_⟩;have n0_:=ζa (ζh (by exact HO754.out) hb);have n1_:=ζa (ζh (by exact HO758.out) hb);have n2_:=ζa (δr (by exact HB.out) hb);clear HO754;clear HO758;clear HB;have HO754:=n0_;have HO758:=n1_;have HB:=n2_;clear n0_ n1_ n2_;(try clear hb);(try clear hb2);(try clear hk);(try clear hi))|((with_reducible refine δx (N:=29) rfl ?_);refine Kd.R_lit Kd.string _ 9 ?hg (N:=29) ?hd (xs:=([a2]:List ByteArray)) (inner:=[.string a2]) (ok:=fun _=>True) (okp:=fun _=>True) ?hr ?hp (fun _ hk=>hk) trivial (Below.refl _ _) (Nat.le_refl _) (by simp) ?_;(case hd=>rfl);(case hg=>rfl);(case hr=>(go_simp;done));(case hp=>exact (Reps.one (show Kd.M Kd.string _ _ _ a2 [.string a2] from rfl) (Reps.none _ _)));intro v761 w32 ho33 hb hg_ hnew_;clear hg_ hnew_;(rw [← Ny760.out] at ho33);have n0_:=ζa (Kd.R_elder' (by exact HO754.out) (Kd.R_base ho33) hb);have n1_:=ζa (Kd.R_elder' (by exact HO758.out) (Kd.R_base ho33) hb);have n2_:=ζa (Kd.R_lower (Kd.R_new' (Kd.R_new' ho33 (Kd.R_lt (by exact HO754.out))) (Kd.R_lt (by exact HO758.out))) (δs (by exact HB.out)));have n3_:=ζa (δr (by exact HB.out) hb);clear HO754;clear HO758;clear HB;have HO754:=n0_;have HO758:=n1_;have HO762:=n2_;have HB:=n3_;clear n0_ n1_ n2_ n3_;clear hb ho33;obtain ⟨Ao34,co34,eo34⟩:=Kd.R_slice HO762.out;subst eo34)|((with_reducible refine δv (f:=63) rfl ?_);refine goesL_ (some 30) rfl rfl Tryz.func63 (by kernel_rfl) rfl #[.slice Ao34 y760.length co34] rfl (by (try simp only [δd,δe,δf]);rfl) ?_;(with_reducible refine (impl_areNames.calls k _ _ y760 τ _ ?side1 ?side2 A9.out).mono ?_);(case side1=>repeat (exact (ζg HO762.out).2.2));(case side2=>exact (ζg HO762.out).2.1);rintro e w' ⟨rfl,⟨nd,rfl⟩⟩;refine ⟨_,rfl,?_⟩)|((with_reducible refine δv (f:=64) rfl ?_);refine goesL_ (some 34) rfl rfl Tryz.func64 (by kernel_rfl) rfl #[.string a0] rfl (by (try simp only [δd,δe,δf]);rfl) ?_;(with_reducible refine (impl_isChain.calls a0 φ _ A11.out).mono ?_);rintro e w' ⟨rfl,⟨nd,rfl⟩⟩;refine ⟨_,rfl,?_⟩))
     go_ret2
     exact ⟨_,by rfl,by exact Kd.R_nil _ _ _ _ _,by repeat ((with_reducible first|exact HB.out|apply δi))⟩
   ·
    replace c10:=Bool.eq_false_iff.mpr c10
    subst c10
    have H1:(some (([]:List (S51)),4))=some (r1,r2):=by rw [if_neg (show ¬ (φ=τ) by decide)] at H;exact H
    clear H
    have H:=H1
    clear H1
    simp only [Option.some.injEq,Prod.mk.injEq] at H
    obtain ⟨rfl,rfl⟩:=H
    go_enter Tryz.func32,Tryz.ntmps32
    go_wp2_with (first|((with_reducible refine δx (N:=12) rfl ?_);refine Kd.R_lit Kd.string _ 9 ?hg (N:=12) ?hd (xs:=([a0]:List ByteArray)) (inner:=[.string a0]) (ok:=fun _=>True) (okp:=fun _=>True) ?hr ?hp (fun _ hk=>hk) trivial (Below.refl _ _) (Nat.le_refl _) (by simp) ?_;(case hd=>rfl);(case hg=>rfl);(case hr=>(go_simp;done));(case hp=>exact (Reps.one (show Kd.M Kd.string _ _ _ a0 [.string a0] from rfl) (Reps.none _ _)));intro v753 w35 ho36 hb hg_ hnew_;clear hg_ hnew_;(rw [← Ny752.out] at ho36);have n0_:=ζa (Kd.R_lower ho36 (δs (by exact HB.out)));have n1_:=ζa (δr (by exact HB.out) hb);clear HB;have HO754:=n0_;have HB:=n1_;clear n0_ n1_;clear hb ho36;obtain ⟨Ao37,co37,eo37⟩:=Kd.R_slice HO754.out;subst eo37)|((with_reducible refine δv (f:=61) rfl ?_);refine goesL_ (some 13) rfl rfl Tryz.func61 (by kernel_rfl) rfl #[.slice Ao37 y752.length co37] rfl (by (try simp only [δd,δe,δf]);rfl) ?_;(with_reducible refine (impl_isText.calls _ _ y752 τ _ ?side1 ?side2 A5.out).mono ?_);(case side1=>repeat (exact (ζg HO754.out).2.2));(case side2=>exact (ζg HO754.out).2.1);rintro e w' ⟨rfl,⟨nd,rfl⟩⟩;refine ⟨_,rfl,?_⟩)|((with_reducible refine δx (N:=19) rfl ?_);refine Kd.R_lit Kd.string _ 9 ?hg (N:=19) ?hd (xs:=([a2,a3]:List ByteArray)) (inner:=[.string a2,.string a3]) (ok:=fun _=>True) (okp:=fun _=>True) ?hr ?hp (fun _ hk=>hk) trivial (Below.refl _ _) (Nat.le_refl _) (by simp) ?_;(case hd=>rfl);(case hg=>rfl);(case hr=>(go_simp;done));(case hp=>exact (Reps.one (show Kd.M Kd.string _ _ _ a2 [.string a2] from rfl) (Reps.one (show Kd.M Kd.string _ _ _ a3 [.string a3] from rfl) (Reps.none _ _))));intro v757 w38 ho39 hb hg_ hnew_;clear hg_ hnew_;(rw [← Ny756.out] at ho39);have n0_:=ζa (Kd.R_elder' (by (with_reducible repeat (apply ζc));exact HO754.out) (Kd.R_base ho39) hb);have n1_:=ζa (Kd.R_lower (Kd.R_new' ho39 (Kd.R_lt (by (with_reducible repeat (apply ζc));exact HO754.out))) (δs (by repeat ((with_reducible first|exact HB.out|apply δi)))));have n2_:=ζa (δr (by repeat ((with_reducible first|exact HB.out|apply δi))) hb);clear HO754;clear HB;have HO754:=n0_;have HO758:=n1_;have HB:=n2_;clear n0_ n1_ n2_;clear hb ho39;obtain ⟨Ao40,co40,eo40⟩:=Kd.R_slice HO758.out;subst eo40)|((with_reducible refine δv (f:=62) rfl ?_);refine goesL_ (some 20) rfl rfl Tryz.func62 (by kernel_rfl) rfl #[.slice A1 l1.length c1,.slice Ao40 y756.length co40] rfl (by (try simp only [δd,δe,δf]);rfl) ?_;(with_reducible refine (impl_storeCode.calls k _ _ l1 _ _ y756 t759 _ ?side1 ?side2 ?side3 ?side4 A7.out).mono ?_);(case side1=>repeat (exact (Kd.C_below HR1.out HB.out)));(case side2=>exact HC1.out);(case side3=>repeat (exact (ζg HO758.out).2.2));(case side4=>exact (ζg HO758.out).2.1);rintro e w41 ⟨rfl,hb⟩;refine ⟨_,rfl,?_⟩;have n0_:=ζa (ζh (by exact HO754.out) hb);have n1_:=ζa (ζh (by exact HO758.out) hb);have n2_:=ζa (δr (by exact HB.out) hb);clear HO754;clear HO758;clear HB;have HO754:=n0_;have HO758:=n1_;have HB:=n2_;clear n0_ n1_ n2_;(try clear hb);(try clear hb2);(try clear hk);(try clear hi))|((with_reducible refine δx (N:=29) rfl ?_);refine Kd.R_lit Kd.string _ 9 ?hg (N:=29) ?hd (xs:=([a2]:List ByteArray)) (inner:=[.string a2]) (ok:=fun _=>True) (okp:=fun _=>True) ?hr ?hp (fun _ hk=>hk) trivial (Below.refl _ _) (Nat.le_refl _) (by simp) ?_;(case hd=>rfl);(case hg=>rfl);(case hr=>(go_simp;done));(case hp=>exact (Reps.one (show Kd.M Kd.string _ _ _ a2 [.string a2] from rfl) (Reps.none _ _)));intro v761 w42 ho43 hb hg_ hnew_;clear hg_ hnew_;(rw [← Ny760.out] at ho43);have n0_:=ζa (Kd.R_elder' (by exact HO754.out) (Kd.R_base ho43) hb);have n1_:=ζa (Kd.R_elder' (by exact HO758.out) (Kd.R_base ho43) hb);have n2_:=ζa (Kd.R_lower (Kd.R_new' (Kd.R_new' ho43 (Kd.R_lt (by exact HO754.out))) (Kd.R_lt (by exact HO758.out))) (δs (by exact HB.out)));have n3_:=ζa (δr (by exact HB.out) hb);clear HO754;clear HO758;clear HB;have HO754:=n0_;have HO758:=n1_;have HO762:=n2_;have HB:=n3_;clear n0_ n1_ n2_ n3_;clear hb ho43;obtain ⟨Ao44,co44,eo44⟩:=Kd.R_slice HO762.out;subst eo44)|((with_reducible refine δv (f:=63) rfl ?_);refine goesL_ (some 30) rfl rfl Tryz.func63 (by kernel_rfl) rfl #[.slice Ao44 y760.length co44] rfl (by (try simp only [δd,δe,δf]);rfl) ?_;(with_reducible refine (impl_areNames.calls k _ _ y760 φ _ ?side1 ?side2 A9.out).mono ?_);(case side1=>repeat (exact (ζg HO762.out).2.2));(case side2=>exact (ζg HO762.out).2.1);rintro e w' ⟨rfl,⟨nd,rfl⟩⟩;refine ⟨_,rfl,?_⟩))
    go_ret2
    exact ⟨_,by rfl,by exact Kd.R_nil _ _ _ _ _,by repeat ((with_reducible first|exact HB.out|apply δi))⟩
  ·
   rw [if_neg c8] at H
   have c8b0:(t759 == 0)=φ:=beq_eq_false_iff_ne.mpr c8
   have c8b1:(t759 != 0)=τ:=bne_iff_ne.mpr c8
   obtain ⟨y769,hy769⟩ : ∃ y_:List ByteArray,y_=(([a2,a3]:List ByteArray)):=⟨_,rfl⟩
   replace H:((impl_storeCode.f k l1 y769).bind fun t772=>(some (([]:List (S51)),t772)))=some (r1,r2):=by (rw [hy769];with_reducible exact H)
   have Ny769:=ζa hy769
   clear hy769
   replace H:=Option.bind_eq_some_iff.mp H
   obtain ⟨t772,A450,H⟩:=H
   replace H:(some (([]:List (S51)),t772))=some (r1,r2):=H
   have A45:=ζa A450
   clear A450
   simp only [Option.some.injEq,Prod.mk.injEq] at H
   obtain ⟨rfl,rfl⟩:=H
   go_enter Tryz.func32,Tryz.ntmps32
   go_wp2_with (first|((with_reducible refine δx (N:=12) rfl ?_);refine Kd.R_lit Kd.string _ 9 ?hg (N:=12) ?hd (xs:=([a0]:List ByteArray)) (inner:=[.string a0]) (ok:=fun _=>True) (okp:=fun _=>True) ?hr ?hp (fun _ hk=>hk) trivial (Below.refl _ _) (Nat.le_refl _) (by simp) ?_;(case hd=>rfl);(case hg=>rfl);(case hr=>(go_simp;done));(case hp=>exact (Reps.one (show Kd.M Kd.string _ _ _ a0 [.string a0] from rfl) (Reps.none _ _)));intro v753 w46 ho47 hb hg_ hnew_;clear hg_ hnew_;(rw [← Ny752.out] at ho47);have n0_:=ζa (Kd.R_lower ho47 (δs (by exact HB.out)));have n1_:=ζa (δr (by exact HB.out) hb);clear HB;have HO754:=n0_;have HB:=n1_;clear n0_ n1_;clear hb ho47;obtain ⟨Ao48,co48,eo48⟩:=Kd.R_slice HO754.out;subst eo48)|((with_reducible refine δv (f:=61) rfl ?_);refine goesL_ (some 13) rfl rfl Tryz.func61 (by kernel_rfl) rfl #[.slice Ao48 y752.length co48] rfl (by (try simp only [δd,δe,δf]);rfl) ?_;(with_reducible refine (impl_isText.calls _ _ y752 τ _ ?side1 ?side2 A5.out).mono ?_);(case side1=>repeat (exact (ζg HO754.out).2.2));(case side2=>exact (ζg HO754.out).2.1);rintro e w' ⟨rfl,⟨nd,rfl⟩⟩;refine ⟨_,rfl,?_⟩)|((with_reducible refine δx (N:=19) rfl ?_);refine Kd.R_lit Kd.string _ 9 ?hg (N:=19) ?hd (xs:=([a2,a3]:List ByteArray)) (inner:=[.string a2,.string a3]) (ok:=fun _=>True) (okp:=fun _=>True) ?hr ?hp (fun _ hk=>hk) trivial (Below.refl _ _) (Nat.le_refl _) (by simp) ?_;(case hd=>rfl);(case hg=>rfl);(case hr=>(go_simp;done));(case hp=>exact (Reps.one (show Kd.M Kd.string _ _ _ a2 [.string a2] from rfl) (Reps.one (show Kd.M Kd.string _ _ _ a3 [.string a3] from rfl) (Reps.none _ _))));intro v757 w49 ho50 hb hg_ hnew_;clear hg_ hnew_;(rw [← Ny756.out] at ho50);have n0_:=ζa (Kd.R_elder' (by (with_reducible repeat (apply ζc));exact HO754.out) (Kd.R_base ho50) hb);have n1_:=ζa (Kd.R_lower (Kd.R_new' ho50 (Kd.R_lt (by (with_reducible repeat (apply ζc));exact HO754.out))) (δs (by repeat ((with_reducible first|exact HB.out|apply δi)))));have n2_:=ζa (δr (by repeat ((with_reducible first|exact HB.out|apply δi))) hb);clear HO754;clear HB;have HO754:=n0_;have HO758:=n1_;have HB:=n2_;clear n0_ n1_ n2_;clear hb ho50;obtain ⟨Ao51,co51,eo51⟩:=Kd.R_slice HO758.out;subst eo51)|((with_reducible refine δv (f:=62) rfl ?_);refine goesL_ (some 20) rfl rfl Tryz.func62 (by kernel_rfl) rfl #[.slice A1 l1.length c1,.slice Ao51 y756.length co51] rfl (by (try simp only [δd,δe,δf]);rfl) ?_;(with_reducible refine (impl_storeCode.calls k _ _ l1 _ _ y756 t759 _ ?side1 ?side2 ?side3 ?side4 A7.out).mono ?_);(case side1=>repeat (exact (Kd.C_below HR1.out HB.out)));(case side2=>exact HC1.out);(case side3=>repeat (exact (ζg HO758.out).2.2));(case side4=>exact (ζg HO758.out).2.1);rintro e w52 ⟨rfl,hb⟩;refine ⟨_,rfl,?_⟩;have n0_:=ζa (ζh (by exact HO754.out) hb);have n1_:=ζa (ζh (by exact HO758.out) hb);have n2_:=ζa (δr (by exact HB.out) hb);clear HO754;clear HO758;clear HB;have HO754:=n0_;have HO758:=n1_;have HB:=n2_;clear n0_ n1_ n2_;(try clear hb);(try clear hb2);(try clear hk);(try clear hi))|((with_reducible refine δx (N:=25) rfl ?_);refine Kd.R_lit Kd.string _ 9 ?hg (N:=25) ?hd (xs:=([a2,a3]:List ByteArray)) (inner:=[.string a2,.string a3]) (ok:=fun _=>True) (okp:=fun _=>True) ?hr ?hp (fun _ hk=>hk) trivial (Below.refl _ _) (Nat.le_refl _) (by simp) ?_;(case hd=>rfl);(case hg=>rfl);(case hr=>(go_simp;done));(case hp=>exact (Reps.one (show Kd.M Kd.string _ _ _ a2 [.string a2] from rfl) (Reps.one (show Kd.M Kd.string _ _ _ a3 [.string a3] from rfl) (Reps.none _ _))));intro v770 w53 ho54 hb hg_ hnew_;clear hg_ hnew_;(rw [← Ny769.out] at ho54);have n0_:=ζa (Kd.R_elder' (by exact HO754.out) (Kd.R_base ho54) hb);have n1_:=ζa (Kd.R_elder' (by exact HO758.out) (Kd.R_base ho54) hb);have n2_:=ζa (Kd.R_lower (Kd.R_new' (Kd.R_new' ho54 (Kd.R_lt (by exact HO754.out))) (Kd.R_lt (by exact HO758.out))) (δs (by exact HB.out)));have n3_:=ζa (δr (by exact HB.out) hb);clear HO754;clear HO758;clear HB;have HO754:=n0_;have HO758:=n1_;have HO771:=n2_;have HB:=n3_;clear n0_ n1_ n2_ n3_;clear hb ho54;obtain ⟨Ao55,co55,eo55⟩:=Kd.R_slice HO771.out;subst eo55)|((with_reducible refine δv (f:=62) rfl ?_);refine goesL_ (some 26) rfl rfl Tryz.func62 (by kernel_rfl) rfl #[.slice A1 l1.length c1,.slice Ao55 y769.length co55] rfl (by (try simp only [δd,δe,δf]);rfl) ?_;(with_reducible refine (impl_storeCode.calls k _ _ l1 _ _ y769 t772 _ ?side1 ?side2 ?side3 ?side4 A45.out).mono ?_);(case side1=>repeat (exact (Kd.C_below HR1.out HB.out)));(case side2=>exact HC1.out);(case side3=>repeat (exact (ζg HO771.out).2.2));(case side4=>exact (ζg HO771.out).2.1);rintro e w56 ⟨rfl,hb⟩;refine ⟨_,rfl,?_⟩;have n0_:=ζa (ζh (by exact HO754.out) hb);have n1_:=ζa (ζh (by exact HO758.out) hb);have n2_:=ζa (ζh (by exact HO771.out) hb);have n3_:=ζa (δr (by exact HB.out) hb);clear HO754;clear HO758;clear HO771;clear HB;have HO754:=n0_;have HO758:=n1_;have HO771:=n2_;have HB:=n3_;clear n0_ n1_ n2_ n3_;(try clear hb);(try clear hb2);(try clear hk);(try clear hi)))
   go_ret2
   exact ⟨_,by rfl,by exact Kd.R_nil _ _ _ _ _,by repeat ((with_reducible exact HB.out))⟩
 ·
  replace c6:=Bool.eq_false_iff.mpr c6
  subst c6
  have H1:(some (([]:List (S51)),2))=some (r1,r2):=by rw [if_neg (show ¬ (φ=τ) by decide)] at H;exact H
  clear H
  have H:=H1
  clear H1
  simp only [Option.some.injEq,Prod.mk.injEq] at H
  obtain ⟨rfl,rfl⟩:=H
  go_enter Tryz.func32,Tryz.ntmps32
  go_wp2_with (first|((with_reducible refine δx (N:=12) rfl ?_);refine Kd.R_lit Kd.string _ 9 ?hg (N:=12) ?hd (xs:=([a0]:List ByteArray)) (inner:=[.string a0]) (ok:=fun _=>True) (okp:=fun _=>True) ?hr ?hp (fun _ hk=>hk) trivial (Below.refl _ _) (Nat.le_refl _) (by simp) ?_;(case hd=>rfl);(case hg=>rfl);(case hr=>(go_simp;done));(case hp=>exact (Reps.one (show Kd.M Kd.string _ _ _ a0 [.string a0] from rfl) (Reps.none _ _)));intro v753 w57 ho58 hb hg_ hnew_;clear hg_ hnew_;(rw [← Ny752.out] at ho58);have n0_:=ζa (Kd.R_lower ho58 (δs (by exact HB.out)));have n1_:=ζa (δr (by exact HB.out) hb);clear HB;have HO754:=n0_;have HB:=n1_;clear n0_ n1_;clear hb ho58;obtain ⟨Ao59,co59,eo59⟩:=Kd.R_slice HO754.out;subst eo59)|((with_reducible refine δv (f:=61) rfl ?_);refine goesL_ (some 13) rfl rfl Tryz.func61 (by kernel_rfl) rfl #[.slice Ao59 y752.length co59] rfl (by (try simp only [δd,δe,δf]);rfl) ?_;(with_reducible refine (impl_isText.calls _ _ y752 φ _ ?side1 ?side2 A5.out).mono ?_);(case side1=>repeat (exact (ζg HO754.out).2.2));(case side2=>exact (ζg HO754.out).2.1);rintro e w' ⟨rfl,⟨nd,rfl⟩⟩;refine ⟨_,rfl,?_⟩))
  go_ret2
  exact ⟨_,by rfl,by exact Kd.R_nil _ _ _ _ _,by repeat ((with_reducible first|exact HB.out|apply δi))⟩


open Go.Proofs.YtabmfhnhmoiljaaGreatDoorW.PrintWords renaming gate_callee → δv, below_step → δr, below_size → δs
open Go.Proofs.YtabmfhnhmoiljaaGreatDoorW.PrintWords.Kd renaming R_reads' → ζg, R_below → ζh

/-! ### laws_FnExactCancelOrder: function 9 -/
mutual
def laws_FnExactCancelOrder.j0:Nat→ByteArray→List (S49)→ByteArray→ByteArray→List (S51)→Int→List (S51)→List (S51)→Int→Bool→Option (Bool)
 | 0,_,_,_,_,_,_,_,_,_,_=>none
 | k+1,x0,x1,x2,x3,x10,x11,x12,x13,x14,x61=>if x61=τ then (some φ) else ((laws_toPairS.f k x1).bind fun t789=>((laws_eqPairS.f k x12 t789).bind fun t792=>(if t792=τ then ((laws_markPairS.f k x12 1).bind fun bt793=>(if bt793.1<0 then (laws_FnExactCancelOrder.j1 k x0 x1 x2 x3 x10 x11 x13 τ) else ((laws_eqPairS.f k x13 x10).bind fun t795=>(if t795=τ then (laws_FnExactCancelOrder.j1 k x0 x1 x2 x3 x10 x11 x13 (x14 != x11)) else (laws_FnExactCancelOrder.j1 k x0 x1 x2 x3 x10 x11 x13 τ))))) else (some φ))))
def laws_FnExactCancelOrder.j1:Nat→ByteArray→List (S49)→ByteArray→ByteArray→List (S51)→Int→List (S51)→Bool→Option (Bool)
 | 0,_,_,_,_,_,_,_,_=>none
 | k+1,x0,x1,x2,x3,x10,x11,x13,x82=>if x82=τ then (some φ) else ((laws_markPairS.f k x13 1).bind fun bt796=>((laws_heldPairS.f k bt796.2 1).bind fun t798=>(if t798<0 then (some φ) else (if t798=bt796.1 then ((laws_toPairS.f k x1).bind fun t799=>((impl_CancelOrder.f k x0 t799 x2 x3).bind fun bt802=>((laws_eqPairS.f k bt802.1 x10).bind fun t806=>(if t806=τ then (laws_FnExactCancelOrder.j2 k bt796.2 bt796.1 (bt802.2 != x11)) else (laws_FnExactCancelOrder.j2 k bt796.2 bt796.1 τ))))) else (some φ)))))
def laws_FnExactCancelOrder.j2:Nat→List (S51)→Int→Bool→Option (Bool)
 | 0,_,_,_=>none
 | k+1,x13,x16,x111=>if x111=τ then (some φ) else ((laws_heldPairS.f k x13 1).bind fun t807=>(if t807<0 then (some φ) else (if t807=x16 then (some τ) else (some φ))))
end
def laws_FnExactCancelOrder.f (k:Nat) (a0:ByteArray) (l1:List (S49)) (a2:ByteArray) (a3:ByteArray):Option (Bool):=if (a0.size:Int) > 1048576 then (some τ) else (if (a2.size:Int) > 1048576 then (some τ) else (if (a3.size:Int) > 1048576 then (some τ) else ((laws_szPairS.f k l1 1048576).bind fun t773=>(if t773<0 then (some τ) else ((laws_toPairS.f k l1).bind fun t774=>((spec_CancelOrder.f k a0 t774 a2 a3).bind fun bt777=>((laws_toPairS.f k l1).bind fun t781=>((impl_CancelOrder.f k a0 t781 a2 a3).bind fun bt784=>((laws_eqPairS.f k bt784.1 bt777.1).bind fun t788=>(if t788=τ then (laws_FnExactCancelOrder.j0 k a0 l1 a2 a3 bt777.1 bt777.2 t781 bt784.1 bt784.2 (bt784.2 != bt777.2)) else (laws_FnExactCancelOrder.j0 k a0 l1 a2 a3 bt777.1 bt777.2 t781 bt784.1 bt784.2 τ)))))))))))
set_option maxHeartbeats 8000000 in
set_option maxRecDepth 100000 in
theorem laws_FnExactCancelOrder.calls (k:Nat) (a0:ByteArray) (A1:Option Addr) (c1:Nat) (l1:List (S49)) (a2:ByteArray) (a3:ByteArray) (r:Bool) (w:World) (hr1:Kd.C k49 w A1 l1.length l1) (hc1:l1.length≤c1) (hT0:TabsOK w) (h:laws_FnExactCancelOrder.f k a0 l1 a2 a3=some r) :
  Calls Tryz.prog 9 #[.string a0,.slice A1 l1.length c1,.string a2,.string a3] w fun e w'=>e = .returned (.bool r)∧Below w.heap.size w w':=by
 have HT0:=ζa hT0
 clear hT0
 have HR1:=ζa hr1
 have HC1:=ζa hc1
 clear hr1 hc1
 have HB:=ζa (Below.refl w.heap.size w)
 have H:(if (a0.size:Int) > 1048576 then (some τ) else (if (a2.size:Int) > 1048576 then (some τ) else (if (a3.size:Int) > 1048576 then (some τ) else ((laws_szPairS.f k l1 1048576).bind fun t773=>(if t773<0 then (some τ) else ((laws_toPairS.f k l1).bind fun t774=>((spec_CancelOrder.f k a0 t774 a2 a3).bind fun bt777=>((laws_toPairS.f k l1).bind fun t781=>((impl_CancelOrder.f k a0 t781 a2 a3).bind fun bt784=>((laws_eqPairS.f k bt784.1 bt777.1).bind fun t788=>(if t788=τ then (laws_FnExactCancelOrder.j0 k a0 l1 a2 a3 bt777.1 bt777.2 t781 bt784.1 bt784.2 (bt784.2 != bt777.2)) else (laws_FnExactCancelOrder.j0 k a0 l1 a2 a3 bt777.1 bt777.2 t781 bt784.1 bt784.2 τ))))))))))))=some r:=h
 clear h
 by_cases c5:(a0.size:Int) > 1048576
 ·
  rw [if_pos c5] at H
  have c5b0:decide (1048576<(a0.size:Int))=τ:=decide_eq_true c5
  have c5b1:decide (1048576<a0.size)=τ:=decide_eq_true (by omega)
  clear c5
  obtain rfl:=Option.some.inj H
  go_enter Tryz.func9,Tryz.ntmps9
  go_wp2
  go_ret
  exact ⟨by rfl,by repeat ((with_reducible exact HB.out))⟩
 ·
  rw [if_neg c5] at H
  have c5b0:decide (1048576<(a0.size:Int))=φ:=decide_eq_false c5
  have c5b1:decide (1048576<a0.size)=φ:=decide_eq_false (by omega)
  clear c5
  by_cases c6:(a2.size:Int) > 1048576
  ·
   rw [if_pos c6] at H
   have c6b0:decide (1048576<(a2.size:Int))=τ:=decide_eq_true c6
   have c6b1:decide (1048576<a2.size)=τ:=decide_eq_true (by omega)
   clear c6
   obtain rfl:=Option.some.inj H
   go_enter Tryz.func9,Tryz.ntmps9
   go_wp2
   go_ret
   exact ⟨by rfl,by repeat ((with_reducible exact HB.out))⟩
  ·
   rw [if_neg c6] at H
   have c6b0:decide (1048576<(a2.size:Int))=φ:=decide_eq_false c6
   have c6b1:decide (1048576<a2.size)=φ:=decide_eq_false (by omega)
   clear c6
   by_cases c7:(a3.size:Int) > 1048576
   ·
    rw [if_pos c7] at H
    have c7b0:decide (1048576<(a3.size:Int))=τ:=decide_eq_true c7
    have c7b1:decide (1048576<a3.size)=τ:=decide_eq_true (by omega)
    clear c7
    obtain rfl:=Option.some.inj H
    go_enter Tryz.func9,Tryz.ntmps9
    go_wp2
    go_ret
    exact ⟨by rfl,by repeat ((with_reducible exact HB.out))⟩
   ·
    rw [if_neg c7] at H
    have c7b0:decide (1048576<(a3.size:Int))=φ:=decide_eq_false c7
    have c7b1:decide (1048576<a3.size)=φ:=decide_eq_false (by omega)
    clear c7
    replace H:=Option.bind_eq_some_iff.mp H
    obtain ⟨t773,A80,H⟩:=H
    replace H:(if t773<0 then (some τ) else ((laws_toPairS.f k l1).bind fun t774=>((spec_CancelOrder.f k a0 t774 a2 a3).bind fun bt777=>((laws_toPairS.f k l1).bind fun t781=>((impl_CancelOrder.f k a0 t781 a2 a3).bind fun bt784=>((laws_eqPairS.f k bt784.1 bt777.1).bind fun t788=>(if t788=τ then (laws_FnExactCancelOrder.j0 k a0 l1 a2 a3 bt777.1 bt777.2 t781 bt784.1 bt784.2 (bt784.2 != bt777.2)) else (laws_FnExactCancelOrder.j0 k a0 l1 a2 a3 bt777.1 bt777.2 t781 bt784.1 bt784.2 τ))))))))=some r:=H
    have A8:=ζa A80
    clear A80
    by_cases c9:t773<0
    ·
     rw [if_pos c9] at H
     have c9b0:decide (t773<0)=τ:=decide_eq_true c9
     clear c9
     obtain rfl:=Option.some.inj H
     go_enter Tryz.func9,Tryz.ntmps9
     go_wp2_with (((with_reducible refine δv (f:=14) rfl ?_);refine goesL_ (some 31) rfl rfl Tryz.func14 (by kernel_rfl) rfl #[.slice A1 l1.length c1,.int .i64 1048576] rfl (by (try simp only [δd,δe,δf]);rfl) ?_;(with_reducible refine (laws_szPairS.calls k _ _ l1 1048576 t773 _ ?side1 ?side2 A8.out).mono ?_);(case side1=>repeat (exact HR1.out));(case side2=>exact HC1.out);rintro e w10 ⟨rfl,hb⟩;refine ⟨_,rfl,?_⟩;have n0_:=ζa (δr (by exact HB.out) hb);clear HB;have HB:=n0_;clear n0_;(try clear hb);(try clear hb2);(try clear hk);(try clear hi)))
     go_ret
     exact ⟨by rfl,by repeat ((with_reducible exact HB.out))⟩
    ·
     rw [if_neg c9] at H
     have c9b0:decide (t773<0)=φ:=decide_eq_false c9
     clear c9
     replace H:=Option.bind_eq_some_iff.mp H
     obtain ⟨t774,A110,H⟩:=H
     replace H:((spec_CancelOrder.f k a0 t774 a2 a3).bind fun bt777=>((laws_toPairS.f k l1).bind fun t781=>((impl_CancelOrder.f k a0 t781 a2 a3).bind fun bt784=>((laws_eqPairS.f k bt784.1 bt777.1).bind fun t788=>(if t788=τ then (laws_FnExactCancelOrder.j0 k a0 l1 a2 a3 bt777.1 bt777.2 t781 bt784.1 bt784.2 (bt784.2 != bt777.2)) else (laws_FnExactCancelOrder.j0 k a0 l1 a2 a3 bt777.1 bt777.2 t781 bt784.1 bt784.2 τ))))))=some r:=H
     have A11:=ζa A110
     clear A110
     replace H:=Option.bind_eq_some_iff.mp H
     obtain ⟨⟨t777,t778⟩,A120,H⟩:=H
     replace H:((laws_toPairS.f k l1).bind fun t781=>((impl_CancelOrder.f k a0 t781 a2 a3).bind fun bt784=>((laws_eqPairS.f k bt784.1 t777).bind fun t788=>(if t788=τ then (laws_FnExactCancelOrder.j0 k a0 l1 a2 a3 t777 t778 t781 bt784.1 bt784.2 (bt784.2 != t778)) else (laws_FnExactCancelOrder.j0 k a0 l1 a2 a3 t777 t778 t781 bt784.1 bt784.2 τ)))))=some r:=H
     have A12:=ζa A120
     clear A120
     replace H:=Option.bind_eq_some_iff.mp H
     obtain ⟨t781,A130,H⟩:=H
     replace H:((impl_CancelOrder.f k a0 t781 a2 a3).bind fun bt784=>((laws_eqPairS.f k bt784.1 t777).bind fun t788=>(if t788=τ then (laws_FnExactCancelOrder.j0 k a0 l1 a2 a3 t777 t778 t781 bt784.1 bt784.2 (bt784.2 != t778)) else (laws_FnExactCancelOrder.j0 k a0 l1 a2 a3 t777 t778 t781 bt784.1 bt784.2 τ))))=some r:=H
     have A13:=ζa A130
     clear A130
     replace H:=Option.bind_eq_some_iff.mp H
     obtain ⟨⟨t784,t785⟩,A140,H⟩:=H
     replace H:((laws_eqPairS.f k t784 t777).bind fun t788=>(if t788=τ then (laws_FnExactCancelOrder.j0 k a0 l1 a2 a3 t777 t778 t781 t784 t785 (t785 != t778)) else (laws_FnExactCancelOrder.j0 k a0 l1 a2 a3 t777 t778 t781 t784 t785 τ)))=some r:=H
     have A14:=ζa A140
     clear A140
     have HC15:=ζa H
     clear H
     go_enter Tryz.func9,Tryz.ntmps9
     go_upto_region 14 with (first|((with_reducible refine δv (f:=14) rfl ?_);refine goesL_ (some 31) rfl rfl Tryz.func14 (by kernel_rfl) rfl #[.slice A1 l1.length c1,.int .i64 1048576] rfl (by (try simp only [δd,δe,δf]);rfl) ?_;(with_reducible refine (laws_szPairS.calls k _ _ l1 1048576 t773 _ ?side1 ?side2 A8.out).mono ?_);(case side1=>repeat (exact HR1.out));(case side2=>exact HC1.out);rintro e w16 ⟨rfl,hb⟩;refine ⟨_,rfl,?_⟩;have n0_:=ζa (δr (by exact HB.out) hb);clear HB;have HB:=n0_;clear n0_;(try clear hb);(try clear hb2);(try clear hk);(try clear hi))|((with_reducible refine δv (f:=16) rfl ?_);refine goesL_ (some 37) rfl rfl Tryz.func16 (by kernel_rfl) rfl #[.slice A1 l1.length c1] rfl (by (try simp only [δd,δe,δf]);rfl) ?_;(with_reducible refine (laws_toPairS.calls k _ _ l1 t774 _ ?side1 ?side2 A11.out).mono ?_);(case side1=>repeat (exact (Kd.C_below HR1.out HB.out)));(case side2=>exact HC1.out);rintro e w17 ⟨v775,rfl,ho0,hb⟩;refine ⟨_,rfl,?_⟩;have n0_:=ζa (Kd.R_lower ho0 (δs (by exact HB.out)));have n1_:=ζa (δr (by exact HB.out) hb);clear HB;have HO776:=n0_;have HB:=n1_;clear n0_ n1_;(try clear hb);(try clear hb2);(try clear hk);(try clear hi);(try clear ho0);obtain ⟨Ao18,co18,eo18⟩:=Kd.R_slice HO776.out;subst eo18)|((with_reducible refine δv (f:=31) rfl ?_);refine goesL_ (some 40) rfl rfl Tryz.func31 (by kernel_rfl) rfl #[.string a0,.slice Ao18 t774.length co18,.string a2,.string a3] rfl (by (try simp only [δd,δe,δf]);rfl) ?_;(with_reducible refine (spec_CancelOrder.calls k a0 _ _ t774 a2 a3 t777 t778 _ ?side1 ?side2 A12.out).mono ?_);(case side1=>repeat (exact (ζg HO776.out).2.2));(case side2=>exact (ζg HO776.out).2.1);rintro e w19 ⟨v779,rfl,ho0,hb⟩;refine ⟨_,rfl,?_⟩;have n0_:=ζa (Kd.R_elder' (by exact HO776.out) (Kd.R_base ho0) hb);have n1_:=ζa (Kd.R_lower (Kd.R_new' ho0 (Kd.R_lt (by exact HO776.out))) (δs (by exact HB.out)));have n2_:=ζa (δr (by exact HB.out) hb);clear HO776;clear HB;have HO776:=n0_;have HO780:=n1_;have HB:=n2_;clear n0_ n1_ n2_;(try clear hb);(try clear hb2);(try clear hk);(try clear hi);(try clear ho0))|((with_reducible refine δv (f:=16) rfl ?_);refine goesL_ (some 44) rfl rfl Tryz.func16 (by kernel_rfl) rfl #[.slice A1 l1.length c1] rfl (by (try simp only [δd,δe,δf]);rfl) ?_;(with_reducible refine (laws_toPairS.calls k _ _ l1 t781 _ ?side1 ?side2 A13.out).mono ?_);(case side1=>repeat (exact (Kd.C_below HR1.out HB.out)));(case side2=>exact HC1.out);rintro e w20 ⟨v782,rfl,ho0,hb⟩;refine ⟨_,rfl,?_⟩;have n0_:=ζa (Kd.R_elder' (by exact HO776.out) (Kd.R_base ho0) hb);have n1_:=ζa (Kd.R_elder' (by exact HO780.out) (Kd.R_base ho0) hb);have n2_:=ζa (Kd.R_lower (Kd.R_new' (Kd.R_new' ho0 (Kd.R_lt (by exact HO776.out))) (Kd.R_lt (by exact HO780.out))) (δs (by exact HB.out)));have n3_:=ζa (δr (by exact HB.out) hb);clear HO776;clear HO780;clear HB;have HO776:=n0_;have HO780:=n1_;have HO783:=n2_;have HB:=n3_;clear n0_ n1_ n2_ n3_;(try clear hb);(try clear hb2);(try clear hk);(try clear hi);(try clear ho0);obtain ⟨Ao21,co21,eo21⟩:=Kd.R_slice HO783.out;subst eo21)|((with_reducible refine δv (f:=32) rfl ?_);refine goesL_ (some 50) rfl rfl Tryz.func32 (by kernel_rfl) rfl #[.string a0,.slice Ao21 t781.length co21,.string a2,.string a3] rfl (by (try simp only [δd,δe,δf]);rfl) ?_;(with_reducible refine (impl_CancelOrder.calls k a0 _ _ t781 a2 a3 t784 t785 _ ?side1 ?side2 (HT0.out.below (by exact HB.out)) A14.out).mono ?_);(case side1=>repeat (exact (ζg HO783.out).2.2));(case side2=>exact (ζg HO783.out).2.1);rintro e w22 ⟨v786,rfl,ho0,hb⟩;refine ⟨_,rfl,?_⟩;have n0_:=ζa (Kd.R_elder' (by exact HO776.out) (Kd.R_base ho0) hb);have n1_:=ζa (Kd.R_elder' (by exact HO780.out) (Kd.R_base ho0) hb);have n2_:=ζa (Kd.R_elder' (by exact HO783.out) (Kd.R_base ho0) hb);have n3_:=ζa (Kd.R_lower (Kd.R_new' (Kd.R_new' (Kd.R_new' ho0 (Kd.R_lt (by exact HO776.out))) (Kd.R_lt (by exact HO780.out))) (Kd.R_lt (by exact HO783.out))) (δs (by exact HB.out)));have n4_:=ζa (δr (by exact HB.out) hb);clear HO776;clear HO780;clear HO783;clear HB;have HO776:=n0_;have HO780:=n1_;have HO783:=n2_;have HO787:=n3_;have HB:=n4_;clear n0_ n1_ n2_ n3_ n4_;(try clear hb);(try clear hb2);(try clear hk);(try clear hi);(try clear ho0)))
     (try simp only [ζl,δa,δb,δc])
     go_cut [61] (fun v61 wc => ∃ (kq:Nat) (x61_14:Bool),v61 = .bool x61_14∧Aside0 (laws_FnExactCancelOrder.j0 kq a0 l1 a2 a3 t777 t778 t781 t784 t785 x61_14=some r)∧Aside0 (kq≤k)∧Aside0 (Kd.R k51 51 wc w.heap.size (fun k_=>some k_≠((.slice Ao21 t781.length co21):Value).ownBlock∧some k_≠(v786:Value).ownBlock) v779 t777)∧Aside0 (Kd.R k51 51 wc w.heap.size (fun k_=>some k_≠(v779:Value).ownBlock∧some k_≠(v786:Value).ownBlock) (.slice Ao21 t781.length co21) t781)∧Aside0 (Kd.R k51 51 wc w.heap.size (fun k_=>some k_≠(v779:Value).ownBlock∧some k_≠((.slice Ao21 t781.length co21):Value).ownBlock) v786 t784)∧Aside0 (Below w.heap.size w wc))
     case first =>
      have H:=HC15.out
      clear HC15
      replace H:=Option.bind_eq_some_iff.mp H
      obtain ⟨t788,A230,H⟩:=H
      replace H:(if t788=τ then (laws_FnExactCancelOrder.j0 k a0 l1 a2 a3 t777 t778 t781 t784 t785 (t785 != t778)) else (laws_FnExactCancelOrder.j0 k a0 l1 a2 a3 t777 t778 t781 t784 t785 τ))=some r:=H
      have A23:=ζa A230
      clear A230
      by_cases c24:t788=τ
      ·
       subst c24
       have H1:(laws_FnExactCancelOrder.j0 k a0 l1 a2 a3 t777 t778 t781 t784 t785 (t785 != t778))=some r:=by rw [if_pos rfl] at H;exact H
       clear H
       have H:=H1
       clear H1
       have H':=ζa H
       clear H
       obtain ⟨Ao25,co25,eo25⟩:=Kd.R_slice HO787.out
       subst eo25
       obtain ⟨Ao26,co26,eo26⟩:=Kd.R_slice HO780.out
       subst eo26
       go_wp2_with (((with_reducible refine δv (f:=18) rfl ?_);refine goesL_ (some 55) rfl rfl Tryz.func18 (by kernel_rfl) rfl #[.slice Ao25 t784.length co25,.slice Ao26 t777.length co26] rfl (by (try simp only [δd,δe,δf]);rfl) ?_;(with_reducible refine (laws_eqPairS.calls k _ _ t784 _ _ t777 τ _ ?side1 ?side2 ?side3 ?side4 A23.out).mono ?_);(case side1=>repeat (exact (ζg HO787.out).2.2));(case side2=>exact (ζg HO787.out).2.1);(case side3=>repeat (exact (ζg HO780.out).2.2));(case side4=>exact (ζg HO780.out).2.1);rintro e w27 ⟨rfl,hb⟩;refine ⟨_,rfl,?_⟩;have n0_:=ζa (ζh (by exact HO776.out) hb);have n1_:=ζa (ζh (by exact HO780.out) hb);have n2_:=ζa (ζh (by exact HO783.out) hb);have n3_:=ζa (ζh (by exact HO787.out) hb);have n4_:=ζa (δr (by exact HB.out) hb);clear HO776;clear HO780;clear HO783;clear HO787;clear HB;have HO776:=n0_;have HO780:=n1_;have HO783:=n2_;have HO787:=n3_;have HB:=n4_;clear n0_ n1_ n2_ n3_ n4_;(try clear hb);(try clear hb2);(try clear hk);(try clear hi)))
       go_meet
       case rel=>exact ⟨_,((t785 != t778)),(by rfl),H',⟨by omega⟩,⟨by exact Kd.R_mono HO780.out (fun _ hk=>⟨hk.1.2,hk.2⟩)⟩,⟨by exact Kd.R_mono HO783.out (fun _ hk=>⟨hk.1.2,hk.2⟩)⟩,⟨by exact Kd.R_mono HO787.out (fun _ hk=>⟨hk.1.2,hk.2⟩)⟩,⟨by repeat ((with_reducible exact HB.out))⟩⟩
      ·
       replace c24:=Bool.eq_false_iff.mpr c24
       subst c24
       have H1:(laws_FnExactCancelOrder.j0 k a0 l1 a2 a3 t777 t778 t781 t784 t785 τ)=some r:=by rw [if_neg (show ¬ (φ=τ) by decide)] at H;exact H
       clear H
       have H:=H1
       clear H1
       have H':=ζa H
       clear H
       obtain ⟨Ao28,co28,eo28⟩:=Kd.R_slice HO787.out
       subst eo28
       obtain ⟨Ao29,co29,eo29⟩:=Kd.R_slice HO780.out
       subst eo29
       go_wp2_with (((with_reducible refine δv (f:=18) rfl ?_);refine goesL_ (some 55) rfl rfl Tryz.func18 (by kernel_rfl) rfl #[.slice Ao28 t784.length co28,.slice Ao29 t777.length co29] rfl (by (try simp only [δd,δe,δf]);rfl) ?_;(with_reducible refine (laws_eqPairS.calls k _ _ t784 _ _ t777 φ _ ?side1 ?side2 ?side3 ?side4 A23.out).mono ?_);(case side1=>repeat (exact (ζg HO787.out).2.2));(case side2=>exact (ζg HO787.out).2.1);(case side3=>repeat (exact (ζg HO780.out).2.2));(case side4=>exact (ζg HO780.out).2.1);rintro e w30 ⟨rfl,hb⟩;refine ⟨_,rfl,?_⟩;have n0_:=ζa (ζh (by exact HO776.out) hb);have n1_:=ζa (ζh (by exact HO780.out) hb);have n2_:=ζa (ζh (by exact HO783.out) hb);have n3_:=ζa (ζh (by exact HO787.out) hb);have n4_:=ζa (δr (by exact HB.out) hb);clear HO776;clear HO780;clear HO783;clear HO787;clear HB;have HO776:=n0_;have HO780:=n1_;have HO783:=n2_;have HO787:=n3_;have HB:=n4_;clear n0_ n1_ n2_ n3_ n4_;(try clear hb);(try clear hb2);(try clear hk);(try clear hi)))
       go_meet
       case rel=>exact ⟨_,(τ),(by rfl),H',⟨by omega⟩,⟨by exact Kd.R_mono HO780.out (fun _ hk=>⟨hk.1.2,hk.2⟩)⟩,⟨by exact Kd.R_mono HO783.out (fun _ hk=>⟨hk.1.2,hk.2⟩)⟩,⟨by exact Kd.R_mono HO787.out (fun _ hk=>⟨hk.1.2,hk.2⟩)⟩,⟨by repeat ((with_reducible exact HB.out))⟩⟩
     case rest =>
      clear HC15
      try clear c1
      try clear c2
      try clear p2
      try clear c3
      try clear c5
      try clear c5b0
      try clear c5b1
      try clear c6
      try clear c6b0
      try clear c6b1
      try clear c7
      try clear c7b0
      try clear c7b1
      try clear c9
      try clear c9b0
      try clear c14
      try clear c16
      try clear c18
      try clear c24
      obtain ⟨kq,x61_14,rfl,HA,HJ14,HO_10,HO_12,HO_13,HB⟩:=hcut
      cases kq with
      | zero=>exact absurd HA.out (by simp [laws_FnExactCancelOrder.j0])
      | succ kj14 =>
       have H:=HA.out
       clear HA
       simp only [laws_FnExactCancelOrder.j0] at H
       by_cases c31:x61_14=τ
       ·
        subst c31
        have H1:(some φ)=some r:=by rw [if_pos rfl] at H;exact H
        clear H
        have H:=H1
        clear H1
        obtain rfl:=Option.some.inj H
        go_wp2
        go_ret
        exact ⟨by rfl,by repeat ((with_reducible exact HB.out))⟩
       ·
        replace c31:=Bool.eq_false_iff.mpr c31
        subst c31
        have H1:((laws_toPairS.f kj14 l1).bind fun t789=>((laws_eqPairS.f kj14 t781 t789).bind fun t792=>(if t792=τ then ((laws_markPairS.f kj14 t781 1).bind fun bt793=>(if bt793.1<0 then (laws_FnExactCancelOrder.j1 kj14 a0 l1 a2 a3 t777 t778 t784 τ) else ((laws_eqPairS.f kj14 t784 t777).bind fun t795=>(if t795=τ then (laws_FnExactCancelOrder.j1 kj14 a0 l1 a2 a3 t777 t778 t784 (t785 != t778)) else (laws_FnExactCancelOrder.j1 kj14 a0 l1 a2 a3 t777 t778 t784 τ))))) else (some φ))))=some r:=by rw [if_neg (show ¬ (φ=τ) by decide)] at H;exact H
        clear H
        have H:=H1
        clear H1
        replace H:=Option.bind_eq_some_iff.mp H
        obtain ⟨t789,A320,H⟩:=H
        replace H:((laws_eqPairS.f kj14 t781 t789).bind fun t792=>(if t792=τ then ((laws_markPairS.f kj14 t781 1).bind fun bt793=>(if bt793.1<0 then (laws_FnExactCancelOrder.j1 kj14 a0 l1 a2 a3 t777 t778 t784 τ) else ((laws_eqPairS.f kj14 t784 t777).bind fun t795=>(if t795=τ then (laws_FnExactCancelOrder.j1 kj14 a0 l1 a2 a3 t777 t778 t784 (t785 != t778)) else (laws_FnExactCancelOrder.j1 kj14 a0 l1 a2 a3 t777 t778 t784 τ))))) else (some φ)))=some r:=H
        have A32:=ζa A320
        clear A320
        replace H:=Option.bind_eq_some_iff.mp H
        obtain ⟨t792,A330,H⟩:=H
        replace H:(if t792=τ then ((laws_markPairS.f kj14 t781 1).bind fun bt793=>(if bt793.1<0 then (laws_FnExactCancelOrder.j1 kj14 a0 l1 a2 a3 t777 t778 t784 τ) else ((laws_eqPairS.f kj14 t784 t777).bind fun t795=>(if t795=τ then (laws_FnExactCancelOrder.j1 kj14 a0 l1 a2 a3 t777 t778 t784 (t785 != t778)) else (laws_FnExactCancelOrder.j1 kj14 a0 l1 a2 a3 t777 t778 t784 τ))))) else (some φ))=some r:=H
        have A33:=ζa A330
        clear A330
        by_cases c34:t792=τ
        ·
         subst c34
         have H1:((laws_markPairS.f kj14 t781 1).bind fun bt793=>(if bt793.1<0 then (laws_FnExactCancelOrder.j1 kj14 a0 l1 a2 a3 t777 t778 t784 τ) else ((laws_eqPairS.f kj14 t784 t777).bind fun t795=>(if t795=τ then (laws_FnExactCancelOrder.j1 kj14 a0 l1 a2 a3 t777 t778 t784 (t785 != t778)) else (laws_FnExactCancelOrder.j1 kj14 a0 l1 a2 a3 t777 t778 t784 τ)))))=some r:=by rw [if_pos rfl] at H;exact H
         clear H
         have H:=H1
         clear H1
         replace H:=Option.bind_eq_some_iff.mp H
         obtain ⟨⟨t793,t794⟩,A350,H⟩:=H
         replace H:(if t793<0 then (laws_FnExactCancelOrder.j1 kj14 a0 l1 a2 a3 t777 t778 t784 τ) else ((laws_eqPairS.f kj14 t784 t777).bind fun t795=>(if t795=τ then (laws_FnExactCancelOrder.j1 kj14 a0 l1 a2 a3 t777 t778 t784 (t785 != t778)) else (laws_FnExactCancelOrder.j1 kj14 a0 l1 a2 a3 t777 t778 t784 τ))))=some r:=H
         have A35:=ζa A350
         clear A350
         have HC36:=ζa H
         clear H
         go_upto_region 20 with (first|((with_reducible refine δv (f:=16) rfl ?_);refine goesL_ (some 64) rfl rfl Tryz.func16 (by kernel_rfl) rfl #[.slice A1 l1.length c1] rfl (by (try simp only [δd,δe,δf]);rfl) ?_;(with_reducible refine (laws_toPairS.calls kj14 _ _ l1 t789 _ ?side1 ?side2 A32.out).mono ?_);(case side1=>repeat (exact (Kd.C_below HR1.out HB.out)));(case side2=>exact HC1.out);rintro e w37 ⟨v790,rfl,ho0,hb⟩;refine ⟨_,rfl,?_⟩;have n0_:=ζa (Kd.R_elder' (by exact HO_10.out) (Kd.R_base ho0) hb);have n1_:=ζa (Kd.R_elder' (by exact HO_12.out) (Kd.R_base ho0) hb);have n2_:=ζa (Kd.R_elder' (by exact HO_13.out) (Kd.R_base ho0) hb);have n3_:=ζa (Kd.R_lower (Kd.R_new' (Kd.R_new' (Kd.R_new' ho0 (Kd.R_lt (by exact HO_10.out))) (Kd.R_lt (by exact HO_12.out))) (Kd.R_lt (by exact HO_13.out))) (δs (by exact HB.out)));have n4_:=ζa (δr (by exact HB.out) hb);clear HO_10;clear HO_12;clear HO_13;clear HB;have HO_10:=n0_;have HO_12:=n1_;have HO_13:=n2_;have HO791:=n3_;have HB:=n4_;clear n0_ n1_ n2_ n3_ n4_;(try clear hb);(try clear hb2);(try clear hk);(try clear hi);(try clear ho0);obtain ⟨Ao38,co38,eo38⟩:=Kd.R_slice HO791.out;subst eo38)|((with_reducible refine δv (f:=18) rfl ?_);refine goesL_ (some 65) rfl rfl Tryz.func18 (by kernel_rfl) rfl #[.slice Ao21 t781.length co21,.slice Ao38 t789.length co38] rfl (by (try simp only [δd,δe,δf]);rfl) ?_;(with_reducible refine (laws_eqPairS.calls kj14 _ _ t781 _ _ t789 τ _ ?side1 ?side2 ?side3 ?side4 A33.out).mono ?_);(case side1=>repeat (exact (ζg HO_12.out).2.2));(case side2=>exact (ζg HO_12.out).2.1);(case side3=>repeat (exact (ζg HO791.out).2.2));(case side4=>exact (ζg HO791.out).2.1);rintro e w39 ⟨rfl,hb⟩;refine ⟨_,rfl,?_⟩;have n0_:=ζa (ζh (by exact HO_10.out) hb);have n1_:=ζa (ζh (by exact HO_12.out) hb);have n2_:=ζa (ζh (by exact HO_13.out) hb);have n3_:=ζa (ζh (by exact HO791.out) hb);have n4_:=ζa (δr (by exact HB.out) hb);clear HO_10;clear HO_12;clear HO_13;clear HO791;clear HB;have HO_10:=n0_;have HO_12:=n1_;have HO_13:=n2_;have HO791:=n3_;have HB:=n4_;clear n0_ n1_ n2_ n3_ n4_;(try clear hb);(try clear hb2);(try clear hk);(try clear hi))|((with_reducible refine δv (f:=19) rfl ?_);refine goesL_ (some 69) rfl rfl Tryz.func19 (by kernel_rfl) rfl #[.slice Ao21 t781.length co21,.int .i64 1] rfl (by (try simp only [δd,δe,δf]);rfl) ?_;(with_reducible refine (laws_markPairS.calls kj14 (fun k_=>some k_=(.slice Ao21 t781.length co21:Value).ownBlock) (.slice Ao21 t781.length co21) t781 1 t793 t794 w _ ?side1 ?side2 A35.out).mono ?_);(case side1=>repeat ((with_reducible exact HB.out)));(case side2=>exact Kd.R_tight rfl HO_12.out);rintro e w40 ⟨rfl,hy0,hb,hkp⟩;refine ⟨_,rfl,?_⟩;have n0_:=ζa (Kd.R_mono (ok':=fun k_=>some k_≠(.slice Ao21 t781.length co21:Value).ownBlock∧some k_≠(v786:Value).ownBlock∧some k_≠(.slice Ao38 t789.length co38:Value).ownBlock) (Kd.R_keptB (HO_10.out) hkp (fun k_ hk_ hs_=>(hk_.1.1) hs_)) (fun k_ hk_=>⟨hk_.1.1.1,hk_.1.1.2,hk_.1.2⟩));have n1_:=ζa (Kd.R_reok rfl hy0 (fun k_ e_=>HO_12.out.1 k_ e_));have n2_:=ζa (Kd.R_mono (ok':=fun k_=>some k_≠(v779:Value).ownBlock∧some k_≠(.slice Ao21 t781.length co21:Value).ownBlock∧some k_≠(.slice Ao38 t789.length co38:Value).ownBlock) (Kd.R_keptB (HO_13.out) hkp (fun k_ hk_ hs_=>(hk_.1.2) hs_)) (fun k_ hk_=>⟨hk_.1.1.1,hk_.1.1.2,hk_.1.2⟩));have n3_:=ζa (Kd.R_mono (ok':=fun k_=>some k_≠(v779:Value).ownBlock∧some k_≠(.slice Ao21 t781.length co21:Value).ownBlock∧some k_≠(v786:Value).ownBlock) (Kd.R_keptB (HO791.out) hkp (fun k_ hk_ hs_=>(hk_.1.2) hs_)) (fun k_ hk_=>⟨hk_.1.1.1.2,hk_.1.1.2,hk_.1.2⟩));have n4_:=ζa (hb);clear HO_10;clear HO_12;clear HO_13;clear HO791;clear HB;have HO_10:=n0_;have HO_12:=n1_;have HO_13:=n2_;have HO791:=n3_;have HB:=n4_;clear n0_ n1_ n2_ n3_ n4_;(try clear hb);(try clear hkp);(try clear hy0)))
         (try simp only [ζl,δa,δb,δc])
         go_cut [82] (fun v82 wc => ∃ (kq:Nat) (x82_35:Bool),v82 = .bool x82_35∧Aside0 (laws_FnExactCancelOrder.j1 kq a0 l1 a2 a3 t777 t778 t784 x82_35=some r)∧Aside0 (kq≤kj14)∧Aside0 (Kd.R k51 51 wc w.heap.size (fun k_=>some k_≠(v786:Value).ownBlock) v779 t777)∧Aside0 (Kd.R k51 51 wc w.heap.size (fun k_=>some k_≠(v779:Value).ownBlock) v786 t784)∧Aside0 (Below w.heap.size w wc))
         case first =>
          have H:=HC36.out
          clear HC36
          by_cases c41:t793<0
          ·
           rw [if_pos c41] at H
           have c41b0:decide (t793<0)=τ:=decide_eq_true c41
           clear c41
           (skip)
           have H':=ζa H
           clear H
           go_wp2
           go_meet
           case rel=>exact ⟨_,(τ),(by rfl),H',⟨by have:=HJ14.out;omega⟩,⟨by exact Kd.R_mono HO_10.out (fun _ hk=>hk.2.1)⟩,⟨by exact Kd.R_mono HO_13.out (fun _ hk=>hk.1)⟩,⟨by repeat ((with_reducible exact HB.out))⟩⟩
          ·
           rw [if_neg c41] at H
           have c41b0:decide (t793<0)=φ:=decide_eq_false c41
           clear c41
           (skip)
           replace H:=Option.bind_eq_some_iff.mp H
           obtain ⟨t795,A420,H⟩:=H
           replace H:(if t795=τ then (laws_FnExactCancelOrder.j1 kj14 a0 l1 a2 a3 t777 t778 t784 (t785 != t778)) else (laws_FnExactCancelOrder.j1 kj14 a0 l1 a2 a3 t777 t778 t784 τ))=some r:=H
           have A42:=ζa A420
           clear A420
           by_cases c43:t795=τ
           ·
            subst c43
            have H1:(laws_FnExactCancelOrder.j1 kj14 a0 l1 a2 a3 t777 t778 t784 (t785 != t778))=some r:=by rw [if_pos rfl] at H;exact H
            clear H
            have H:=H1
            clear H1
            have H':=ζa H
            clear H
            obtain ⟨Ao44,co44,eo44⟩:=Kd.R_slice HO_13.out
            subst eo44
            obtain ⟨Ao45,co45,eo45⟩:=Kd.R_slice HO_10.out
            subst eo45
            go_wp2_with ((go_at_call 18;(with_reducible refine (laws_eqPairS.calls kj14 _ _ t784 _ _ t777 τ _ ?side1 ?side2 ?side3 ?side4 A42.out).mono ?_);(case side1=>repeat (exact (ζg HO_13.out).2.2));(case side2=>exact (ζg HO_13.out).2.1);(case side3=>repeat (exact (ζg HO_10.out).2.2));(case side4=>exact (ζg HO_10.out).2.1);rintro e w46 ⟨rfl,hb⟩;have n0_:=ζa (ζh (by exact HO_10.out) hb);have n1_:=ζa (ζh (by exact HO_12.out) hb);have n2_:=ζa (ζh (by exact HO_13.out) hb);have n3_:=ζa (ζh (by exact HO791.out) hb);have n4_:=ζa (δr (by exact HB.out) hb);clear HO_10;clear HO_12;clear HO_13;clear HO791;clear HB;have HO_10:=n0_;have HO_12:=n1_;have HO_13:=n2_;have HO791:=n3_;have HB:=n4_;clear n0_ n1_ n2_ n3_ n4_;(try clear hb);(try clear hb2);(try clear hk);(try clear hi)))
            go_meet
            case rel=>exact ⟨_,((t785 != t778)),(by rfl),H',⟨by have:=HJ14.out;omega⟩,⟨by exact Kd.R_mono HO_10.out (fun _ hk=>hk.2.1)⟩,⟨by exact Kd.R_mono HO_13.out (fun _ hk=>hk.1)⟩,⟨by repeat ((with_reducible exact HB.out))⟩⟩
           ·
            replace c43:=Bool.eq_false_iff.mpr c43
            subst c43
            have H1:(laws_FnExactCancelOrder.j1 kj14 a0 l1 a2 a3 t777 t778 t784 τ)=some r:=by rw [if_neg (show ¬ (φ=τ) by decide)] at H;exact H
            clear H
            have H:=H1
            clear H1
            have H':=ζa H
            clear H
            obtain ⟨Ao47,co47,eo47⟩:=Kd.R_slice HO_13.out
            subst eo47
            obtain ⟨Ao48,co48,eo48⟩:=Kd.R_slice HO_10.out
            subst eo48
            go_wp2_with ((go_at_call 18;(with_reducible refine (laws_eqPairS.calls kj14 _ _ t784 _ _ t777 φ _ ?side1 ?side2 ?side3 ?side4 A42.out).mono ?_);(case side1=>repeat (exact (ζg HO_13.out).2.2));(case side2=>exact (ζg HO_13.out).2.1);(case side3=>repeat (exact (ζg HO_10.out).2.2));(case side4=>exact (ζg HO_10.out).2.1);rintro e w49 ⟨rfl,hb⟩;have n0_:=ζa (ζh (by exact HO_10.out) hb);have n1_:=ζa (ζh (by exact HO_12.out) hb);have n2_:=ζa (ζh (by exact HO_13.out) hb);have n3_:=ζa (ζh (by exact HO791.out) hb);have n4_:=ζa (δr (by exact HB.out) hb);clear HO_10;clear HO_12;clear HO_13;clear HO791;clear HB;have HO_10:=n0_;have HO_12:=n1_;have HO_13:=n2_;have HO791:=n3_;have HB:=n4_;clear n0_ n1_ n2_ n3_ n4_;(try clear hb);(try clear hb2);(try clear hk);(try clear hi)))
            go_meet
            case rel=>exact ⟨_,(τ),(by rfl),H',⟨by have:=HJ14.out;omega⟩,⟨by exact Kd.R_mono HO_10.out (fun _ hk=>hk.2.1)⟩,⟨by exact Kd.R_mono HO_13.out (fun _ hk=>hk.1)⟩,⟨by repeat ((with_reducible exact HB.out))⟩⟩
         case rest =>
          clear HC36
          try clear c1
          try clear c2
          try clear p2
          try clear c3
          try clear c4
          try clear c5
          try clear c5b0
          try clear c5b1
          try clear c6
          try clear c6b0
          try clear c6b1
          try clear c7
          try clear c7b0
          try clear c7b1
          try clear c9
          try clear c9b0
          try clear c14
          try clear c16
          try clear c18
          try clear c19
          try clear c24
          try clear c31
          try clear c32
          try clear c34
          try clear c41
          try clear c41b0
          try clear c43
          try clear p2
          obtain ⟨kq,x82_35,rfl,HA,HJ35,HO_10,HO_13,HB⟩:=hcut
          cases kq with
          | zero=>exact absurd HA.out (by simp [laws_FnExactCancelOrder.j1])
          | succ kj35 =>
           have H:=HA.out
           clear HA
           simp only [laws_FnExactCancelOrder.j1] at H
           by_cases c50:x82_35=τ
           ·
            subst c50
            have H1:(some φ)=some r:=by rw [if_pos rfl] at H;exact H
            clear H
            have H:=H1
            clear H1
            obtain rfl:=Option.some.inj H
            go_wp2
            go_ret
            exact ⟨by rfl,by repeat ((with_reducible exact HB.out))⟩
           ·
            replace c50:=Bool.eq_false_iff.mpr c50
            subst c50
            have H1:((laws_markPairS.f kj35 t784 1).bind fun bt796=>((laws_heldPairS.f kj35 bt796.2 1).bind fun t798=>(if t798<0 then (some φ) else (if t798=bt796.1 then ((laws_toPairS.f kj35 l1).bind fun t799=>((impl_CancelOrder.f kj35 a0 t799 a2 a3).bind fun bt802=>((laws_eqPairS.f kj35 bt802.1 t777).bind fun t806=>(if t806=τ then (laws_FnExactCancelOrder.j2 kj35 bt796.2 bt796.1 (bt802.2 != t778)) else (laws_FnExactCancelOrder.j2 kj35 bt796.2 bt796.1 τ))))) else (some φ)))))=some r:=by rw [if_neg (show ¬ (φ=τ) by decide)] at H;exact H
            clear H
            have H:=H1
            clear H1
            replace H:=Option.bind_eq_some_iff.mp H
            obtain ⟨⟨t796,t797⟩,A510,H⟩:=H
            replace H:((laws_heldPairS.f kj35 t797 1).bind fun t798=>(if t798<0 then (some φ) else (if t798=t796 then ((laws_toPairS.f kj35 l1).bind fun t799=>((impl_CancelOrder.f kj35 a0 t799 a2 a3).bind fun bt802=>((laws_eqPairS.f kj35 bt802.1 t777).bind fun t806=>(if t806=τ then (laws_FnExactCancelOrder.j2 kj35 t797 t796 (bt802.2 != t778)) else (laws_FnExactCancelOrder.j2 kj35 t797 t796 τ))))) else (some φ))))=some r:=H
            have A51:=ζa A510
            clear A510
            replace H:=Option.bind_eq_some_iff.mp H
            obtain ⟨t798,A520,H⟩:=H
            replace H:(if t798<0 then (some φ) else (if t798=t796 then ((laws_toPairS.f kj35 l1).bind fun t799=>((impl_CancelOrder.f kj35 a0 t799 a2 a3).bind fun bt802=>((laws_eqPairS.f kj35 bt802.1 t777).bind fun t806=>(if t806=τ then (laws_FnExactCancelOrder.j2 kj35 t797 t796 (bt802.2 != t778)) else (laws_FnExactCancelOrder.j2 kj35 t797 t796 τ))))) else (some φ)))=some r:=H
            have A52:=ζa A520
            clear A520
            by_cases c53:t798<0
            ·
             rw [if_pos c53] at H
             have c53b0:decide (t798<0)=τ:=decide_eq_true c53
             clear c53
             obtain rfl:=Option.some.inj H
             obtain ⟨Ao54,co54,eo54⟩:=Kd.R_slice HO_13.out
             subst eo54
             go_wp2_with (first|((with_reducible refine δv (f:=19) rfl ?_);refine goesL_ (some 85) rfl rfl Tryz.func19 (by kernel_rfl) rfl #[.slice Ao54 t784.length co54,.int .i64 1] rfl (by (try simp only [δd,δe,δf]);rfl) ?_;(with_reducible refine (laws_markPairS.calls kj35 (fun k_=>some k_=(.slice Ao54 t784.length co54:Value).ownBlock) (.slice Ao54 t784.length co54) t784 1 t796 t797 w _ ?side1 ?side2 A51.out).mono ?_);(case side1=>repeat ((with_reducible exact HB.out)));(case side2=>exact Kd.R_tight rfl HO_13.out);rintro e w55 ⟨rfl,hy0,hb,hkp⟩;refine ⟨_,rfl,?_⟩;have n0_:=ζa (Kd.R_mono (ok':=fun k_=>some k_≠(.slice Ao54 t784.length co54:Value).ownBlock) (Kd.R_keptB (HO_10.out) hkp (fun k_ hk_ hs_=>(hk_) hs_)) (fun k_ hk_=>hk_.1));have n1_:=ζa (Kd.R_reok rfl hy0 (fun k_ e_=>HO_13.out.1 k_ e_));have n2_:=ζa (hb);clear HO_10;clear HO_13;clear HB;have HO_10:=n0_;have HO_13:=n1_;have HB:=n2_;clear n0_ n1_ n2_;(try clear hb);(try clear hkp);(try clear hy0))|((with_reducible refine δv (f:=20) rfl ?_);refine goesL_ (some 88) rfl rfl Tryz.func20 (by kernel_rfl) rfl #[.slice Ao54 t797.length co54,.int .i64 1] rfl (by (try simp only [δd,δe,δf]);first|(rw [show t797.length=t784.length from (ζg HO_13.out).1.symm] <;> rfl)) ?_;(with_reducible refine (laws_heldPairS.calls kj35 _ _ t797 1 t798 _ ?side1 ?side2 A52.out).mono ?_);(case side1=>repeat (exact (ζg HO_13.out).2.2));(case side2=>rw [show t797.length=t784.length from (ζg HO_13.out).1.symm];exact (ζg HO_13.out).2.1);rintro e w56 ⟨rfl,hb⟩;refine ⟨_,rfl,?_⟩;have n0_:=ζa (ζh (by exact HO_10.out) hb);have n1_:=ζa (ζh (by exact HO_13.out) hb);have n2_:=ζa (δr (by exact HB.out) hb);clear HO_10;clear HO_13;clear HB;have HO_10:=n0_;have HO_13:=n1_;have HB:=n2_;clear n0_ n1_ n2_;(try clear hb);(try clear hb2);(try clear hk);(try clear hi)))
             go_ret
             exact ⟨by rfl,by repeat ((with_reducible exact HB.out))⟩
            ·
             rw [if_neg c53] at H
             have c53b0:decide (t798<0)=φ:=decide_eq_false c53
             clear c53
             by_cases c57:t798=t796
             ·
              rw [if_pos c57] at H
              have c57b0:(t798 == t796)=τ:=beq_iff_eq.mpr c57
              have c57b1:(t798 != t796)=φ:=bne_eq_false_iff_eq.mpr c57
              clear c57
              replace H:=Option.bind_eq_some_iff.mp H
              obtain ⟨t799,A580,H⟩:=H
              replace H:((impl_CancelOrder.f kj35 a0 t799 a2 a3).bind fun bt802=>((laws_eqPairS.f kj35 bt802.1 t777).bind fun t806=>(if t806=τ then (laws_FnExactCancelOrder.j2 kj35 t797 t796 (bt802.2 != t778)) else (laws_FnExactCancelOrder.j2 kj35 t797 t796 τ))))=some r:=H
              have A58:=ζa A580
              clear A580
              replace H:=Option.bind_eq_some_iff.mp H
              obtain ⟨⟨t802,t803⟩,A590,H⟩:=H
              replace H:((laws_eqPairS.f kj35 t802 t777).bind fun t806=>(if t806=τ then (laws_FnExactCancelOrder.j2 kj35 t797 t796 (t803 != t778)) else (laws_FnExactCancelOrder.j2 kj35 t797 t796 τ)))=some r:=H
              have A59:=ζa A590
              clear A590
              have HC60:=ζa H
              clear H
              obtain ⟨Ao61,co61,eo61⟩:=Kd.R_slice HO_13.out
              subst eo61
              go_upto_region 31 with (first|((with_reducible refine δv (f:=19) rfl ?_);refine goesL_ (some 85) rfl rfl Tryz.func19 (by kernel_rfl) rfl #[.slice Ao61 t784.length co61,.int .i64 1] rfl (by (try simp only [δd,δe,δf]);rfl) ?_;(with_reducible refine (laws_markPairS.calls kj35 (fun k_=>some k_=(.slice Ao61 t784.length co61:Value).ownBlock) (.slice Ao61 t784.length co61) t784 1 t796 t797 w _ ?side1 ?side2 A51.out).mono ?_);(case side1=>repeat ((with_reducible exact HB.out)));(case side2=>exact Kd.R_tight rfl HO_13.out);rintro e w62 ⟨rfl,hy0,hb,hkp⟩;refine ⟨_,rfl,?_⟩;have n0_:=ζa (Kd.R_mono (ok':=fun k_=>some k_≠(.slice Ao61 t784.length co61:Value).ownBlock) (Kd.R_keptB (HO_10.out) hkp (fun k_ hk_ hs_=>(hk_) hs_)) (fun k_ hk_=>hk_.1));have n1_:=ζa (Kd.R_reok rfl hy0 (fun k_ e_=>HO_13.out.1 k_ e_));have n2_:=ζa (hb);clear HO_10;clear HO_13;clear HB;have HO_10:=n0_;have HO_13:=n1_;have HB:=n2_;clear n0_ n1_ n2_;(try clear hb);(try clear hkp);(try clear hy0))|((with_reducible refine δv (f:=20) rfl ?_);refine goesL_ (some 88) rfl rfl Tryz.func20 (by kernel_rfl) rfl #[.slice Ao61 t797.length co61,.int .i64 1] rfl (by (try simp only [δd,δe,δf]);first|(rw [show t797.length=t784.length from (ζg HO_13.out).1.symm] <;> rfl)) ?_;(with_reducible refine (laws_heldPairS.calls kj35 _ _ t797 1 t798 _ ?side1 ?side2 A52.out).mono ?_);(case side1=>repeat (exact (ζg HO_13.out).2.2));(case side2=>rw [show t797.length=t784.length from (ζg HO_13.out).1.symm];exact (ζg HO_13.out).2.1);rintro e w63 ⟨rfl,hb⟩;refine ⟨_,rfl,?_⟩;have n0_:=ζa (ζh (by exact HO_10.out) hb);have n1_:=ζa (ζh (by exact HO_13.out) hb);have n2_:=ζa (δr (by exact HB.out) hb);clear HO_10;clear HO_13;clear HB;have HO_10:=n0_;have HO_13:=n1_;have HB:=n2_;clear n0_ n1_ n2_;(try clear hb);(try clear hb2);(try clear hk);(try clear hi))|((with_reducible refine δv (f:=16) rfl ?_);refine goesL_ (some 97) rfl rfl Tryz.func16 (by kernel_rfl) rfl #[.slice A1 l1.length c1] rfl (by (try simp only [δd,δe,δf]);rfl) ?_;(with_reducible refine (laws_toPairS.calls kj35 _ _ l1 t799 _ ?side1 ?side2 A58.out).mono ?_);(case side1=>repeat (exact (Kd.C_below HR1.out HB.out)));(case side2=>exact HC1.out);rintro e w64 ⟨v800,rfl,ho0,hb⟩;refine ⟨_,rfl,?_⟩;have n0_:=ζa (Kd.R_elder' (by exact HO_10.out) (Kd.R_base ho0) hb);have n1_:=ζa (Kd.R_elder' (by exact HO_13.out) (Kd.R_base ho0) hb);have n2_:=ζa (Kd.R_lower (Kd.R_new' (Kd.R_new' ho0 (Kd.R_lt (by exact HO_10.out))) (Kd.R_lt (by exact HO_13.out))) (δs (by exact HB.out)));have n3_:=ζa (δr (by exact HB.out) hb);clear HO_10;clear HO_13;clear HB;have HO_10:=n0_;have HO_13:=n1_;have HO801:=n2_;have HB:=n3_;clear n0_ n1_ n2_ n3_;(try clear hb);(try clear hb2);(try clear hk);(try clear hi);(try clear ho0);obtain ⟨Ao65,co65,eo65⟩:=Kd.R_slice HO801.out;subst eo65)|((with_reducible refine δv (f:=32) rfl ?_);refine goesL_ (some 100) rfl rfl Tryz.func32 (by kernel_rfl) rfl #[.string a0,.slice Ao65 t799.length co65,.string a2,.string a3] rfl (by (try simp only [δd,δe,δf]);rfl) ?_;(with_reducible refine (impl_CancelOrder.calls kj35 a0 _ _ t799 a2 a3 t802 t803 _ ?side1 ?side2 (HT0.out.below (by exact HB.out)) A59.out).mono ?_);(case side1=>repeat (exact (ζg HO801.out).2.2));(case side2=>exact (ζg HO801.out).2.1);rintro e w66 ⟨v804,rfl,ho0,hb⟩;refine ⟨_,rfl,?_⟩;have n0_:=ζa (Kd.R_elder' (by exact HO_10.out) (Kd.R_base ho0) hb);have n1_:=ζa (Kd.R_elder' (by exact HO_13.out) (Kd.R_base ho0) hb);have n2_:=ζa (Kd.R_elder' (by exact HO801.out) (Kd.R_base ho0) hb);have n3_:=ζa (Kd.R_lower (Kd.R_new' (Kd.R_new' (Kd.R_new' ho0 (Kd.R_lt (by exact HO_10.out))) (Kd.R_lt (by exact HO_13.out))) (Kd.R_lt (by exact HO801.out))) (δs (by exact HB.out)));have n4_:=ζa (δr (by exact HB.out) hb);clear HO_10;clear HO_13;clear HO801;clear HB;have HO_10:=n0_;have HO_13:=n1_;have HO801:=n2_;have HO805:=n3_;have HB:=n4_;clear n0_ n1_ n2_ n3_ n4_;(try clear hb);(try clear hb2);(try clear hk);(try clear hi);(try clear ho0)))
              (try simp only [ζl,δa,δb,δc])
              go_cut [111] (fun v111 wc => ∃ (kq:Nat) (x111_59:Bool),v111 = .bool x111_59∧Aside0 (laws_FnExactCancelOrder.j2 kq t797 t796 x111_59=some r)∧Aside0 (kq≤kj35)∧Aside0 (Kd.R k51 51 wc w.heap.size (fun _=>True) (.slice Ao61 t784.length co61) t797)∧Aside0 (Below w.heap.size w wc))
              case first =>
               have H:=HC60.out
               clear HC60
               replace H:=Option.bind_eq_some_iff.mp H
               obtain ⟨t806,A670,H⟩:=H
               replace H:(if t806=τ then (laws_FnExactCancelOrder.j2 kj35 t797 t796 (t803 != t778)) else (laws_FnExactCancelOrder.j2 kj35 t797 t796 τ))=some r:=H
               have A67:=ζa A670
               clear A670
               by_cases c68:t806=τ
               ·
                subst c68
                have H1:(laws_FnExactCancelOrder.j2 kj35 t797 t796 (t803 != t778))=some r:=by rw [if_pos rfl] at H;exact H
                clear H
                have H:=H1
                clear H1
                have H':=ζa H
                clear H
                obtain ⟨Ao69,co69,eo69⟩:=Kd.R_slice HO805.out
                subst eo69
                obtain ⟨Ao70,co70,eo70⟩:=Kd.R_slice HO_10.out
                subst eo70
                go_wp2_with (((with_reducible refine δv (f:=18) rfl ?_);refine goesL_ (some 105) rfl rfl Tryz.func18 (by kernel_rfl) rfl #[.slice Ao69 t802.length co69,.slice Ao70 t777.length co70] rfl (by (try simp only [δd,δe,δf]);rfl) ?_;(with_reducible refine (laws_eqPairS.calls kj35 _ _ t802 _ _ t777 τ _ ?side1 ?side2 ?side3 ?side4 A67.out).mono ?_);(case side1=>repeat (exact (ζg HO805.out).2.2));(case side2=>exact (ζg HO805.out).2.1);(case side3=>repeat (exact (ζg HO_10.out).2.2));(case side4=>exact (ζg HO_10.out).2.1);rintro e w71 ⟨rfl,hb⟩;refine ⟨_,rfl,?_⟩;have n0_:=ζa (ζh (by exact HO_10.out) hb);have n1_:=ζa (ζh (by exact HO_13.out) hb);have n2_:=ζa (ζh (by exact HO801.out) hb);have n3_:=ζa (ζh (by exact HO805.out) hb);have n4_:=ζa (δr (by exact HB.out) hb);clear HO_10;clear HO_13;clear HO801;clear HO805;clear HB;have HO_10:=n0_;have HO_13:=n1_;have HO801:=n2_;have HO805:=n3_;have HB:=n4_;clear n0_ n1_ n2_ n3_ n4_;(try clear hb);(try clear hb2);(try clear hk);(try clear hi)))
                go_meet
                case rel=>exact ⟨_,((t803 != t778)),(by rfl),H',⟨by have:=HJ14.out;have:=HJ35.out;omega⟩,⟨by exact Kd.R_mono HO_13.out (fun _ hk=>trivial)⟩,⟨by repeat ((with_reducible exact HB.out))⟩⟩
               ·
                replace c68:=Bool.eq_false_iff.mpr c68
                subst c68
                have H1:(laws_FnExactCancelOrder.j2 kj35 t797 t796 τ)=some r:=by rw [if_neg (show ¬ (φ=τ) by decide)] at H;exact H
                clear H
                have H:=H1
                clear H1
                have H':=ζa H
                clear H
                obtain ⟨Ao72,co72,eo72⟩:=Kd.R_slice HO805.out
                subst eo72
                obtain ⟨Ao73,co73,eo73⟩:=Kd.R_slice HO_10.out
                subst eo73
                go_wp2_with (((with_reducible refine δv (f:=18) rfl ?_);refine goesL_ (some 105) rfl rfl Tryz.func18 (by kernel_rfl) rfl #[.slice Ao72 t802.length co72,.slice Ao73 t777.length co73] rfl (by (try simp only [δd,δe,δf]);rfl) ?_;(with_reducible refine (laws_eqPairS.calls kj35 _ _ t802 _ _ t777 φ _ ?side1 ?side2 ?side3 ?side4 A67.out).mono ?_);(case side1=>repeat (exact (ζg HO805.out).2.2));(case side2=>exact (ζg HO805.out).2.1);(case side3=>repeat (exact (ζg HO_10.out).2.2));(case side4=>exact (ζg HO_10.out).2.1);rintro e w74 ⟨rfl,hb⟩;refine ⟨_,rfl,?_⟩;have n0_:=ζa (ζh (by exact HO_10.out) hb);have n1_:=ζa (ζh (by exact HO_13.out) hb);have n2_:=ζa (ζh (by exact HO801.out) hb);have n3_:=ζa (ζh (by exact HO805.out) hb);have n4_:=ζa (δr (by exact HB.out) hb);clear HO_10;clear HO_13;clear HO801;clear HO805;clear HB;have HO_10:=n0_;have HO_13:=n1_;have HO801:=n2_;have HO805:=n3_;have HB:=n4_;clear n0_ n1_ n2_ n3_ n4_;(try clear hb);(try clear hb2);(try clear hk);(try clear hi)))
                go_meet
                case rel=>exact ⟨_,(τ),(by rfl),H',⟨by have:=HJ14.out;have:=HJ35.out;omega⟩,⟨by exact Kd.R_mono HO_13.out (fun _ hk=>trivial)⟩,⟨by repeat ((with_reducible exact HB.out))⟩⟩
              case rest =>
               clear HC60
               try clear c1
               try clear c2
               try clear p2
               try clear c3
               try clear c4
               try clear c5
               try clear c5b0
               try clear c5b1
               try clear c6
               try clear c6b0
               try clear c6b1
               try clear c7
               try clear c7b0
               try clear c7b1
               try clear c9
               try clear c9b0
               try clear c14
               try clear c16
               try clear c18
               try clear c19
               try clear c20
               try clear c24
               try clear c31
               try clear c32
               try clear c34
               try clear c41
               try clear c41b0
               try clear c43
               try clear c50
               try clear c53
               try clear c53b0
               try clear c57
               try clear c57b0
               try clear c57b1
               try clear c68
               try clear p2
               obtain ⟨kq,x111_59,rfl,HA,HJ59,HO_13,HB⟩:=hcut
               have hl13_59:=(ζg HO_13.out).1
               rw [hl13_59] at HO_13
               (try simp only [hl13_59])
               cases kq with
               | zero=>exact absurd HA.out (by simp [laws_FnExactCancelOrder.j2])
               | succ kj59 =>
                have H:=HA.out
                clear HA
                simp only [laws_FnExactCancelOrder.j2] at H
                by_cases c75:x111_59=τ
                ·
                 subst c75
                 have H1:(some φ)=some r:=by rw [if_pos rfl] at H;exact H
                 clear H
                 have H:=H1
                 clear H1
                 obtain rfl:=Option.some.inj H
                 go_wp2
                 go_ret
                 exact ⟨by rfl,by repeat ((with_reducible exact HB.out))⟩
                ·
                 replace c75:=Bool.eq_false_iff.mpr c75
                 subst c75
                 have H1:((laws_heldPairS.f kj59 t797 1).bind fun t807=>(if t807<0 then (some φ) else (if t807=t796 then (some τ) else (some φ))))=some r:=by rw [if_neg (show ¬ (φ=τ) by decide)] at H;exact H
                 clear H
                 have H:=H1
                 clear H1
                 replace H:=Option.bind_eq_some_iff.mp H
                 obtain ⟨t807,A760,H⟩:=H
                 replace H:(if t807<0 then (some φ) else (if t807=t796 then (some τ) else (some φ)))=some r:=H
                 have A76:=ζa A760
                 clear A760
                 by_cases c77:t807<0
                 ·
                  rw [if_pos c77] at H
                  have c77b0:decide (t807<0)=τ:=decide_eq_true c77
                  clear c77
                  obtain rfl:=Option.some.inj H
                  go_wp2_with (((with_reducible refine δv (f:=20) rfl ?_);refine goesL_ (some 114) rfl rfl Tryz.func20 (by kernel_rfl) rfl #[.slice Ao61 t797.length co61,.int .i64 1] rfl (by (try simp only [δd,δe,δf]);rfl) ?_;(with_reducible refine (laws_heldPairS.calls kj59 _ _ t797 1 t807 _ ?side1 ?side2 A76.out).mono ?_);(case side1=>repeat (exact (ζg HO_13.out).2.2));(case side2=>exact (ζg HO_13.out).2.1);rintro e w78 ⟨rfl,hb⟩;refine ⟨_,rfl,?_⟩;have n0_:=ζa (ζh (by exact HO_13.out) hb);have n1_:=ζa (δr (by exact HB.out) hb);clear HO_13;clear HB;have HO_13:=n0_;have HB:=n1_;clear n0_ n1_;(try clear hb);(try clear hb2);(try clear hk);(try clear hi)))
                  go_ret
                  exact ⟨by rfl,by repeat ((with_reducible exact HB.out))⟩
                 ·
                  rw [if_neg c77] at H
                  have c77b0:decide (t807<0)=φ:=decide_eq_false c77
                  clear c77
                  by_cases c79:t807=t796
                  ·
                   rw [if_pos c79] at H
                   have c79b0:(t807 == t796)=τ:=beq_iff_eq.mpr c79
                   have c79b1:(t807 != t796)=φ:=bne_eq_false_iff_eq.mpr c79
                   clear c79
                   obtain rfl:=Option.some.inj H
                   go_wp2_with (((with_reducible refine δv (f:=20) rfl ?_);refine goesL_ (some 114) rfl rfl Tryz.func20 (by kernel_rfl) rfl #[.slice Ao61 t797.length co61,.int .i64 1] rfl (by (try simp only [δd,δe,δf]);rfl) ?_;(with_reducible refine (laws_heldPairS.calls kj59 _ _ t797 1 t807 _ ?side1 ?side2 A76.out).mono ?_);(case side1=>repeat (exact (ζg HO_13.out).2.2));(case side2=>exact (ζg HO_13.out).2.1);rintro e w80 ⟨rfl,hb⟩;refine ⟨_,rfl,?_⟩;have n0_:=ζa (ζh (by exact HO_13.out) hb);have n1_:=ζa (δr (by exact HB.out) hb);clear HO_13;clear HB;have HO_13:=n0_;have HB:=n1_;clear n0_ n1_;(try clear hb);(try clear hb2);(try clear hk);(try clear hi)))
                   go_ret
                   exact ⟨by rfl,by repeat ((with_reducible exact HB.out))⟩
                  ·
                   rw [if_neg c79] at H
                   have c79b0:(t807 == t796)=φ:=beq_eq_false_iff_ne.mpr c79
                   have c79b1:(t807 != t796)=τ:=bne_iff_ne.mpr c79
                   obtain rfl:=Option.some.inj H
                   go_wp2_with (((with_reducible refine δv (f:=20) rfl ?_);refine goesL_ (some 114) rfl rfl Tryz.func20 (by kernel_rfl) rfl #[.slice Ao61 t797.length co61,.int .i64 1] rfl (by (try simp only [δd,δe,δf]);rfl) ?_;(with_reducible refine (laws_heldPairS.calls kj59 _ _ t797 1 t807 _ ?side1 ?side2 A76.out).mono ?_);(case side1=>repeat (exact (ζg HO_13.out).2.2));(case side2=>exact (ζg HO_13.out).2.1);rintro e w81 ⟨rfl,hb⟩;refine ⟨_,rfl,?_⟩;have n0_:=ζa (ζh (by exact HO_13.out) hb);have n1_:=ζa (δr (by exact HB.out) hb);clear HO_13;clear HB;have HO_13:=n0_;have HB:=n1_;clear n0_ n1_;(try clear hb);(try clear hb2);(try clear hk);(try clear hi)))
                   go_ret
                   exact ⟨by rfl,by repeat ((with_reducible exact HB.out))⟩
             ·
              rw [if_neg c57] at H
              have c57b0:(t798 == t796)=φ:=beq_eq_false_iff_ne.mpr c57
              have c57b1:(t798 != t796)=τ:=bne_iff_ne.mpr c57
              obtain rfl:=Option.some.inj H
              obtain ⟨Ao82,co82,eo82⟩:=Kd.R_slice HO_13.out
              subst eo82
              go_wp2_with (first|((with_reducible refine δv (f:=19) rfl ?_);refine goesL_ (some 85) rfl rfl Tryz.func19 (by kernel_rfl) rfl #[.slice Ao82 t784.length co82,.int .i64 1] rfl (by (try simp only [δd,δe,δf]);rfl) ?_;(with_reducible refine (laws_markPairS.calls kj35 (fun k_=>some k_=(.slice Ao82 t784.length co82:Value).ownBlock) (.slice Ao82 t784.length co82) t784 1 t796 t797 w _ ?side1 ?side2 A51.out).mono ?_);(case side1=>repeat ((with_reducible exact HB.out)));(case side2=>exact Kd.R_tight rfl HO_13.out);rintro e w83 ⟨rfl,hy0,hb,hkp⟩;refine ⟨_,rfl,?_⟩;have n0_:=ζa (Kd.R_mono (ok':=fun k_=>some k_≠(.slice Ao82 t784.length co82:Value).ownBlock) (Kd.R_keptB (HO_10.out) hkp (fun k_ hk_ hs_=>(hk_) hs_)) (fun k_ hk_=>hk_.1));have n1_:=ζa (Kd.R_reok rfl hy0 (fun k_ e_=>HO_13.out.1 k_ e_));have n2_:=ζa (hb);clear HO_10;clear HO_13;clear HB;have HO_10:=n0_;have HO_13:=n1_;have HB:=n2_;clear n0_ n1_ n2_;(try clear hb);(try clear hkp);(try clear hy0))|((with_reducible refine δv (f:=20) rfl ?_);refine goesL_ (some 88) rfl rfl Tryz.func20 (by kernel_rfl) rfl #[.slice Ao82 t797.length co82,.int .i64 1] rfl (by (try simp only [δd,δe,δf]);first|(rw [show t797.length=t784.length from (ζg HO_13.out).1.symm] <;> rfl)) ?_;(with_reducible refine (laws_heldPairS.calls kj35 _ _ t797 1 t798 _ ?side1 ?side2 A52.out).mono ?_);(case side1=>repeat (exact (ζg HO_13.out).2.2));(case side2=>rw [show t797.length=t784.length from (ζg HO_13.out).1.symm];exact (ζg HO_13.out).2.1);rintro e w84 ⟨rfl,hb⟩;refine ⟨_,rfl,?_⟩;have n0_:=ζa (ζh (by exact HO_10.out) hb);have n1_:=ζa (ζh (by exact HO_13.out) hb);have n2_:=ζa (δr (by exact HB.out) hb);clear HO_10;clear HO_13;clear HB;have HO_10:=n0_;have HO_13:=n1_;have HB:=n2_;clear n0_ n1_ n2_;(try clear hb);(try clear hb2);(try clear hk);(try clear hi)))
              go_ret
              exact ⟨by rfl,by repeat ((with_reducible exact HB.out))⟩
        ·
         replace c34:=Bool.eq_false_iff.mpr c34
         subst c34
         have H1:(some φ)=some r:=by rw [if_neg (show ¬ (φ=τ) by decide)] at H;exact H
         clear H
         have H:=H1
         clear H1
         obtain rfl:=Option.some.inj H
         go_wp2_with (first|((with_reducible refine δv (f:=16) rfl ?_);refine goesL_ (some 64) rfl rfl Tryz.func16 (by kernel_rfl) rfl #[.slice A1 l1.length c1] rfl (by (try simp only [δd,δe,δf]);rfl) ?_;(with_reducible refine (laws_toPairS.calls kj14 _ _ l1 t789 _ ?side1 ?side2 A32.out).mono ?_);(case side1=>repeat (exact (Kd.C_below HR1.out HB.out)));(case side2=>exact HC1.out);rintro e w85 ⟨v790,rfl,ho0,hb⟩;refine ⟨_,rfl,?_⟩;have n0_:=ζa (Kd.R_elder' (by exact HO_10.out) (Kd.R_base ho0) hb);have n1_:=ζa (Kd.R_elder' (by exact HO_12.out) (Kd.R_base ho0) hb);have n2_:=ζa (Kd.R_elder' (by exact HO_13.out) (Kd.R_base ho0) hb);have n3_:=ζa (Kd.R_lower (Kd.R_new' (Kd.R_new' (Kd.R_new' ho0 (Kd.R_lt (by exact HO_10.out))) (Kd.R_lt (by exact HO_12.out))) (Kd.R_lt (by exact HO_13.out))) (δs (by exact HB.out)));have n4_:=ζa (δr (by exact HB.out) hb);clear HO_10;clear HO_12;clear HO_13;clear HB;have HO_10:=n0_;have HO_12:=n1_;have HO_13:=n2_;have HO791:=n3_;have HB:=n4_;clear n0_ n1_ n2_ n3_ n4_;(try clear hb);(try clear hb2);(try clear hk);(try clear hi);(try clear ho0);obtain ⟨Ao86,co86,eo86⟩:=Kd.R_slice HO791.out;subst eo86)|((with_reducible refine δv (f:=18) rfl ?_);refine goesL_ (some 65) rfl rfl Tryz.func18 (by kernel_rfl) rfl #[.slice Ao21 t781.length co21,.slice Ao86 t789.length co86] rfl (by (try simp only [δd,δe,δf]);rfl) ?_;(with_reducible refine (laws_eqPairS.calls kj14 _ _ t781 _ _ t789 φ _ ?side1 ?side2 ?side3 ?side4 A33.out).mono ?_);(case side1=>repeat (exact (ζg HO_12.out).2.2));(case side2=>exact (ζg HO_12.out).2.1);(case side3=>repeat (exact (ζg HO791.out).2.2));(case side4=>exact (ζg HO791.out).2.1);rintro e w87 ⟨rfl,hb⟩;refine ⟨_,rfl,?_⟩;have n0_:=ζa (ζh (by exact HO_10.out) hb);have n1_:=ζa (ζh (by exact HO_12.out) hb);have n2_:=ζa (ζh (by exact HO_13.out) hb);have n3_:=ζa (ζh (by exact HO791.out) hb);have n4_:=ζa (δr (by exact HB.out) hb);clear HO_10;clear HO_12;clear HO_13;clear HO791;clear HB;have HO_10:=n0_;have HO_12:=n1_;have HO_13:=n2_;have HO791:=n3_;have HB:=n4_;clear n0_ n1_ n2_ n3_ n4_;(try clear hb);(try clear hb2);(try clear hk);(try clear hi)))
         go_ret
         exact ⟨by rfl,by repeat ((with_reducible exact HB.out))⟩

end Go.Proofs.YtabmfhnhmoiljaaGreatDoor.Q

/- Plain arithmetic: products of two amounts in halves of nine digits; long division digit by digit. No program. -/
namespace Go.Proofs.YtabmfhnhmoiljaaGreatDoor.U
open Go Go.RowKit
set_option linter.unusedVariables false
set_option linter.unusedSimpArgs false

theorem wid {n : Int} (h0 : -9223372036854775808 ≤ n) (h1 : n ≤ 9223372036854775807) : wrap64 n = n := IntWalk.wrap64_in n ⟨h0, h1⟩
theorem tdiv_nn {a b : Int} (h : 0 ≤ a) : Int.tdiv a b = a / b := Int.tdiv_eq_ediv_of_nonneg h
theorem tmod_nn {a b : Int} (h : 0 ≤ a) : Int.tmod a b = a % b := Int.tmod_eq_emod_of_nonneg h
theorem u64w (n : Int) : IntKind.u64.wrap n = n % 18446744073709551616 := by simp [IntKind.wrap, IntKind.bits, IntKind.signed]
theorem u64id {n : Int} (h0 : 0 ≤ n) (h1 : n < 18446744073709551616) : IntKind.u64.wrap n = n := by rw [u64w]; exact Int.emod_eq_of_lt h0 h1

theorem mul_bd {x y X Y : Int} (hx : 0 ≤ x) (hx' : x ≤ X) (hy : 0 ≤ y) (hy' : y ≤ Y) : 0 ≤ x * y ∧ x * y ≤ X * Y :=
  ⟨Int.mul_nonneg hx hy, Int.mul_le_mul hx' hy' hy (Int.le_trans hx hx')⟩

theorem wide_eq (a b : Int) (ha : 0 ≤ a) (ha' : a ≤ 1000000000000000000) (hb : 0 ≤ b) (hb' : b ≤ 1000000000000000000) :
    a * b = (a / 1000000000) * (b / 1000000000) * 1000000000000000000 + ((a / 1000000000) * (b % 1000000000) + (a % 1000000000) * (b / 1000000000)) * 1000000000 + (a % 1000000000) * (b % 1000000000) := by
  have e1 : a = (a / 1000000000) * 1000000000 + a % 1000000000 := by omega
  have e2 : b = (b / 1000000000) * 1000000000 + b % 1000000000 := by omega
  generalize a / 1000000000 = x at *
  generalize a % 1000000000 = y at *
  generalize b / 1000000000 = z at *
  generalize b % 1000000000 = u at *
  subst e1 e2
  grind

/-- One digit more of a long division. -/
theorem digit_step (c T out rest low : Int) (hc : 1 ≤ c) (hT : 1 ≤ T) (hr : 0 ≤ rest) (hl : 0 ≤ low) :
    (out * 10 + (10 * rest + low / T % 10) / c) * T + ((10 * rest + low / T % 10) % c * T + low % T) / c = out * (10 * T) + (rest * (10 * T) + low % (10 * T)) / c := by
  have e1 : low % (10 * T) = low / T % 10 * T + low % T := by
    have h1 : low / (10 * T) = low / T / 10 := by rw [Int.mul_comm, Int.ediv_ediv_of_nonneg (by omega)]
    have h2 := Int.mul_ediv_add_emod low (10 * T)
    have h3 := Int.mul_ediv_add_emod low T
    have h4 := Int.mul_ediv_add_emod (low / T) 10
    rw [h1] at h2
    generalize low / T / 10 = p at *
    generalize low / T % 10 = d at *
    generalize low / T = m at *
    subst h4
    generalize low % T = e at *
    generalize low % (10 * T) = f at *
    grind
  have h5 := Int.mul_ediv_add_emod (10 * rest + low / T % 10) c
  generalize low / T % 10 = d at *
  generalize (10 * rest + d) / c = q at *
  generalize (10 * rest + d) % c = s at *
  have e2 : rest * (10 * T) + low % (10 * T) = c * (q * T) + (s * T + low % T) := by
    rw [e1]
    generalize low % T = e at *
    grind
  rw [e2, Int.mul_add_ediv_left _ _ (by omega)]
  grind

/-- Knuth's step: a digit that is guessed too great is told by the lower half. -/
theorem knuth_lower (Y yn1 yn0 u v q : Int) (hY : Y = yn1 * 4294967296 + yn0) (h0 : 0 ≤ yn0) (hv : 0 ≤ v) (hv' : v < 4294967296) (hq : 0 ≤ q) (h : q * Y ≤ u * 4294967296 + v) : q * yn1 ≤ u := by
  have h1 : q * Y = q * yn1 * 4294967296 + q * yn0 := by subst hY; grind
  have h2 : 0 ≤ q * yn0 := Int.mul_nonneg hq h0
  omega

end Go.Proofs.YtabmfhnhmoiljaaGreatDoor.U

/- A number's digits: the reference's are the library's. -/
namespace Go.Proofs.YtabmfhnhmoiljaaGreatDoor.U
open Go Go.RowKit Go.Proofs.YtabmfhnhmoiljaaGreatDoor.Q Go.Proofs.YtabmfhnhmoiljaaGreatDoorW.PrintWords Go.Proofs.YtabmfhnhmoiljaaGreatDoorW.PrintLast Go.Proofs.YtabmfhnhmoiljaaGreatDoorW.PrintMore
set_option linter.unusedVariables false
set_option linter.unusedSimpArgs false

def digV (u : Nat) : ByteArray := ⟨(Lib.decDigits u).toArray⟩
theorem one_digit (u : Nat) (h : u < 10) : strOfNums [(wrap64 (48 + (u : Int))) % 256] = ⟨#[UInt8.ofNat (48 + u)]⟩ := by
  rw [wid (by omega) (by omega)]
  have : ((48 + (u : Int)) % 256) = ((48 + u : Nat) : Int) := by omega
  rw [this]
  rfl
theorem digits_ev (u : Nat) (hu : u ≤ 1000000000000000000) : Ev (fun k => spec_l00Digits.f k (u : Int)) (digV u) := by
  induction u using Nat.strongRecOn with
  | _ u ih =>
    by_cases h : u < 10
    · refine Ev.step (fun k => ?_) (Ev.now _)
      rw [spec_l00Digits.f, if_neg (by omega), if_neg (by omega), if_pos (by omega), one_digit u h, digV, Lib.decDigits_one h]
    · have e1 : wrap64 (Int.tdiv (u : Int) 10) = ((u / 10 : Nat) : Int) := by rw [tdiv_nn (by omega), wid (by omega) (by omega)]; omega
      have e2 : Int.tmod (u : Int) 10 = ((u % 10 : Nat) : Int) := by rw [tmod_nn (by omega)]; omega
      have hs : (digV (u / 10)).size ≤ u := by
        show (Lib.decDigits (u / 10)).toArray.size ≤ u
        rw [List.size_toArray, Lib.decDigits_length]
        have hn : ∀ v : Nat, 1 ≤ v → Lib.nDigits v ≤ v := by
          intro v
          induction v using Nat.strongRecOn with
          | _ v ihv =>
            intro h1
            rw [Lib.nDigits]
            split
            · exact h1
            · have := ihv (v / 10) (by omega) (by omega); omega
        have := hn (u / 10) (by omega)
        omega
      refine Ev.step (f := fun k => (spec_l00Digits.f k ((u / 10 : Nat) : Int)).bind fun t => if t.size + 1 ≤ 9223372036854775807 then some (t ++ (⟨#[UInt8.ofNat (48 + u % 10)]⟩ : ByteArray)) else none) (fun k => ?_) ?_
      · rw [spec_l00Digits.f, if_neg (by omega), if_neg (by omega), if_neg (by omega), e1, e2]
        simp only [Option.bind_some, one_digit (u % 10) (by omega)]
        rfl
      · refine Ev.bind (ih (u / 10) (by omega) (by omega)) ?_
        simp only [if_pos (show (digV (u / 10)).size + 1 ≤ 9223372036854775807 by omega)]
        have : digV (u / 10) ++ (⟨#[UInt8.ofNat (48 + u % 10)]⟩ : ByteArray) = digV u := by
          unfold digV
          conv => rhs; rw [Lib.decDigits, dif_neg h]
          apply ByteArray.ext
          simp
        rw [this]
        exact Ev.now _
theorem itoa_eq (n : Int) (h : 0 ≤ n) : (⟨(Lib.itoa n).toArray⟩ : ByteArray) = digV n.toNat := by
  unfold Lib.itoa digV
  rw [if_neg (by omega)]
end Go.Proofs.YtabmfhnhmoiljaaGreatDoor.U
