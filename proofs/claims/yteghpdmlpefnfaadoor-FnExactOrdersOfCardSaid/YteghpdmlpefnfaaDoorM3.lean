/- Parts of the proof: what single Go functions compute, each with its walk, and plain laws over these. -/
import Derived.Test.YteghpdmlpefnfaaDoorM0
import Derived.Test.YteghpdmlpefnfaaDoorM2
import Derived.Test.YteghpdmlpefnfaaDoorM1
namespace Go.Proofs.YteghpdmlpefnfaaDoor.Q
open Go.RowKit Go.Proofs.YteghpdmlpefnfaaDoorW.PrintWords Go.Proofs.YteghpdmlpefnfaaDoorW.PrintLast Go.Proofs.YteghpdmlpefnfaaDoorW.PrintMore
open Go.Proofs.YteghpdmlpefnfaaDoorW.PrintWords.Aside0 renaming mk → ζa
open Go.Proofs.YteghpdmlpefnfaaDoorW.PrintWords renaming gate_dst → δx, box_event → δz, below_step → δr, below_alloc → δk, pw_below_drewN → δi, below_drew1 → δj, below_size → δs, gate_callee → δv, below_set → δq, blk_drewN → δn, blk_drew → δp, blk_alloc → δo, blk_cell → δl, blk_frozen → δm, blk_put → δw, cell_far → δt, add_block → δu
open List renaming map_toArray → δd, map_cons → δe, map_nil → δf, length_drop → δg, length_take → δh, setIfInBounds_toArray → δa, set_cons_zero → δb, set_cons_succ → δc
open Go.Act renaming put → ζl
open Go.Proofs.YteghpdmlpefnfaaDoorW.PrintWords.Kd renaming R_alloc → ζd, R_drewN → ζc, R_drew → ζe, R_reads' → ζg, R_below → ζh, own_blk → ζb, R_ne → ζf, R_far → ζi
open Go.Proofs.YteghpdmlpefnfaaDoorW.PrintLast renaming pure_ → ζk, any_of → ζj
open Bool renaming true → τ, false → φ
attribute [local go_sem] max2_int min2_int max_two min_two max_three min_three max_four min_four   -- for this text's walks alone
set_option linter.unusedVariables false
set_option linter.unusedSimpArgs false

/-! ### impl_orderOf: function 97 -/
def impl_orderOf.j0:Nat→ByteArray→ByteArray→List ByteArray→Bool→Option (ByteArray × ByteArray × Int × Int × Int × Bool × Bool)
 | 0,_,_,_,_=>none
 | k+1,x0,x1,x6,x20=>if x20=τ then (some ((⟨#[]⟩:ByteArray),(⟨#[]⟩:ByteArray),0,0,0,φ,φ)) else (if 0<(x6.length:Int) then (if 4<(x6.length:Int) then (if 1<(x6.length:Int) then ((impl_readAmount.f (rdOf ByteArray.empty x6 1)).bind fun bt429=>(if 2<(x6.length:Int) then ((impl_readAmount.f (rdOf ByteArray.empty x6 2)).bind fun bt432=>(if 3<(x6.length:Int) then ((impl_readAmount.f (rdOf ByteArray.empty x6 3)).bind fun bt435=>((impl_OrderOK.f k x0 (rdOf ByteArray.empty x6 0) bt429.1 bt432.1 bt435.1 ((rdOf ByteArray.empty x6 4).toList == ([111,112,101,110]:List UInt8))).bind fun t437=>(if t437=τ then ((impl_Order_value.f k x0 (rdOf ByteArray.empty x6 0) bt429.1 bt432.1 bt435.1 ((rdOf ByteArray.empty x6 4).toList == ([111,112,101,110]:List UInt8))).bind fun t438=>(some (x0,rdOf ByteArray.empty x6 0,bt429.1,bt432.1,bt435.1,((rdOf ByteArray.empty x6 4).toList == ([111,112,101,110]:List UInt8)),(t438.toList == x1.toList)))) else (some (x0,rdOf ByteArray.empty x6 0,bt429.1,bt432.1,bt435.1,((rdOf ByteArray.empty x6 4).toList == ([111,112,101,110]:List UInt8)),φ))))) else (none))) else (none))) else (none)) else (none)) else (none))
def impl_orderOf.f (k:Nat) (a0:ByteArray) (a1:ByteArray):Option (ByteArray × ByteArray × Int × Int × Int × Bool × Bool):=(impl_readFields.f k a1).bind fun bt421=>(if bt421.2=τ then (impl_orderOf.j0 k a0 a1 bt421.1 ((bt421.1.length:Int) != 5)) else (impl_orderOf.j0 k a0 a1 bt421.1 τ))
def impl_orderOf.T4:Bool × List (List Nat × List Nat):=(τ,[([],[]),([],[]),([1],[1]),([2],[2]),([],[]),([4],[4]),([5],[5]),([6],[6]),([0,3,7],[0,3,7]),([],[]),([9,8,0,1,2,3,4,5,6,7,8,9],[8,9])])
def impl_orderOf.B4:List Nat:=[0,0,2,6,0,16,48,112,255,0,1023]
theorem impl_orderOf.tab4:rtab .any (opsOf Tryd.f97 4)=impl_orderOf.T4:=by kernel_rfl
theorem impl_orderOf.bits4:waitsOk impl_orderOf.T4.2 impl_orderOf.B4=τ:=by kernel_rfl
def impl_orderOf.T8:Bool × List (List Nat × List Nat):=(τ,[([],[]),([],[]),([1],[1]),([2,2],[2]),([3],[3]),([4,3,3],[3,4]),([3],[3]),([5,6,3],[3,5,6]),([3,7],[3,7]),([0,5,0],[0]),([8,9,0,1,2,3,4,5,6,7,8,9],[8])])
def impl_orderOf.B8:List Nat:=[0,0,2,6,14,30,14,126,254,63,1023]
theorem impl_orderOf.tab8:rtab .any (opsOf Tryd.f97 8)=impl_orderOf.T8:=by kernel_rfl
theorem impl_orderOf.bits8:waitsOk impl_orderOf.T8.2 impl_orderOf.B8=τ:=by kernel_rfl
set_option maxHeartbeats 8000000 in
set_option maxRecDepth 100000 in
theorem impl_orderOf.calls (k:Nat) (a0:ByteArray) (a1:ByteArray) (r1:ByteArray) (r2:ByteArray) (r3:Int) (r4:Int) (r5:Int) (r6:Bool) (r7:Bool) (w:World) (hT0:TabsOK w) (h:impl_orderOf.f k a0 a1=some (r1,r2,r3,r4,r5,r6,r7)) :
  Calls Tryd.prog 97 #[.string a0,.string a1] w fun e w'=>e = .returned (.tuple #[.agg #[.string r1,.string r2,.int .i64 r3,.int .i64 r4,.int .i64 r5,.bool r6],.bool r7])∧Below w.heap.size w w':=by
 have HT0:=ζa hT0
 clear hT0
 have hu42:=Tryd.underlying42
 have HB:=ζa (Below.refl w.heap.size w)
 have H:((impl_readFields.f k a1).bind fun bt421=>(if bt421.2=τ then (impl_orderOf.j0 k a0 a1 bt421.1 ((bt421.1.length:Int) != 5)) else (impl_orderOf.j0 k a0 a1 bt421.1 τ)))=some (r1,r2,r3,r4,r5,r6,r7):=h
 clear h
 replace H:=Option.bind_eq_some_iff.mp H
 obtain ⟨⟨t421,t422⟩,A30,H⟩:=H
 replace H:(if t422=τ then (impl_orderOf.j0 k a0 a1 t421 ((t421.length:Int) != 5)) else (impl_orderOf.j0 k a0 a1 t421 τ))=some (r1,r2,r3,r4,r5,r6,r7):=H
 have A3:=ζa A30
 clear A30
 have HC4:=ζa H
 clear H
 go_enter Tryd.func97,Tryd.ntmps97
 go_upto_region 2 with (first|((with_reducible refine δx (N:=4) rfl ?_);(try (refine gate_guard (by rfl) ?_;dsimp only));refine δz ?hg (N:=4) ?hd (cs:=#[.string (⟨#[]⟩:ByteArray),.string (⟨#[]⟩:ByteArray),.int .i64 0,.int .i64 0,.int .i64 0,.bool φ]) (t:=42) ?hr ?_;(case hd=>rfl);(case hg=>rfl);(case hr=>first|(go_simp;done)|(go_simp;rfl));intro gb420 hg w5 hbox hb;have n0_:=ζa (δr (by repeat (first|(with_reducible first|exact HB.out|apply δk|apply δi|apply δj)|exact HB.out)) hb);have n1_:=ζa (hbox);have n2_:=ζa ((by rw [hg];exact (δs (by repeat (first|(with_reducible first|exact HB.out|apply δk|apply δi|apply δj)|exact HB.out))):w.heap.size≤gb420));have n3_:=ζa ((by rw [hg];exact (δs (by repeat (first|(with_reducible first|exact HB.out|apply δk|apply δi|apply δj)|exact HB.out))):w.heap.size≤gb420));clear HB;have HB:=n0_;have BK420:=n1_;have GW420:=n2_;have GE420:=n3_;clear n0_ n1_ n2_ n3_;clear hb hbox hg)|((with_reducible refine δv (f:=89) rfl ?_);refine goesL_ (some 11) rfl rfl Tryd.func89 (by kernel_rfl) rfl #[.string a1] rfl (by (try simp only [δd,δe,δf]);first|done|rfl|(simp only [δg,δh];rfl)) ?_;(with_reducible refine (impl_readFields.calls k a1 t421 t422 _ A3.out).mono ?_);rintro e w6 ⟨v423,rfl,ho0,hb⟩;refine ⟨_,rfl,?_⟩;have n0_:=ζa (Kd.R_lower ho0 (δs (by repeat (first|(with_reducible first|exact HB.out|apply δk|apply δi|apply δj|refine δq ?_ GE420.out)|exact HB.out))));have n1_:=ζa (blk_below (g:=gb420) (o:=.cells #[.string (⟨#[]⟩:ByteArray),.string (⟨#[]⟩:ByteArray),.int .i64 0,.int .i64 0,.int .i64 0,.bool φ] 42 (0,0)) (by (with_reducible repeat (first|refine δn ?_ _|refine δp ?_|refine δo ?_ _));exact BK420.out) hb);have n2_:=ζa (δr (by repeat (first|(with_reducible first|exact HB.out|apply δk|apply δi|apply δj|refine δq ?_ GE420.out)|exact HB.out)) hb);clear BK420;clear HB;have HO424:=n0_;have BK420:=n1_;have HB:=n2_;clear n0_ n1_ n2_;(try clear hb);(try clear hb2);(try clear hk);(try clear hi);(try clear ho0)))
 (try simp only [ζl,δa,δb,δc])
 go_cut [20] (fun v20 wc => ∃ (kq:Nat) (x20_3:Bool),v20 = .bool x20_3∧Aside0 (impl_orderOf.j0 kq a0 a1 t421 x20_3=some (r1,r2,r3,r4,r5,r6,r7))∧Aside0 (kq≤k)∧Aside0 (Kd.R Kd.string 9 wc w.heap.size (fun _=>True) v423 t421)∧Aside0 (wc.heap[gb420]? = some (.cells #[.string (⟨#[]⟩:ByteArray),.string (⟨#[]⟩:ByteArray),.int .i64 0,.int .i64 0,.int .i64 0,.bool φ] 42 (0,0)))∧Aside0 (Below w.heap.size w wc))
 case first =>
  have H:=HC4.out
  clear HC4
  by_cases c7:t422=τ
  ·
   subst c7
   have H1:(impl_orderOf.j0 k a0 a1 t421 ((t421.length:Int) != 5))=some (r1,r2,r3,r4,r5,r6,r7):=by rw [if_pos rfl] at H;exact H
   clear H
   have H:=H1
   clear H1
   have H':=ζa H
   clear H
   obtain ⟨Ao8,co8,eo8⟩:=Kd.R_slice HO424.out
   subst eo8
   go_wp2
   go_meet
   case rel=>exact ⟨_,(((t421.length:Int) != 5)),(by first|rfl|(simp;done)|(simp [*];done)),H',⟨by first|omega|exact Nat.le_refl _⟩,⟨by (with_reducible repeat (first|apply ζd|apply ζc|apply ζe));exact HO424.out⟩,⟨by (with_reducible repeat (first|refine δn ?_ _|refine δp ?_|refine δo ?_ _));exact BK420.out⟩,⟨by repeat (first|(with_reducible first|exact HB.out|apply δk|apply δi|apply δj|refine δq ?_ GE420.out)|exact HB.out)⟩⟩
  ·
   replace c7:=Bool.eq_false_iff.mpr c7
   subst c7
   have H1:(impl_orderOf.j0 k a0 a1 t421 τ)=some (r1,r2,r3,r4,r5,r6,r7):=by rw [if_neg (show ¬ (φ=τ) by decide)] at H;exact H
   clear H
   have H:=H1
   clear H1
   have H':=ζa H
   clear H
   go_wp2
   go_meet
   case rel=>exact ⟨_,(τ),(by first|rfl|(simp;done)|(simp [*];done)),H',⟨by first|omega|exact Nat.le_refl _⟩,⟨by (with_reducible repeat (first|apply ζd|apply ζc|apply ζe));exact HO424.out⟩,⟨by (with_reducible repeat (first|refine δn ?_ _|refine δp ?_|refine δo ?_ _));exact BK420.out⟩,⟨by repeat (first|(with_reducible first|exact HB.out|apply δk|apply δi|apply δj|refine δq ?_ GE420.out)|exact HB.out)⟩⟩
 case rest =>
  clear HC4
  try clear p2
  try clear c7
  try clear c8
  obtain ⟨kq,x20_3,rfl,HA,HJ3,HO_6,BK420,HB⟩:=hcut
  cases kq with
  | zero=>exact absurd HA.out (by simp [impl_orderOf.j0])
  | succ kj3 =>
   have H:=HA.out
   clear HA
   simp only [impl_orderOf.j0] at H
   by_cases c9:x20_3=τ
   ·
    subst c9
    have H1:(some ((⟨#[]⟩:ByteArray),(⟨#[]⟩:ByteArray),0,0,0,φ,φ))=some (r1,r2,r3,r4,r5,r6,r7):=by rw [if_pos rfl] at H;exact H
    clear H
    have H:=H1
    clear H1
    simp only [Option.some.injEq,Prod.mk.injEq] at H
    obtain ⟨rfl,rfl,rfl,rfl,rfl,rfl,rfl⟩:=H
    have hcz10_0:wc.cell? ⟨gb420,0,none⟩=some (.string (⟨#[]⟩:ByteArray)):=(δl BK420.out 0).trans rfl
    have hcz10_1:wc.cell? ⟨gb420,1,none⟩=some (.string (⟨#[]⟩:ByteArray)):=(δl BK420.out 1).trans rfl
    have hcz10_2:wc.cell? ⟨gb420,2,none⟩=some (.int .i64 0):=(δl BK420.out 2).trans rfl
    have hcz10_3:wc.cell? ⟨gb420,3,none⟩=some (.int .i64 0):=(δl BK420.out 3).trans rfl
    have hcz10_4:wc.cell? ⟨gb420,4,none⟩=some (.int .i64 0):=(δl BK420.out 4).trans rfl
    have hcz10_5:wc.cell? ⟨gb420,5,none⟩=some (.bool φ):=(δl BK420.out 5).trans rfl
    have hfz10_0:=δm BK420.out 0
    have hfz10_1:=δm BK420.out 1
    have hfz10_2:=δm BK420.out 2
    have hfz10_3:=δm BK420.out 3
    have hfz10_4:=δm BK420.out 4
    have hfz10_5:=δm BK420.out 5
    go_wp2
    refine bodyPost_ret (results_ct rfl _ _ gb420 42 #[.string (⟨#[]⟩:ByteArray),.string (⟨#[]⟩:ByteArray),.int .i64 0,.int .i64 0,.int .i64 0,.bool φ] (0,0) _ rfl (by (with_reducible repeat (first|refine δn ?_ _|refine δp ?_|refine δo ?_ _));refine δw (cs:=#[.string (⟨#[]⟩:ByteArray),.string (⟨#[]⟩:ByteArray),.int .i64 0,.int .i64 0,.int .i64 0,.bool φ]) ?_ 5 _ rfl;(with_reducible repeat (first|refine δn ?_ _|refine δp ?_|refine δo ?_ _));refine δw (cs:=#[.string (⟨#[]⟩:ByteArray),.string (⟨#[]⟩:ByteArray),.int .i64 0,.int .i64 0,.int .i64 0,.bool φ]) ?_ 4 _ rfl;(with_reducible repeat (first|refine δn ?_ _|refine δp ?_|refine δo ?_ _));refine δw (cs:=#[.string (⟨#[]⟩:ByteArray),.string (⟨#[]⟩:ByteArray),.int .i64 0,.int .i64 0,.int .i64 0,.bool φ]) ?_ 3 _ rfl;(with_reducible repeat (first|refine δn ?_ _|refine δp ?_|refine δo ?_ _));refine δw (cs:=#[.string (⟨#[]⟩:ByteArray),.string (⟨#[]⟩:ByteArray),.int .i64 0,.int .i64 0,.int .i64 0,.bool φ]) ?_ 2 _ rfl;(with_reducible repeat (first|refine δn ?_ _|refine δp ?_|refine δo ?_ _));refine δw (cs:=#[.string (⟨#[]⟩:ByteArray),.string (⟨#[]⟩:ByteArray),.int .i64 0,.int .i64 0,.int .i64 0,.bool φ]) ?_ 1 _ rfl;(with_reducible repeat (first|refine δn ?_ _|refine δp ?_|refine δo ?_ _));refine δw (cs:=#[.string (⟨#[]⟩:ByteArray),.string (⟨#[]⟩:ByteArray),.int .i64 0,.int .i64 0,.int .i64 0,.bool φ]) ?_ 0 _ rfl;(with_reducible repeat (first|refine δn ?_ _|refine δp ?_|refine δo ?_ _));exact BK420.out) Tryd.underlying42 rfl (by kernel_rfl)) rfl ?_
    exact ⟨by first|rfl|(simp [errW_none,errW_some] <;> rfl)|(simp [*,errW_none,errW_some] <;> rfl),by repeat (first|(with_reducible first|exact HB.out|apply δk|apply δi|apply δj|refine δq ?_ GE420.out)|exact HB.out)⟩
   ·
    replace c9:=Bool.eq_false_iff.mpr c9
    subst c9
    have H1:(if 0<(t421.length:Int) then (if 4<(t421.length:Int) then (if 1<(t421.length:Int) then ((impl_readAmount.f (rdOf ByteArray.empty t421 1)).bind fun bt429=>(if 2<(t421.length:Int) then ((impl_readAmount.f (rdOf ByteArray.empty t421 2)).bind fun bt432=>(if 3<(t421.length:Int) then ((impl_readAmount.f (rdOf ByteArray.empty t421 3)).bind fun bt435=>((impl_OrderOK.f kj3 a0 (rdOf ByteArray.empty t421 0) bt429.1 bt432.1 bt435.1 ((rdOf ByteArray.empty t421 4).toList == ([111,112,101,110]:List UInt8))).bind fun t437=>(if t437=τ then ((impl_Order_value.f kj3 a0 (rdOf ByteArray.empty t421 0) bt429.1 bt432.1 bt435.1 ((rdOf ByteArray.empty t421 4).toList == ([111,112,101,110]:List UInt8))).bind fun t438=>(some (a0,rdOf ByteArray.empty t421 0,bt429.1,bt432.1,bt435.1,((rdOf ByteArray.empty t421 4).toList == ([111,112,101,110]:List UInt8)),(t438.toList == a1.toList)))) else (some (a0,rdOf ByteArray.empty t421 0,bt429.1,bt432.1,bt435.1,((rdOf ByteArray.empty t421 4).toList == ([111,112,101,110]:List UInt8)),φ))))) else (none))) else (none))) else (none)) else (none)) else (none))=some (r1,r2,r3,r4,r5,r6,r7):=by rw [if_neg (show ¬ (φ=τ) by decide)] at H;exact H
    clear H
    have H:=H1
    clear H1
    by_cases c11:0<(t421.length:Int)
    ·
     rw [if_pos c11] at H
     have c11b0:decide (0<(t421.length:Int))=τ:=decide_eq_true c11
     have c11b1:decide (0<t421.length)=τ:=decide_eq_true (by omega)
     clear c11
     by_cases c12:4<(t421.length:Int)
     ·
      rw [if_pos c12] at H
      have c12b0:decide (4<(t421.length:Int))=τ:=decide_eq_true c12
      have c12b1:decide (4<t421.length)=τ:=decide_eq_true (by omega)
      clear c12
      by_cases c13:1<(t421.length:Int)
      ·
       rw [if_pos c13] at H
       have c13b0:decide (1<(t421.length:Int))=τ:=decide_eq_true c13
       have c13b1:decide (1<t421.length)=τ:=decide_eq_true (by omega)
       clear c13
       replace H:=Option.bind_eq_some_iff.mp H
       obtain ⟨⟨t429,t430⟩,A140,H⟩:=H
       replace H:(if 2<(t421.length:Int) then ((impl_readAmount.f (rdOf ByteArray.empty t421 2)).bind fun bt432=>(if 3<(t421.length:Int) then ((impl_readAmount.f (rdOf ByteArray.empty t421 3)).bind fun bt435=>((impl_OrderOK.f kj3 a0 (rdOf ByteArray.empty t421 0) t429 bt432.1 bt435.1 ((rdOf ByteArray.empty t421 4).toList == ([111,112,101,110]:List UInt8))).bind fun t437=>(if t437=τ then ((impl_Order_value.f kj3 a0 (rdOf ByteArray.empty t421 0) t429 bt432.1 bt435.1 ((rdOf ByteArray.empty t421 4).toList == ([111,112,101,110]:List UInt8))).bind fun t438=>(some (a0,rdOf ByteArray.empty t421 0,t429,bt432.1,bt435.1,((rdOf ByteArray.empty t421 4).toList == ([111,112,101,110]:List UInt8)),(t438.toList == a1.toList)))) else (some (a0,rdOf ByteArray.empty t421 0,t429,bt432.1,bt435.1,((rdOf ByteArray.empty t421 4).toList == ([111,112,101,110]:List UInt8)),φ))))) else (none))) else (none))=some (r1,r2,r3,r4,r5,r6,r7):=H
       have A14:=ζa A140
       clear A140
       by_cases c15:2<(t421.length:Int)
       ·
        rw [if_pos c15] at H
        have c15b0:decide (2<(t421.length:Int))=τ:=decide_eq_true c15
        have c15b1:decide (2<t421.length)=τ:=decide_eq_true (by omega)
        clear c15
        replace H:=Option.bind_eq_some_iff.mp H
        obtain ⟨⟨t432,t433⟩,A160,H⟩:=H
        replace H:(if 3<(t421.length:Int) then ((impl_readAmount.f (rdOf ByteArray.empty t421 3)).bind fun bt435=>((impl_OrderOK.f kj3 a0 (rdOf ByteArray.empty t421 0) t429 t432 bt435.1 ((rdOf ByteArray.empty t421 4).toList == ([111,112,101,110]:List UInt8))).bind fun t437=>(if t437=τ then ((impl_Order_value.f kj3 a0 (rdOf ByteArray.empty t421 0) t429 t432 bt435.1 ((rdOf ByteArray.empty t421 4).toList == ([111,112,101,110]:List UInt8))).bind fun t438=>(some (a0,rdOf ByteArray.empty t421 0,t429,t432,bt435.1,((rdOf ByteArray.empty t421 4).toList == ([111,112,101,110]:List UInt8)),(t438.toList == a1.toList)))) else (some (a0,rdOf ByteArray.empty t421 0,t429,t432,bt435.1,((rdOf ByteArray.empty t421 4).toList == ([111,112,101,110]:List UInt8)),φ))))) else (none))=some (r1,r2,r3,r4,r5,r6,r7):=H
        have A16:=ζa A160
        clear A160
        by_cases c17:3<(t421.length:Int)
        ·
         rw [if_pos c17] at H
         have c17b0:decide (3<(t421.length:Int))=τ:=decide_eq_true c17
         have c17b1:decide (3<t421.length)=τ:=decide_eq_true (by omega)
         clear c17
         replace H:=Option.bind_eq_some_iff.mp H
         obtain ⟨⟨t435,t436⟩,A180,H⟩:=H
         replace H:((impl_OrderOK.f kj3 a0 (rdOf ByteArray.empty t421 0) t429 t432 t435 ((rdOf ByteArray.empty t421 4).toList == ([111,112,101,110]:List UInt8))).bind fun t437=>(if t437=τ then ((impl_Order_value.f kj3 a0 (rdOf ByteArray.empty t421 0) t429 t432 t435 ((rdOf ByteArray.empty t421 4).toList == ([111,112,101,110]:List UInt8))).bind fun t438=>(some (a0,rdOf ByteArray.empty t421 0,t429,t432,t435,((rdOf ByteArray.empty t421 4).toList == ([111,112,101,110]:List UInt8)),(t438.toList == a1.toList)))) else (some (a0,rdOf ByteArray.empty t421 0,t429,t432,t435,((rdOf ByteArray.empty t421 4).toList == ([111,112,101,110]:List UInt8)),φ))))=some (r1,r2,r3,r4,r5,r6,r7):=H
         have A18:=ζa A180
         clear A180
         replace H:=Option.bind_eq_some_iff.mp H
         obtain ⟨t437,A190,H⟩:=H
         replace H:(if t437=τ then ((impl_Order_value.f kj3 a0 (rdOf ByteArray.empty t421 0) t429 t432 t435 ((rdOf ByteArray.empty t421 4).toList == ([111,112,101,110]:List UInt8))).bind fun t438=>(some (a0,rdOf ByteArray.empty t421 0,t429,t432,t435,((rdOf ByteArray.empty t421 4).toList == ([111,112,101,110]:List UInt8)),(t438.toList == a1.toList)))) else (some (a0,rdOf ByteArray.empty t421 0,t429,t432,t435,((rdOf ByteArray.empty t421 4).toList == ([111,112,101,110]:List UInt8)),φ)))=some (r1,r2,r3,r4,r5,r6,r7):=H
         have A19:=ζa A190
         clear A190
         by_cases c20:t437=τ
         ·
          subst c20
          have H1:((impl_Order_value.f kj3 a0 (rdOf ByteArray.empty t421 0) t429 t432 t435 ((rdOf ByteArray.empty t421 4).toList == ([111,112,101,110]:List UInt8))).bind fun t438=>(some (a0,rdOf ByteArray.empty t421 0,t429,t432,t435,((rdOf ByteArray.empty t421 4).toList == ([111,112,101,110]:List UInt8)),(t438.toList == a1.toList))))=some (r1,r2,r3,r4,r5,r6,r7):=by rw [if_pos rfl] at H;exact H
          clear H
          have H:=H1
          clear H1
          replace H:=Option.bind_eq_some_iff.mp H
          obtain ⟨t438,A210,H⟩:=H
          replace H:(some (a0,rdOf ByteArray.empty t421 0,t429,t432,t435,((rdOf ByteArray.empty t421 4).toList == ([111,112,101,110]:List UInt8)),(t438.toList == a1.toList)))=some (r1,r2,r3,r4,r5,r6,r7):=H
          have A21:=ζa A210
          clear A210
          simp only [Option.some.injEq,Prod.mk.injEq] at H
          obtain ⟨rfl,rfl,rfl,rfl,rfl,rfl,rfl⟩:=H
          try go_wp2
          have n0_:=ζa (ζe HO_6.out)
          have n1_:=ζa (δp BK420.out)
          have n2_:=ζa (δj HB.out)
          clear HO_6
          clear BK420
          clear HB
          have HO_6:=n0_
          have BK420:=n1_
          have HB:=n2_
          clear n0_ n1_ n2_
          obtain ⟨Ao23,co23,eo23⟩:=Kd.R_slice HO_6.out
          (first|subst eo23|(injection eo23 with f1_ f2_ f3_;have f4_:=f1_.symm;have f5_:=f3_.symm;clear f1_ f2_ f3_;subst f4_;subst f5_))
          have p425:0≤(0:Int):=(by omega)
          have q425:0<(t421.length:Int):=of_decide_eq_true (by first|(with_reducible assumption)|assumption)
          obtain ⟨ad425,e425,hx425_0⟩:=Kd.at_string (ζg HO_6.out).2.2 0 p425 q425
          cases e425
          have qi425:(0<t421.length)=True:=eq_true (by omega)
          (try rw [show ((0:Int)).toNat=0 from rfl] at hx425_0)
          (try rw [Addr.add_zero'] at hx425_0)
          replace p425:=eq_true p425
          replace q425:=eq_true q425
          have p426:0≤(4:Int):=(by omega)
          have q426:4<(t421.length:Int):=of_decide_eq_true (by first|(with_reducible assumption)|assumption)
          obtain ⟨ad426,e426,hx426_0⟩:=Kd.at_string (ζg HO_6.out).2.2 4 p426 q426
          obtain rfl:ad425=ad426:=(by injection e426)
          (try simp only [show (4:Int).toNat=4 from rfl,Nat.reduceMul,Nat.reduceEqDiff,Go.Addr.add,↓reduceIte] at hx426_0)
          have qi426:(4<t421.length)=True:=eq_true (by omega)
          (try rw [show ((4:Int)).toNat=4 from rfl] at hx426_0)
          replace p426:=eq_true p426
          replace q426:=eq_true q426
          refine start_ (n:=11) (S:=fun w'=>w'.cell? ad425=some (.string (rdOf ByteArray.empty t421 0))∧w'.cell? ⟨ad425.block,ad425.off+4,none⟩=some (.string (rdOf ByteArray.empty t421 4))) (ds:=[]) #[φ,φ,φ,φ,φ,φ,φ,φ,φ,φ,φ] (by kernel_rfl) rfl rfl ⟨hx425_0,hx426_0⟩ (fun hHeld => ?_);refine with_tabW impl_orderOf.tab4 impl_orderOf.bits4 (fun HT_ HW_ => ?_)
          generalize wc.drew=w22 at HO_6 BK420 HB hx425_0 hx426_0 hHeld ⊢
          refine ζk (i:=0) (N:=some 22) (v:=?_) (a':=?_) #[τ,φ,φ,φ,φ,φ,φ,φ,φ,φ,φ] rfl rfl (ζj HT_.out (by kernel_rfl)) (fun _ _ _ h=>h) (Or.inl ⟨by rfl,?_⟩) ?_ ?_
          rotate_left
          · intro w';go_simp;with_reducible rfl
          rotate_left
          · simp only [ζl,δa,δb,δc,i64_w,i32_w];rfl
          refine ζk (i:=1) (N:=some 23) (v:=?_) (a':=?_) #[τ,τ,φ,φ,φ,φ,φ,φ,φ,φ,φ] rfl rfl (ζj HT_.out (by kernel_rfl)) (fun _ _ _ h=>h) (Or.inl ⟨by rfl,?_⟩) ?_ ?_
          rotate_left
          · intro w';go_simp;with_reducible rfl
          rotate_left
          · simp only [ζl,δa,δb,δc,i64_w,i32_w];rfl
          refine ζk (i:=2) (N:=some 24) (v:=?_) (a':=?_) #[τ,τ,τ,φ,φ,φ,φ,φ,φ,φ,φ] rfl rfl (ζj HT_.out (by kernel_rfl)) (fun _ _ _ h=>h) (Or.inl ⟨by rfl,?_⟩) ?_ ?_
          rotate_left
          · intro w';go_simp;with_reducible rfl
          rotate_left
          · simp only [ζl,δa,δb,δc,i64_w,i32_w];rfl
          refine ζk (i:=4) (N:=some 26) (v:=?_) (a':=?_) #[τ,τ,τ,φ,τ,φ,φ,φ,φ,φ,φ] rfl rfl (ζj HT_.out (by kernel_rfl)) (fun _ _ _ h=>h) (Or.inl ⟨by rfl,?_⟩) ?_ ?_
          rotate_left
          · intro w';go_simp;with_reducible rfl
          rotate_left
          · simp only [ζl,δa,δb,δc,i64_w,i32_w];rfl
          refine ζk (i:=5) (N:=some 27) (v:=?_) (a':=?_) #[τ,τ,τ,φ,τ,τ,φ,φ,φ,φ,φ] rfl rfl (ζj HT_.out (by kernel_rfl)) (fun _ _ _ h=>h) (Or.inl ⟨by rfl,?_⟩) ?_ ?_
          rotate_left
          · intro w';go_simp;with_reducible rfl
          rotate_left
          · simp only [ζl,δa,δb,δc,i64_w,i32_w];rfl
          refine take_ (i:=3) (N:=some 25) (v:=?_) (a':=?_) #[τ,τ,τ,τ,τ,τ,φ,φ,φ,φ,φ] rfl rfl (take_ofW HT_.out HW_.out (by kernel_rfl)) (fun _ _ _ h=>h) (Or.inl ⟨by rfl,?_⟩) hHeld ?_ ?_
          rotate_left
          · rintro w' ⟨s0,s1⟩;go_simp;with_reducible rfl
          rotate_left
          · simp only [ζl,δa,δb,δc,i64_w,i32_w];rfl
          refine take_ (i:=6) (N:=some 28) (v:=?_) (a':=?_) #[τ,τ,τ,τ,τ,τ,τ,φ,φ,φ,φ] rfl rfl (take_ofW HT_.out HW_.out (by kernel_rfl)) (fun _ _ _ h=>h) (Or.inl ⟨by rfl,?_⟩) hHeld ?_ ?_
          rotate_left
          · rintro w' ⟨s0,s1⟩;go_simp;with_reducible rfl
          rotate_left
          · simp only [ζl,δa,δb,δc,i64_w,i32_w];rfl
          refine ζk (i:=7) (N:=some 29) (v:=?_) (a':=?_) #[τ,τ,τ,τ,τ,τ,τ,τ,φ,φ,φ] rfl rfl (ζj HT_.out (by kernel_rfl)) (fun _ _ _ h=>h) (Or.inl ⟨by rfl,?_⟩) ?_ ?_
          rotate_left
          · intro w';go_simp;with_reducible rfl
          rotate_left
          · simp only [ζl,δa,δb,δc,i64_w,i32_w];rfl
          refine ζk (i:=8) (N:=some 30) (v:=?_) (a':=?_) #[τ,τ,τ,τ,τ,τ,τ,τ,τ,φ,φ] rfl rfl (ζj HT_.out (by kernel_rfl)) (fun _ _ _ h=>h) (Or.inl ⟨by rfl,?_⟩) ?_ ?_
          rotate_left
          · intro w';go_simp;with_reducible rfl
          rotate_left
          · simp only [ζl,δa,δb,δc,i64_w,i32_w];rfl
          refine one_ (i:=9) (N:=some 8) #[τ,τ,τ,τ,τ,τ,τ,τ,τ,τ,φ] rfl rfl (one_of HT_.out (by kernel_rfl)) (by decide) (fun K hK => ?_)
          refine box_step ?hg (N:=8) ?hd (cs:=#[.string (⟨#[]⟩:ByteArray),.string (⟨#[]⟩:ByteArray),.int .i64 0,.int .i64 0,.int .i64 0,.bool φ]) (t:=42) ?hr ?_;(case hd=>rfl);(case hg=>rfl);(case hr=>first|(go_simp;done)|(go_simp;rfl))
          intro gb427 hg w24 hbox hb
          have HS0_:=(hb.cell (World.block_lt_of_cell? _ _ (hHeld.1))).trans (hHeld.1)
          have HS1_:=(hb.cell (World.block_lt_of_cell? _ _ (hHeld.2))).trans (hHeld.2)
          have n0_:=ζa (ζh (by (with_reducible repeat (first|apply ζd|apply ζc|apply ζe));exact HO_6.out) hb)
          have n1_:=ζa (blk_below (g:=gb420) (o:=.cells #[.string (⟨#[]⟩:ByteArray),.string (⟨#[]⟩:ByteArray),.int .i64 0,.int .i64 0,.int .i64 0,.bool φ] 42 (0,0)) (by (with_reducible repeat (first|refine δn ?_ _|refine δp ?_|refine δo ?_ _));exact BK420.out) hb)
          have n2_:=ζa (δr (by repeat (first|(with_reducible first|exact HB.out|apply δk|apply δi|apply δj|refine δq ?_ GE420.out)|exact HB.out)) hb)
          have n3_:=ζa (hbox)
          have n4_:=ζa ((by rw [hg];exact (δs (by repeat (first|(with_reducible first|exact HB.out|apply δk|apply δi|apply δj|refine δq ?_ GE420.out)|exact HB.out))):w.heap.size≤gb427))
          have n5_:=ζa ((by rw [hg];exact (δs (by repeat (first|(with_reducible first|exact HB.out|apply δk|apply δi|apply δj|refine δq ?_ GE420.out)|exact HB.out))):w.heap.size≤gb427))
          have n6_:=ζa ((by rw [hg];exact Nat.ne_of_lt (blk_lt (g:=gb420) (o:=.cells #[.string (⟨#[]⟩:ByteArray),.string (⟨#[]⟩:ByteArray),.int .i64 0,.int .i64 0,.int .i64 0,.bool φ] 42 (0,0)) (by (with_reducible repeat (first|refine δn ?_ _|refine δp ?_|refine δo ?_ _));exact BK420.out)):gb420≠gb427))
          have n7_:=ζa ((by rw [hg];exact Nat.ne_of_gt (blk_lt (g:=gb420) (o:=.cells #[.string (⟨#[]⟩:ByteArray),.string (⟨#[]⟩:ByteArray),.int .i64 0,.int .i64 0,.int .i64 0,.bool φ] 42 (0,0)) (by (with_reducible repeat (first|refine δn ?_ _|refine δp ?_|refine δo ?_ _));exact BK420.out)):gb427≠gb420))
          clear HO_6
          clear BK420
          clear HB
          have HO_6:=n0_
          have BK420:=n1_
          have HB:=n2_
          have BK427:=n3_
          have GW427:=n4_
          have GE427:=n5_
          have NB420_427:=n6_
          have NB427_420:=n7_
          clear n0_ n1_ n2_ n3_ n4_ n5_ n6_ n7_
          clear hb hbox hg
          refine hK.out _ _ ⟨HS0_,HS1_⟩ (fun hHeld => ?_)
          clear hK K
          refine norm_ (a':=?_) ?_ ?_
          rotate_left
          ·
           show ζl _ (some 8) _=_
           simp only [ζl,δa,δb,δc,i64_w,i32_w];rfl
          refine one_ (i:=10) (N:=none) #[τ,τ,τ,τ,τ,τ,τ,τ,τ,τ,τ] rfl rfl (one_of HT_.out (by kernel_rfl)) (by decide) (fun K hK => ?_)
          have hs25:w24.cell? ⟨gb427,0,none⟩=some (.string (⟨#[]⟩:ByteArray)):=(δl BK427.out 0).trans rfl
          have hfs25:=δm BK427.out 0
          have hns25_0:=NB420_427.out
          have hms25_0:=NB427_420.out
          have hs26:w24.cell? ⟨gb427,1,none⟩=some (.string (⟨#[]⟩:ByteArray)):=(δl BK427.out 1).trans rfl
          have hfs26:=δm BK427.out 1
          have hns26_0:=NB420_427.out
          have hms26_0:=NB427_420.out
          have hs27:w24.cell? ⟨gb427,2,none⟩=some (.int .i64 0):=(δl BK427.out 2).trans rfl
          have hfs27:=δm BK427.out 2
          have hns27_0:=NB420_427.out
          have hms27_0:=NB427_420.out
          have hs28:w24.cell? ⟨gb427,3,none⟩=some (.int .i64 0):=(δl BK427.out 3).trans rfl
          have hfs28:=δm BK427.out 3
          have hns28_0:=NB420_427.out
          have hms28_0:=NB427_420.out
          have hs29:w24.cell? ⟨gb427,4,none⟩=some (.int .i64 0):=(δl BK427.out 4).trans rfl
          have hfs29:=δm BK427.out 4
          have hns29_0:=NB420_427.out
          have hms29_0:=NB427_420.out
          have hs30:w24.cell? ⟨gb427,5,none⟩=some (.bool φ):=(δl BK427.out 5).trans rfl
          have hfs30:=δm BK427.out 5
          have hns30_0:=NB420_427.out
          have hms30_0:=NB427_420.out
          refine skip_ (w1:=?_) (by rfl) rfl ?_ ?_
          rotate_left
          ·
           go_simp
           rfl
          refine hK.out _ _ ⟨((δt (p:=⟨gb427,_,none⟩) (by first|exact ζb (ζf HO_6.out BK427.out (by decide))|(rw [δu];exact ζb (ζf HO_6.out BK427.out (by decide)))|(show (Addr.add _ _).block≠_;rw [δu];exact ζb (ζf HO_6.out BK427.out (by decide)))|(dsimp only;exact ζb (ζf HO_6.out BK427.out (by decide)))) _).trans (((δt (p:=⟨gb427,_,none⟩) (by first|exact ζb (ζf HO_6.out BK427.out (by decide))|(rw [δu];exact ζb (ζf HO_6.out BK427.out (by decide)))|(show (Addr.add _ _).block≠_;rw [δu];exact ζb (ζf HO_6.out BK427.out (by decide)))|(dsimp only;exact ζb (ζf HO_6.out BK427.out (by decide)))) _).trans (((δt (p:=⟨gb427,_,none⟩) (by first|exact ζb (ζf HO_6.out BK427.out (by decide))|(rw [δu];exact ζb (ζf HO_6.out BK427.out (by decide)))|(show (Addr.add _ _).block≠_;rw [δu];exact ζb (ζf HO_6.out BK427.out (by decide)))|(dsimp only;exact ζb (ζf HO_6.out BK427.out (by decide)))) _).trans (((δt (p:=⟨gb427,_,none⟩) (by first|exact ζb (ζf HO_6.out BK427.out (by decide))|(rw [δu];exact ζb (ζf HO_6.out BK427.out (by decide)))|(show (Addr.add _ _).block≠_;rw [δu];exact ζb (ζf HO_6.out BK427.out (by decide)))|(dsimp only;exact ζb (ζf HO_6.out BK427.out (by decide)))) _).trans (((δt (p:=⟨gb427,_,none⟩) (by first|exact ζb (ζf HO_6.out BK427.out (by decide))|(rw [δu];exact ζb (ζf HO_6.out BK427.out (by decide)))|(show (Addr.add _ _).block≠_;rw [δu];exact ζb (ζf HO_6.out BK427.out (by decide)))|(dsimp only;exact ζb (ζf HO_6.out BK427.out (by decide)))) _).trans (((δt (p:=⟨gb427,_,none⟩) (by first|exact ζb (ζf HO_6.out BK427.out (by decide))|(rw [δu];exact ζb (ζf HO_6.out BK427.out (by decide)))|(show (Addr.add _ _).block≠_;rw [δu];exact ζb (ζf HO_6.out BK427.out (by decide)))|(dsimp only;exact ζb (ζf HO_6.out BK427.out (by decide)))) _).trans (hHeld.1)))))))))))),((δt (p:=⟨gb427,_,none⟩) (by first|exact ζb (ζf HO_6.out BK427.out (by decide))|(rw [δu];exact ζb (ζf HO_6.out BK427.out (by decide)))|(show (Addr.add _ _).block≠_;rw [δu];exact ζb (ζf HO_6.out BK427.out (by decide)))|(dsimp only;exact ζb (ζf HO_6.out BK427.out (by decide)))) _).trans (((δt (p:=⟨gb427,_,none⟩) (by first|exact ζb (ζf HO_6.out BK427.out (by decide))|(rw [δu];exact ζb (ζf HO_6.out BK427.out (by decide)))|(show (Addr.add _ _).block≠_;rw [δu];exact ζb (ζf HO_6.out BK427.out (by decide)))|(dsimp only;exact ζb (ζf HO_6.out BK427.out (by decide)))) _).trans (((δt (p:=⟨gb427,_,none⟩) (by first|exact ζb (ζf HO_6.out BK427.out (by decide))|(rw [δu];exact ζb (ζf HO_6.out BK427.out (by decide)))|(show (Addr.add _ _).block≠_;rw [δu];exact ζb (ζf HO_6.out BK427.out (by decide)))|(dsimp only;exact ζb (ζf HO_6.out BK427.out (by decide)))) _).trans (((δt (p:=⟨gb427,_,none⟩) (by first|exact ζb (ζf HO_6.out BK427.out (by decide))|(rw [δu];exact ζb (ζf HO_6.out BK427.out (by decide)))|(show (Addr.add _ _).block≠_;rw [δu];exact ζb (ζf HO_6.out BK427.out (by decide)))|(dsimp only;exact ζb (ζf HO_6.out BK427.out (by decide)))) _).trans (((δt (p:=⟨gb427,_,none⟩) (by first|exact ζb (ζf HO_6.out BK427.out (by decide))|(rw [δu];exact ζb (ζf HO_6.out BK427.out (by decide)))|(show (Addr.add _ _).block≠_;rw [δu];exact ζb (ζf HO_6.out BK427.out (by decide)))|(dsimp only;exact ζb (ζf HO_6.out BK427.out (by decide)))) _).trans (((δt (p:=⟨gb427,_,none⟩) (by first|exact ζb (ζf HO_6.out BK427.out (by decide))|(rw [δu];exact ζb (ζf HO_6.out BK427.out (by decide)))|(show (Addr.add _ _).block≠_;rw [δu];exact ζb (ζf HO_6.out BK427.out (by decide)))|(dsimp only;exact ζb (ζf HO_6.out BK427.out (by decide)))) _).trans (hHeld.2))))))))))))⟩ (fun hHeld => ?_)
          clear hK K
          refine done_ (done_of HT_.out (by kernel_rfl)) ?_
          have p428:0≤(1:Int):=(by omega)
          have q428:1<(t421.length:Int):=of_decide_eq_true (by first|(with_reducible assumption)|assumption)
          obtain ⟨ad428,e428,hx428_0⟩:=Kd.at_string (ζg HO_6.out).2.2 1 p428 q428
          obtain rfl:ad425=ad428:=(by injection e428)
          (try simp only [show (1:Int).toNat=1 from rfl,Nat.reduceMul,Nat.reduceEqDiff,Go.Addr.add,↓reduceIte] at hx428_0)
          have qi428:(1<t421.length)=True:=eq_true (by omega)
          (try rw [show ((1:Int)).toNat=1 from rfl] at hx428_0)
          have hn428_0:ad425.block≠gb427:=ζb (ζf HO_6.out BK427.out (by decide))
          have hn428_1:ad425.block≠gb427:=ζb (ζf HO_6.out BK427.out (by decide))
          have hn428_2:ad425.block≠gb427:=ζb (ζf HO_6.out BK427.out (by decide))
          have hn428_3:ad425.block≠gb427:=ζb (ζf HO_6.out BK427.out (by decide))
          have hn428_4:ad425.block≠gb427:=ζb (ζf HO_6.out BK427.out (by decide))
          have hn428_5:ad425.block≠gb427:=ζb (ζf HO_6.out BK427.out (by decide))
          replace hx428_0:=(δt (p:=⟨gb427,0,none⟩) (by first|(rw [δu];exact hn428_0)|(show (Addr.add _ _).block≠_;rw [δu];exact hn428_0)|exact hn428_0) (.string a0)).trans hx428_0
          replace hx428_0:=(δt (p:=⟨gb427,1,none⟩) (by first|(rw [δu];exact hn428_1)|(show (Addr.add _ _).block≠_;rw [δu];exact hn428_1)|exact hn428_1) (.string (rdOf ByteArray.empty t421 0))).trans hx428_0
          replace hx428_0:=(δt (p:=⟨gb427,2,none⟩) (by first|(rw [δu];exact hn428_2)|(show (Addr.add _ _).block≠_;rw [δu];exact hn428_2)|exact hn428_2) (.int .i64 0)).trans hx428_0
          replace hx428_0:=(δt (p:=⟨gb427,3,none⟩) (by first|(rw [δu];exact hn428_3)|(show (Addr.add _ _).block≠_;rw [δu];exact hn428_3)|exact hn428_3) (.int .i64 0)).trans hx428_0
          replace hx428_0:=(δt (p:=⟨gb427,4,none⟩) (by first|(rw [δu];exact hn428_4)|(show (Addr.add _ _).block≠_;rw [δu];exact hn428_4)|exact hn428_4) (.int .i64 0)).trans hx428_0
          replace hx428_0:=(δt (p:=⟨gb427,5,none⟩) (by first|(rw [δu];exact hn428_5)|(show (Addr.add _ _).block≠_;rw [δu];exact hn428_5)|exact hn428_5) (.bool ((rdOf ByteArray.empty t421 4).toList == ([111,112,101,110]:List UInt8)))).trans hx428_0
          clear hn428_0
          clear hn428_1
          clear hn428_2
          clear hn428_3
          clear hn428_4
          clear hn428_5
          replace p428:=eq_true p428
          replace q428:=eq_true q428
          try go_wp2_with (first|((with_reducible refine δv (f:=90) rfl ?_);refine goesL_ (some 35) rfl rfl Tryd.func90 (by kernel_rfl) rfl #[.string (rdOf ByteArray.empty t421 1)] rfl (by (try simp only [δd,δe,δf]);first|done|rfl|(simp only [δg,δh];rfl)) ?_;(with_reducible refine (impl_readAmount.calls (rdOf ByteArray.empty t421 1) t429 t430 _ (HT0.out.below (by repeat (first|(with_reducible first|exact HB.out|apply δk|apply δi|apply δj|refine δq ?_ GE420.out|refine δq ?_ GE427.out)|exact HB.out))) A14.out).mono ?_);rintro e w31 ⟨rfl,hb⟩;refine ⟨_,rfl,?_⟩;have n0_:=ζa (ζh (by (with_reducible repeat (first|apply ζd|apply ζc|apply ζe));exact (Kd.R_mono (ζi (p:=⟨gb427,5,none⟩) (ζi (p:=⟨gb427,4,none⟩) (ζi (p:=⟨gb427,3,none⟩) (ζi (p:=⟨gb427,2,none⟩) (ζi (p:=⟨gb427,1,none⟩) (ζi (p:=⟨gb427,0,none⟩) (Kd.R_types HO_6.out BK427.out (by decide)) (fun _ hk=>hk.2) (.string a0)) (fun _ hk=>hk.2) (.string (rdOf ByteArray.empty t421 0))) (fun _ hk=>hk.2) (.int .i64 0)) (fun _ hk=>hk.2) (.int .i64 0)) (fun _ hk=>hk.2) (.int .i64 0)) (fun _ hk=>hk.2) (.bool ((rdOf ByteArray.empty t421 4).toList == ([111,112,101,110]:List UInt8)))) (fun _ h_=>h_.1))) hb);have n1_:=ζa (blk_below (g:=gb420) (o:=.cells #[.string (⟨#[]⟩:ByteArray),.string (⟨#[]⟩:ByteArray),.int .i64 0,.int .i64 0,.int .i64 0,.bool φ] 42 (0,0)) (by (with_reducible repeat (first|refine δn ?_ _|refine δp ?_|refine δo ?_ _));refine blk_far ?_ NB420_427.out _;(with_reducible repeat (first|refine δn ?_ _|refine δp ?_|refine δo ?_ _));refine blk_far ?_ NB420_427.out _;(with_reducible repeat (first|refine δn ?_ _|refine δp ?_|refine δo ?_ _));refine blk_far ?_ NB420_427.out _;(with_reducible repeat (first|refine δn ?_ _|refine δp ?_|refine δo ?_ _));refine blk_far ?_ NB420_427.out _;(with_reducible repeat (first|refine δn ?_ _|refine δp ?_|refine δo ?_ _));refine blk_far ?_ NB420_427.out _;(with_reducible repeat (first|refine δn ?_ _|refine δp ?_|refine δo ?_ _));refine blk_far ?_ NB420_427.out _;(with_reducible repeat (first|refine δn ?_ _|refine δp ?_|refine δo ?_ _));exact BK420.out) hb);have n2_:=ζa (blk_below (g:=gb427) (o:=.cells #[.string a0,.string (rdOf ByteArray.empty t421 0),.int .i64 0,.int .i64 0,.int .i64 0,.bool ((rdOf ByteArray.empty t421 4).toList == ([111,112,101,110]:List UInt8))] 42 (0,0)) (by (with_reducible repeat (first|refine δn ?_ _|refine δp ?_|refine δo ?_ _));refine δw (cs:=#[.string a0,.string (rdOf ByteArray.empty t421 0),.int .i64 0,.int .i64 0,.int .i64 0,.bool φ]) ?_ 5 _ rfl;(with_reducible repeat (first|refine δn ?_ _|refine δp ?_|refine δo ?_ _));refine δw (cs:=#[.string a0,.string (rdOf ByteArray.empty t421 0),.int .i64 0,.int .i64 0,.int .i64 0,.bool φ]) ?_ 4 _ rfl;(with_reducible repeat (first|refine δn ?_ _|refine δp ?_|refine δo ?_ _));refine δw (cs:=#[.string a0,.string (rdOf ByteArray.empty t421 0),.int .i64 0,.int .i64 0,.int .i64 0,.bool φ]) ?_ 3 _ rfl;(with_reducible repeat (first|refine δn ?_ _|refine δp ?_|refine δo ?_ _));refine δw (cs:=#[.string a0,.string (rdOf ByteArray.empty t421 0),.int .i64 0,.int .i64 0,.int .i64 0,.bool φ]) ?_ 2 _ rfl;(with_reducible repeat (first|refine δn ?_ _|refine δp ?_|refine δo ?_ _));refine δw (cs:=#[.string a0,.string (⟨#[]⟩:ByteArray),.int .i64 0,.int .i64 0,.int .i64 0,.bool φ]) ?_ 1 _ rfl;(with_reducible repeat (first|refine δn ?_ _|refine δp ?_|refine δo ?_ _));refine δw (cs:=#[.string (⟨#[]⟩:ByteArray),.string (⟨#[]⟩:ByteArray),.int .i64 0,.int .i64 0,.int .i64 0,.bool φ]) ?_ 0 _ rfl;(with_reducible repeat (first|refine δn ?_ _|refine δp ?_|refine δo ?_ _));exact BK427.out) hb);have n3_:=ζa (δr (by repeat (first|(with_reducible first|exact HB.out|apply δk|apply δi|apply δj|refine δq ?_ GE420.out|refine δq ?_ GE427.out)|exact HB.out)) hb);clear HO_6;clear BK420;clear BK427;clear HB;have HO_6:=n0_;have BK420:=n1_;have BK427:=n2_;have HB:=n3_;clear n0_ n1_ n2_ n3_;(try clear hb);(try clear hb2);(try clear hk);(try clear hi);have hnb32:=NB427_420.out;have hnc32:=NB420_427.out;have hcz33_0:w31.cell? ⟨gb427,0,none⟩=some (.string a0):=(δl BK427.out 0).trans rfl;have hcz33_1:w31.cell? ⟨gb427,1,none⟩=some (.string (rdOf ByteArray.empty t421 0)):=(δl BK427.out 1).trans rfl;have hcz33_2:w31.cell? ⟨gb427,2,none⟩=some (.int .i64 0):=(δl BK427.out 2).trans rfl;have hcz33_3:w31.cell? ⟨gb427,3,none⟩=some (.int .i64 0):=(δl BK427.out 3).trans rfl;have hcz33_4:w31.cell? ⟨gb427,4,none⟩=some (.int .i64 0):=(δl BK427.out 4).trans rfl;have hcz33_5:w31.cell? ⟨gb427,5,none⟩=some (.bool ((rdOf ByteArray.empty t421 4).toList == ([111,112,101,110]:List UInt8))):=(δl BK427.out 5).trans rfl;have hfz33_0:=δm BK427.out 0;have hfz33_1:=δm BK427.out 1;have hfz33_2:=δm BK427.out 2;have hfz33_3:=δm BK427.out 3;have hfz33_4:=δm BK427.out 4;have hfz33_5:=δm BK427.out 5;have p431:0≤(2:Int):=(by omega);have q431:2<(t421.length:Int):=of_decide_eq_true (by first|(with_reducible assumption)|assumption);obtain ⟨ad431,e431,hx431_0⟩:=Kd.at_string (ζg HO_6.out).2.2 2 p431 q431;obtain rfl:ad425=ad431:=(by injection e431);(try simp only [show (2:Int).toNat=2 from rfl,Nat.reduceMul,Nat.reduceEqDiff,Go.Addr.add,↓reduceIte] at hx431_0);have qi431:(2<t421.length)=True:=eq_true (by omega);(try rw [show ((2:Int)).toNat=2 from rfl] at hx431_0);have hn431_0:ad425.block≠gb427:=ζb (ζf HO_6.out BK427.out (by decide));replace hx431_0:=(δt (p:=⟨gb427,2,none⟩) (by first|(rw [δu];exact hn431_0)|(show (Addr.add _ _).block≠_;rw [δu];exact hn431_0)|exact hn431_0) (.int .i64 t429)).trans hx431_0;clear hn431_0;replace p431:=eq_true p431;replace q431:=eq_true q431)|((with_reducible refine δv (f:=90) rfl ?_);refine goesL_ (some 43) rfl rfl Tryd.func90 (by kernel_rfl) rfl #[.string (rdOf ByteArray.empty t421 2)] rfl (by (try simp only [δd,δe,δf]);first|done|rfl|(simp only [δg,δh];rfl)) ?_;(with_reducible refine (impl_readAmount.calls (rdOf ByteArray.empty t421 2) t432 t433 _ (HT0.out.below (by repeat (first|(with_reducible first|exact HB.out|apply δk|apply δi|apply δj|refine δq ?_ GE420.out|refine δq ?_ GE427.out)|exact HB.out))) A16.out).mono ?_);rintro e w34 ⟨rfl,hb⟩;refine ⟨_,rfl,?_⟩;have n0_:=ζa (ζh (by (with_reducible repeat (first|apply ζd|apply ζc|apply ζe));exact (Kd.R_mono (ζi (p:=⟨gb427,2,none⟩) (Kd.R_types HO_6.out BK427.out (by decide)) (fun _ hk=>hk.2) (.int .i64 t429)) (fun _ h_=>h_.1))) hb);have n1_:=ζa (blk_below (g:=gb420) (o:=.cells #[.string (⟨#[]⟩:ByteArray),.string (⟨#[]⟩:ByteArray),.int .i64 0,.int .i64 0,.int .i64 0,.bool φ] 42 (0,0)) (by (with_reducible repeat (first|refine δn ?_ _|refine δp ?_|refine δo ?_ _));refine blk_far ?_ NB420_427.out _;(with_reducible repeat (first|refine δn ?_ _|refine δp ?_|refine δo ?_ _));exact BK420.out) hb);have n2_:=ζa (blk_below (g:=gb427) (o:=.cells #[.string a0,.string (rdOf ByteArray.empty t421 0),.int .i64 t429,.int .i64 0,.int .i64 0,.bool ((rdOf ByteArray.empty t421 4).toList == ([111,112,101,110]:List UInt8))] 42 (0,0)) (by (with_reducible repeat (first|refine δn ?_ _|refine δp ?_|refine δo ?_ _));refine δw (cs:=#[.string a0,.string (rdOf ByteArray.empty t421 0),.int .i64 0,.int .i64 0,.int .i64 0,.bool ((rdOf ByteArray.empty t421 4).toList == ([111,112,101,110]:List UInt8))]) ?_ 2 _ rfl;(with_reducible repeat (first|refine δn ?_ _|refine δp ?_|refine δo ?_ _));exact BK427.out) hb);have n3_:=ζa (δr (by repeat (first|(with_reducible first|exact HB.out|apply δk|apply δi|apply δj|refine δq ?_ GE420.out|refine δq ?_ GE427.out)|exact HB.out)) hb);clear HO_6;clear BK420;clear BK427;clear HB;have HO_6:=n0_;have BK420:=n1_;have BK427:=n2_;have HB:=n3_;clear n0_ n1_ n2_ n3_;(try clear hb);(try clear hb2);(try clear hk);(try clear hi);have hcz35_0:w34.cell? ⟨gb427,0,none⟩=some (.string a0):=(δl BK427.out 0).trans rfl;have hcz35_1:w34.cell? ⟨gb427,1,none⟩=some (.string (rdOf ByteArray.empty t421 0)):=(δl BK427.out 1).trans rfl;have hcz35_2:w34.cell? ⟨gb427,2,none⟩=some (.int .i64 t429):=(δl BK427.out 2).trans rfl;have hcz35_3:w34.cell? ⟨gb427,3,none⟩=some (.int .i64 0):=(δl BK427.out 3).trans rfl;have hcz35_4:w34.cell? ⟨gb427,4,none⟩=some (.int .i64 0):=(δl BK427.out 4).trans rfl;have hcz35_5:w34.cell? ⟨gb427,5,none⟩=some (.bool ((rdOf ByteArray.empty t421 4).toList == ([111,112,101,110]:List UInt8))):=(δl BK427.out 5).trans rfl;have hfz35_0:=δm BK427.out 0;have hfz35_1:=δm BK427.out 1;have hfz35_2:=δm BK427.out 2;have hfz35_3:=δm BK427.out 3;have hfz35_4:=δm BK427.out 4;have hfz35_5:=δm BK427.out 5;have p434:0≤(3:Int):=(by omega);have q434:3<(t421.length:Int):=of_decide_eq_true (by first|(with_reducible assumption)|assumption);obtain ⟨ad434,e434,hx434_0⟩:=Kd.at_string (ζg HO_6.out).2.2 3 p434 q434;obtain rfl:ad425=ad434:=(by injection e434);(try simp only [show (3:Int).toNat=3 from rfl,Nat.reduceMul,Nat.reduceEqDiff,Go.Addr.add,↓reduceIte] at hx434_0);have qi434:(3<t421.length)=True:=eq_true (by omega);(try rw [show ((3:Int)).toNat=3 from rfl] at hx434_0);have hn434_0:ad425.block≠gb427:=ζb (ζf HO_6.out BK427.out (by decide));replace hx434_0:=(δt (p:=⟨gb427,3,none⟩) (by first|(rw [δu];exact hn434_0)|(show (Addr.add _ _).block≠_;rw [δu];exact hn434_0)|exact hn434_0) (.int .i64 t432)).trans hx434_0;clear hn434_0;replace p434:=eq_true p434;replace q434:=eq_true q434)|((with_reducible refine δv (f:=90) rfl ?_);refine goesL_ (some 51) rfl rfl Tryd.func90 (by kernel_rfl) rfl #[.string (rdOf ByteArray.empty t421 3)] rfl (by (try simp only [δd,δe,δf]);first|done|rfl|(simp only [δg,δh];rfl)) ?_;(with_reducible refine (impl_readAmount.calls (rdOf ByteArray.empty t421 3) t435 t436 _ (HT0.out.below (by repeat (first|(with_reducible first|exact HB.out|apply δk|apply δi|apply δj|refine δq ?_ GE420.out|refine δq ?_ GE427.out)|exact HB.out))) A18.out).mono ?_);rintro e w36 ⟨rfl,hb⟩;refine ⟨_,rfl,?_⟩;have n0_:=ζa (ζh (by (with_reducible repeat (first|apply ζd|apply ζc|apply ζe));exact (Kd.R_mono (ζi (p:=⟨gb427,3,none⟩) (Kd.R_types HO_6.out BK427.out (by decide)) (fun _ hk=>hk.2) (.int .i64 t432)) (fun _ h_=>h_.1))) hb);have n1_:=ζa (blk_below (g:=gb420) (o:=.cells #[.string (⟨#[]⟩:ByteArray),.string (⟨#[]⟩:ByteArray),.int .i64 0,.int .i64 0,.int .i64 0,.bool φ] 42 (0,0)) (by (with_reducible repeat (first|refine δn ?_ _|refine δp ?_|refine δo ?_ _));refine blk_far ?_ NB420_427.out _;(with_reducible repeat (first|refine δn ?_ _|refine δp ?_|refine δo ?_ _));exact BK420.out) hb);have n2_:=ζa (blk_below (g:=gb427) (o:=.cells #[.string a0,.string (rdOf ByteArray.empty t421 0),.int .i64 t429,.int .i64 t432,.int .i64 0,.bool ((rdOf ByteArray.empty t421 4).toList == ([111,112,101,110]:List UInt8))] 42 (0,0)) (by (with_reducible repeat (first|refine δn ?_ _|refine δp ?_|refine δo ?_ _));refine δw (cs:=#[.string a0,.string (rdOf ByteArray.empty t421 0),.int .i64 t429,.int .i64 0,.int .i64 0,.bool ((rdOf ByteArray.empty t421 4).toList == ([111,112,101,110]:List UInt8))]) ?_ 3 _ rfl;(with_reducible repeat (first|refine δn ?_ _|refine δp ?_|refine δo ?_ _));exact BK427.out) hb);have n3_:=ζa (δr (by repeat (first|(with_reducible first|exact HB.out|apply δk|apply δi|apply δj|refine δq ?_ GE420.out|refine δq ?_ GE427.out)|exact HB.out)) hb);clear HO_6;clear BK420;clear BK427;clear HB;have HO_6:=n0_;have BK420:=n1_;have BK427:=n2_;have HB:=n3_;clear n0_ n1_ n2_ n3_;(try clear hb);(try clear hb2);(try clear hk);(try clear hi);have hcz37_0:w36.cell? ⟨gb427,0,none⟩=some (.string a0):=(δl BK427.out 0).trans rfl;have hcz37_1:w36.cell? ⟨gb427,1,none⟩=some (.string (rdOf ByteArray.empty t421 0)):=(δl BK427.out 1).trans rfl;have hcz37_2:w36.cell? ⟨gb427,2,none⟩=some (.int .i64 t429):=(δl BK427.out 2).trans rfl;have hcz37_3:w36.cell? ⟨gb427,3,none⟩=some (.int .i64 t432):=(δl BK427.out 3).trans rfl;have hcz37_4:w36.cell? ⟨gb427,4,none⟩=some (.int .i64 0):=(δl BK427.out 4).trans rfl;have hcz37_5:w36.cell? ⟨gb427,5,none⟩=some (.bool ((rdOf ByteArray.empty t421 4).toList == ([111,112,101,110]:List UInt8))):=(δl BK427.out 5).trans rfl;have hfz37_0:=δm BK427.out 0;have hfz37_1:=δm BK427.out 1;have hfz37_2:=δm BK427.out 2;have hfz37_3:=δm BK427.out 3;have hfz37_4:=δm BK427.out 4;have hfz37_5:=δm BK427.out 5))
          have n0_:Aside0 (Kd.R Kd.string 9 (w36.setCell ⟨gb427,4,none⟩ (.int .i64 t435)) w.heap.size (fun _=>True) (.slice (some ad425) t421.length co23) t421):=⟨by (with_reducible repeat (first|apply ζd|apply ζc|apply ζe));exact Kd.R_mono (ζi (p:=⟨gb427,4,none⟩) (Kd.R_types HO_6.out BK427.out (by decide)) (fun _ hk=>hk.2) (.int .i64 t435)) (fun _ hk=>trivial)⟩
          have n1_:Aside0 ((w36.setCell ⟨gb427,4,none⟩ (.int .i64 t435)).heap[gb420]? = some (.cells #[.string (⟨#[]⟩:ByteArray),.string (⟨#[]⟩:ByteArray),.int .i64 0,.int .i64 0,.int .i64 0,.bool φ] 42 (0,0))):=⟨by (with_reducible repeat (first|refine δn ?_ _|refine δp ?_|refine δo ?_ _));refine blk_far ?_ NB420_427.out _;(with_reducible repeat (first|refine δn ?_ _|refine δp ?_|refine δo ?_ _));exact BK420.out⟩
          have n2_:Aside0 ((w36.setCell ⟨gb427,4,none⟩ (.int .i64 t435)).heap[gb427]? = some (.cells #[.string a0,.string (rdOf ByteArray.empty t421 0),.int .i64 t429,.int .i64 t432,.int .i64 t435,.bool ((rdOf ByteArray.empty t421 4).toList == ([111,112,101,110]:List UInt8))] 42 (0,0))):=⟨by (with_reducible repeat (first|refine δn ?_ _|refine δp ?_|refine δo ?_ _));refine δw (cs:=#[.string a0,.string (rdOf ByteArray.empty t421 0),.int .i64 t429,.int .i64 t432,.int .i64 0,.bool ((rdOf ByteArray.empty t421 4).toList == ([111,112,101,110]:List UInt8))]) ?_ 4 _ rfl;(with_reducible repeat (first|refine δn ?_ _|refine δp ?_|refine δo ?_ _));exact BK427.out⟩
          have n3_:Aside0 (Below w.heap.size w (w36.setCell ⟨gb427,4,none⟩ (.int .i64 t435))):=⟨by repeat (first|(with_reducible first|exact HB.out|apply δk|apply δi|apply δj|refine δq ?_ GE420.out|refine δq ?_ GE427.out)|exact HB.out)⟩
          (try clear HO_6)
          (try clear BK420)
          (try clear BK427)
          (try clear HB)
          generalize (w36.setCell ⟨gb427,4,none⟩ (.int .i64 t435))=w38 at n0_ n1_ n2_ n3_ ⊢
          have HO_6:=n0_
          have BK420:=n1_
          have BK427:=n2_
          have HB:=n3_
          clear n0_ n1_ n2_ n3_
          have n0_:=ζa (ζe HO_6.out)
          have n1_:=ζa (δp BK420.out)
          have n2_:=ζa (δp BK427.out)
          have n3_:=ζa (δj HB.out)
          clear HO_6
          clear BK420
          clear BK427
          clear HB
          have HO_6:=n0_
          have BK420:=n1_
          have BK427:=n2_
          have HB:=n3_
          clear n0_ n1_ n2_ n3_
          refine start_ (n:=11) (S:=fun w'=>w'.cell? ⟨gb427,0,none⟩=some (.string a0)∧w'.cell? ⟨gb427,1,none⟩=some (.string (rdOf ByteArray.empty t421 0))∧w'.cell? ⟨gb427,2,none⟩=some (.int .i64 t429)∧w'.cell? ⟨gb427,3,none⟩=some (.int .i64 t432)∧w'.cell? ⟨gb427,4,none⟩=some (.int .i64 t435)∧w'.cell? ⟨gb427,5,none⟩=some (.bool ((rdOf ByteArray.empty t421 4).toList == ([111,112,101,110]:List UInt8)))) (ds:=[]) #[φ,φ,φ,φ,φ,φ,φ,φ,φ,φ,φ] (by kernel_rfl) rfl rfl ⟨(δl BK427.out 0).trans rfl,(δl BK427.out 1).trans rfl,(δl BK427.out 2).trans rfl,(δl BK427.out 3).trans rfl,(δl BK427.out 4).trans rfl,(δl BK427.out 5).trans rfl⟩ (fun hHeld => ?_);refine with_tabW impl_orderOf.tab8 impl_orderOf.bits8 (fun HT_ HW_ => ?_)
          generalize w38.drew=w39 at HO_6 BK420 BK427 HB hHeld ⊢
          refine take_ (i:=0) (N:=some 55) (v:=?_) (a':=?_) #[τ,φ,φ,φ,φ,φ,φ,φ,φ,φ,φ] rfl rfl (take_ofW HT_.out HW_.out (by kernel_rfl)) (fun _ _ _ h=>h) (Or.inl ⟨by rfl,?_⟩) hHeld ?_ ?_
          rotate_left
          · rintro w' ⟨s0,s1,s2,s3,s4,s5⟩;go_simp;with_reducible rfl
          rotate_left
          · simp only [ζl,δa,δb,δc,i64_w,i32_w];rfl
          refine take_ (i:=1) (N:=some 56) (v:=?_) (a':=?_) #[τ,τ,φ,φ,φ,φ,φ,φ,φ,φ,φ] rfl rfl (take_ofW HT_.out HW_.out (by kernel_rfl)) (fun _ _ _ h=>h) (Or.inl ⟨by rfl,?_⟩) hHeld ?_ ?_
          rotate_left
          · rintro w' ⟨s0,s1,s2,s3,s4,s5⟩;go_simp;with_reducible rfl
          rotate_left
          · simp only [ζl,δa,δb,δc,i64_w,i32_w];rfl
          refine one_ (i:=2) (N:=some 57) #[τ,τ,τ,φ,φ,φ,φ,φ,φ,φ,φ] rfl rfl (one_of HT_.out (by kernel_rfl)) (by decide) (fun K hK => ?_)
          refine goes_ Tryd.func132 (by kernel_rfl) rfl #[.agg #[.string a0,.string (rdOf ByteArray.empty t421 0),.int .i64 t429,.int .i64 t432,.int .i64 t435,.bool ((rdOf ByteArray.empty t421 4).toList == ([111,112,101,110]:List UInt8))]] (by rfl) rfl rfl (by (try simp only [δd,δe,δf]);first|done|rfl|(simp only [δg,δh];rfl)) ?_
          with_reducible refine (impl_OrderOK.calls kj3 a0 (rdOf ByteArray.empty t421 0) t429 t432 t435 ((rdOf ByteArray.empty t421 4).toList == ([111,112,101,110]:List UInt8)) τ _ A19.out).mono ?_
          rintro e w40 ⟨rfl,hb⟩
          refine ⟨_,rfl,?_⟩
          have n0_:=ζa (ζh (by (with_reducible repeat (first|apply ζd|apply ζc|apply ζe));exact HO_6.out) hb)
          have n1_:=ζa (blk_below (g:=gb420) (o:=.cells #[.string (⟨#[]⟩:ByteArray),.string (⟨#[]⟩:ByteArray),.int .i64 0,.int .i64 0,.int .i64 0,.bool φ] 42 (0,0)) (by (with_reducible repeat (first|refine δn ?_ _|refine δp ?_|refine δo ?_ _));exact BK420.out) hb)
          have n2_:=ζa (blk_below (g:=gb427) (o:=.cells #[.string a0,.string (rdOf ByteArray.empty t421 0),.int .i64 t429,.int .i64 t432,.int .i64 t435,.bool ((rdOf ByteArray.empty t421 4).toList == ([111,112,101,110]:List UInt8))] 42 (0,0)) (by (with_reducible repeat (first|refine δn ?_ _|refine δp ?_|refine δo ?_ _));exact BK427.out) hb)
          have n3_:=ζa (δr (by repeat (first|(with_reducible first|exact HB.out|apply δk|apply δi|apply δj|refine δq ?_ GE420.out|refine δq ?_ GE427.out)|exact HB.out)) hb)
          clear HO_6
          clear BK420
          clear BK427
          clear HB
          have HO_6:=n0_
          have BK420:=n1_
          have BK427:=n2_
          have HB:=n3_
          clear n0_ n1_ n2_ n3_
          (try clear hb)
          (try clear hb2)
          (try clear hk)
          (try clear hi)
          refine hK.out _ _ ⟨(δl BK427.out 0).trans rfl,(δl BK427.out 1).trans rfl,(δl BK427.out 2).trans rfl,(δl BK427.out 3).trans rfl,(δl BK427.out 4).trans rfl,(δl BK427.out 5).trans rfl⟩ (fun hHeld => ?_)
          clear hK K
          refine norm_ (a':=?_) ?_ ?_
          rotate_left
          ·
           show ζl _ (some 57) _=_
           simp only [ζl,δa,δb,δc,i64_w,i32_w];rfl
          refine ζk (i:=3) (N:=some 58) (v:=?_) (a':=?_) #[τ,τ,τ,τ,φ,φ,φ,φ,φ,φ,φ] rfl rfl (ζj HT_.out (by kernel_rfl)) (fun _ _ _ h=>h) (Or.inl ⟨by rfl,?_⟩) ?_ ?_
          rotate_left
          · intro w';go_simp;with_reducible rfl
          rotate_left
          · simp only [ζl,δa,δb,δc,i64_w,i32_w];rfl
          refine ζk (i:=6) (N:=some 61) (v:=?_) (a':=?_) #[τ,τ,τ,τ,φ,φ,τ,φ,φ,φ,φ] rfl rfl (ζj HT_.out (by kernel_rfl)) (fun _ _ _ h=>h) (Or.inl ⟨by rfl,?_⟩) ?_ ?_
          rotate_left
          · intro w';go_simp;with_reducible rfl
          rotate_left
          · simp only [ζl,δa,δb,δc,i64_w,i32_w];rfl
          refine take_ (i:=4) (N:=some 59) (v:=?_) (a':=?_) #[τ,τ,τ,τ,τ,φ,τ,φ,φ,φ,φ] rfl rfl (take_ofW HT_.out HW_.out (by kernel_rfl)) (fun _ _ _ h=>h) (Or.inl ⟨by rfl,?_⟩) hHeld ?_ ?_
          rotate_left
          · rintro w' ⟨s0,s1,s2,s3,s4,s5⟩;go_simp;with_reducible rfl
          rotate_left
          · simp only [ζl,δa,δb,δc,i64_w,i32_w];rfl
          refine one_ (i:=5) (N:=some 60) #[τ,τ,τ,τ,τ,τ,τ,φ,φ,φ,φ] rfl rfl (one_of HT_.out (by kernel_rfl)) (by decide) (fun K hK => ?_)
          refine goes_ Tryd.func133 (by kernel_rfl) rfl #[.agg #[.string a0,.string (rdOf ByteArray.empty t421 0),.int .i64 t429,.int .i64 t432,.int .i64 t435,.bool ((rdOf ByteArray.empty t421 4).toList == ([111,112,101,110]:List UInt8))]] (by rfl) rfl rfl (by (try simp only [δd,δe,δf]);first|done|rfl|(simp only [δg,δh];rfl)) ?_
          with_reducible refine (impl_Order_value.calls kj3 a0 (rdOf ByteArray.empty t421 0) t429 t432 t435 ((rdOf ByteArray.empty t421 4).toList == ([111,112,101,110]:List UInt8)) t438 _ (HT0.out.below (by repeat (first|(with_reducible first|exact HB.out|apply δk|apply δi|apply δj|refine δq ?_ GE420.out|refine δq ?_ GE427.out)|exact HB.out))) A21.out).mono ?_
          rintro e w41 ⟨rfl,hb⟩
          refine ⟨_,rfl,?_⟩
          have n0_:=ζa (ζh (by (with_reducible repeat (first|apply ζd|apply ζc|apply ζe));exact HO_6.out) hb)
          have n1_:=ζa (blk_below (g:=gb420) (o:=.cells #[.string (⟨#[]⟩:ByteArray),.string (⟨#[]⟩:ByteArray),.int .i64 0,.int .i64 0,.int .i64 0,.bool φ] 42 (0,0)) (by (with_reducible repeat (first|refine δn ?_ _|refine δp ?_|refine δo ?_ _));exact BK420.out) hb)
          have n2_:=ζa (blk_below (g:=gb427) (o:=.cells #[.string a0,.string (rdOf ByteArray.empty t421 0),.int .i64 t429,.int .i64 t432,.int .i64 t435,.bool ((rdOf ByteArray.empty t421 4).toList == ([111,112,101,110]:List UInt8))] 42 (0,0)) (by (with_reducible repeat (first|refine δn ?_ _|refine δp ?_|refine δo ?_ _));exact BK427.out) hb)
          have n3_:=ζa (δr (by repeat (first|(with_reducible first|exact HB.out|apply δk|apply δi|apply δj|refine δq ?_ GE420.out|refine δq ?_ GE427.out)|exact HB.out)) hb)
          clear HO_6
          clear BK420
          clear BK427
          clear HB
          have HO_6:=n0_
          have BK420:=n1_
          have BK427:=n2_
          have HB:=n3_
          clear n0_ n1_ n2_ n3_
          (try clear hb)
          (try clear hb2)
          (try clear hk)
          (try clear hi)
          refine hK.out _ _ ⟨(δl BK427.out 0).trans rfl,(δl BK427.out 1).trans rfl,(δl BK427.out 2).trans rfl,(δl BK427.out 3).trans rfl,(δl BK427.out 4).trans rfl,(δl BK427.out 5).trans rfl⟩ (fun hHeld => ?_)
          clear hK K
          refine norm_ (a':=?_) ?_ ?_
          rotate_left
          ·
           show ζl _ (some 60) _=_
           simp only [ζl,δa,δb,δc,i64_w,i32_w];rfl
          refine ζk (i:=7) (N:=some 62) (v:=?_) (a':=?_) #[τ,τ,τ,τ,τ,τ,τ,τ,φ,φ,φ] rfl rfl (ζj HT_.out (by kernel_rfl)) (fun _ _ _ h=>h) (Or.inl ⟨by rfl,?_⟩) ?_ ?_
          rotate_left
          · intro w';go_simp;with_reducible rfl
          rotate_left
          · simp only [ζl,δa,δb,δc,i64_w,i32_w];rfl
          refine ζk (i:=8) (N:=some 63) (v:=?_) (a':=?_) #[τ,τ,τ,τ,τ,τ,τ,τ,τ,φ,φ] rfl rfl (ζj HT_.out (by kernel_rfl)) (fun _ _ _ h=>h) (Or.inl ⟨by rfl,?_⟩) ?_ ?_
          rotate_left
          · intro w';go_simp;with_reducible rfl
          rotate_left
          · simp only [ζl,δa,δb,δc,i64_w,i32_w];rfl
          refine one_ (i:=9) (N:=none) #[τ,τ,τ,τ,τ,τ,τ,τ,τ,τ,φ] rfl rfl (one_of HT_.out (by kernel_rfl)) (by decide) (fun K hK => ?_)
          have hs42:w41.cell? ⟨gb420,0,none⟩=some (.string (⟨#[]⟩:ByteArray)):=(δl BK420.out 0).trans rfl
          have hfs42:=δm BK420.out 0
          have hns42_1:=NB427_420.out
          have hms42_1:=NB420_427.out
          have hs43:w41.cell? ⟨gb420,1,none⟩=some (.string (⟨#[]⟩:ByteArray)):=(δl BK420.out 1).trans rfl
          have hfs43:=δm BK420.out 1
          have hns43_1:=NB427_420.out
          have hms43_1:=NB420_427.out
          have hs44:w41.cell? ⟨gb420,2,none⟩=some (.int .i64 0):=(δl BK420.out 2).trans rfl
          have hfs44:=δm BK420.out 2
          have hns44_1:=NB427_420.out
          have hms44_1:=NB420_427.out
          have hs45:w41.cell? ⟨gb420,3,none⟩=some (.int .i64 0):=(δl BK420.out 3).trans rfl
          have hfs45:=δm BK420.out 3
          have hns45_1:=NB427_420.out
          have hms45_1:=NB420_427.out
          have hs46:w41.cell? ⟨gb420,4,none⟩=some (.int .i64 0):=(δl BK420.out 4).trans rfl
          have hfs46:=δm BK420.out 4
          have hns46_1:=NB427_420.out
          have hms46_1:=NB420_427.out
          have hs47:w41.cell? ⟨gb420,5,none⟩=some (.bool φ):=(δl BK420.out 5).trans rfl
          have hfs47:=δm BK420.out 5
          have hns47_1:=NB427_420.out
          have hms47_1:=NB420_427.out
          refine skip_ (w1:=?_) (by rfl) rfl ?_ ?_
          rotate_left
          ·
           go_simp
           rfl
          refine hK.out _ _ ⟨((δt (p:=⟨gb420,_,none⟩) NB427_420.out _).trans (((δt (p:=⟨gb420,_,none⟩) NB427_420.out _).trans (((δt (p:=⟨gb420,_,none⟩) NB427_420.out _).trans (((δt (p:=⟨gb420,_,none⟩) NB427_420.out _).trans (((δt (p:=⟨gb420,_,none⟩) NB427_420.out _).trans (((δt (p:=⟨gb420,_,none⟩) NB427_420.out _).trans (hHeld.1)))))))))))),((δt (p:=⟨gb420,_,none⟩) NB427_420.out _).trans (((δt (p:=⟨gb420,_,none⟩) NB427_420.out _).trans (((δt (p:=⟨gb420,_,none⟩) NB427_420.out _).trans (((δt (p:=⟨gb420,_,none⟩) NB427_420.out _).trans (((δt (p:=⟨gb420,_,none⟩) NB427_420.out _).trans (((δt (p:=⟨gb420,_,none⟩) NB427_420.out _).trans (hHeld.2.1)))))))))))),((δt (p:=⟨gb420,_,none⟩) NB427_420.out _).trans (((δt (p:=⟨gb420,_,none⟩) NB427_420.out _).trans (((δt (p:=⟨gb420,_,none⟩) NB427_420.out _).trans (((δt (p:=⟨gb420,_,none⟩) NB427_420.out _).trans (((δt (p:=⟨gb420,_,none⟩) NB427_420.out _).trans (((δt (p:=⟨gb420,_,none⟩) NB427_420.out _).trans (hHeld.2.2.1)))))))))))),((δt (p:=⟨gb420,_,none⟩) NB427_420.out _).trans (((δt (p:=⟨gb420,_,none⟩) NB427_420.out _).trans (((δt (p:=⟨gb420,_,none⟩) NB427_420.out _).trans (((δt (p:=⟨gb420,_,none⟩) NB427_420.out _).trans (((δt (p:=⟨gb420,_,none⟩) NB427_420.out _).trans (((δt (p:=⟨gb420,_,none⟩) NB427_420.out _).trans (hHeld.2.2.2.1)))))))))))),((δt (p:=⟨gb420,_,none⟩) NB427_420.out _).trans (((δt (p:=⟨gb420,_,none⟩) NB427_420.out _).trans (((δt (p:=⟨gb420,_,none⟩) NB427_420.out _).trans (((δt (p:=⟨gb420,_,none⟩) NB427_420.out _).trans (((δt (p:=⟨gb420,_,none⟩) NB427_420.out _).trans (((δt (p:=⟨gb420,_,none⟩) NB427_420.out _).trans (hHeld.2.2.2.2.1)))))))))))),((δt (p:=⟨gb420,_,none⟩) NB427_420.out _).trans (((δt (p:=⟨gb420,_,none⟩) NB427_420.out _).trans (((δt (p:=⟨gb420,_,none⟩) NB427_420.out _).trans (((δt (p:=⟨gb420,_,none⟩) NB427_420.out _).trans (((δt (p:=⟨gb420,_,none⟩) NB427_420.out _).trans (((δt (p:=⟨gb420,_,none⟩) NB427_420.out _).trans (hHeld.2.2.2.2.2))))))))))))⟩ (fun hHeld => ?_)
          clear hK K
          refine ζk (i:=10) (N:=some 5) (v:=?_) (a':=?_) #[τ,τ,τ,τ,τ,τ,τ,τ,τ,τ,τ] rfl rfl (ζj HT_.out (by kernel_rfl)) (fun _ _ _ h=>h) (Or.inl ⟨by rfl,?_⟩) ?_ ?_
          rotate_left
          · intro w';go_simp;with_reducible rfl
          rotate_left
          · simp only [ζl,δa,δb,δc,i64_w,i32_w];rfl
          refine done_ (done_of HT_.out (by kernel_rfl)) ?_
          try go_wp2
          refine bodyPost_ret (results_ct rfl _ _ gb420 42 #[.string a0,.string (rdOf ByteArray.empty t421 0),.int .i64 t429,.int .i64 t432,.int .i64 t435,.bool ((rdOf ByteArray.empty t421 4).toList == ([111,112,101,110]:List UInt8))] (0,0) _ rfl (by (with_reducible repeat (first|refine δn ?_ _|refine δp ?_|refine δo ?_ _));refine δw (cs:=#[.string a0,.string (rdOf ByteArray.empty t421 0),.int .i64 t429,.int .i64 t432,.int .i64 t435,.bool φ]) ?_ 5 _ rfl;(with_reducible repeat (first|refine δn ?_ _|refine δp ?_|refine δo ?_ _));refine δw (cs:=#[.string a0,.string (rdOf ByteArray.empty t421 0),.int .i64 t429,.int .i64 t432,.int .i64 0,.bool φ]) ?_ 4 _ rfl;(with_reducible repeat (first|refine δn ?_ _|refine δp ?_|refine δo ?_ _));refine δw (cs:=#[.string a0,.string (rdOf ByteArray.empty t421 0),.int .i64 t429,.int .i64 0,.int .i64 0,.bool φ]) ?_ 3 _ rfl;(with_reducible repeat (first|refine δn ?_ _|refine δp ?_|refine δo ?_ _));refine δw (cs:=#[.string a0,.string (rdOf ByteArray.empty t421 0),.int .i64 0,.int .i64 0,.int .i64 0,.bool φ]) ?_ 2 _ rfl;(with_reducible repeat (first|refine δn ?_ _|refine δp ?_|refine δo ?_ _));refine δw (cs:=#[.string a0,.string (⟨#[]⟩:ByteArray),.int .i64 0,.int .i64 0,.int .i64 0,.bool φ]) ?_ 1 _ rfl;(with_reducible repeat (first|refine δn ?_ _|refine δp ?_|refine δo ?_ _));refine δw (cs:=#[.string (⟨#[]⟩:ByteArray),.string (⟨#[]⟩:ByteArray),.int .i64 0,.int .i64 0,.int .i64 0,.bool φ]) ?_ 0 _ rfl;(with_reducible repeat (first|refine δn ?_ _|refine δp ?_|refine δo ?_ _));exact BK420.out) Tryd.underlying42 rfl (by kernel_rfl)) rfl ?_
          exact ⟨by first|rfl|(simp [errW_none,errW_some] <;> rfl)|(simp [*,errW_none,errW_some] <;> rfl),by repeat (first|(with_reducible first|exact HB.out|apply δk|apply δi|apply δj|refine δq ?_ GE420.out|refine δq ?_ GE427.out)|exact HB.out)⟩
         ·
          replace c20:=Bool.eq_false_iff.mpr c20
          subst c20
          have H1:(some (a0,rdOf ByteArray.empty t421 0,t429,t432,t435,((rdOf ByteArray.empty t421 4).toList == ([111,112,101,110]:List UInt8)),φ))=some (r1,r2,r3,r4,r5,r6,r7):=by rw [if_neg (show ¬ (φ=τ) by decide)] at H;exact H
          clear H
          have H:=H1
          clear H1
          simp only [Option.some.injEq,Prod.mk.injEq] at H
          obtain ⟨rfl,rfl,rfl,rfl,rfl,rfl,rfl⟩:=H
          try go_wp2
          have n0_:=ζa (ζe HO_6.out)
          have n1_:=ζa (δp BK420.out)
          have n2_:=ζa (δj HB.out)
          clear HO_6
          clear BK420
          clear HB
          have HO_6:=n0_
          have BK420:=n1_
          have HB:=n2_
          clear n0_ n1_ n2_
          obtain ⟨Ao49,co49,eo49⟩:=Kd.R_slice HO_6.out
          (first|subst eo49|(injection eo49 with f1_ f2_ f3_;have f4_:=f1_.symm;have f5_:=f3_.symm;clear f1_ f2_ f3_;subst f4_;subst f5_))
          have p425:0≤(0:Int):=(by omega)
          have q425:0<(t421.length:Int):=of_decide_eq_true (by first|(with_reducible assumption)|assumption)
          obtain ⟨ad425,e425,hx425_0⟩:=Kd.at_string (ζg HO_6.out).2.2 0 p425 q425
          cases e425
          have qi425:(0<t421.length)=True:=eq_true (by omega)
          (try rw [show ((0:Int)).toNat=0 from rfl] at hx425_0)
          (try rw [Addr.add_zero'] at hx425_0)
          replace p425:=eq_true p425
          replace q425:=eq_true q425
          have p426:0≤(4:Int):=(by omega)
          have q426:4<(t421.length:Int):=of_decide_eq_true (by first|(with_reducible assumption)|assumption)
          obtain ⟨ad426,e426,hx426_0⟩:=Kd.at_string (ζg HO_6.out).2.2 4 p426 q426
          obtain rfl:ad425=ad426:=(by injection e426)
          (try simp only [show (4:Int).toNat=4 from rfl,Nat.reduceMul,Nat.reduceEqDiff,Go.Addr.add,↓reduceIte] at hx426_0)
          have qi426:(4<t421.length)=True:=eq_true (by omega)
          (try rw [show ((4:Int)).toNat=4 from rfl] at hx426_0)
          replace p426:=eq_true p426
          replace q426:=eq_true q426
          refine start_ (n:=11) (S:=fun w'=>w'.cell? ad425=some (.string (rdOf ByteArray.empty t421 0))∧w'.cell? ⟨ad425.block,ad425.off+4,none⟩=some (.string (rdOf ByteArray.empty t421 4))) (ds:=[]) #[φ,φ,φ,φ,φ,φ,φ,φ,φ,φ,φ] (by kernel_rfl) rfl rfl ⟨hx425_0,hx426_0⟩ (fun hHeld => ?_);refine with_tabW impl_orderOf.tab4 impl_orderOf.bits4 (fun HT_ HW_ => ?_)
          generalize wc.drew=w48 at HO_6 BK420 HB hx425_0 hx426_0 hHeld ⊢
          refine ζk (i:=0) (N:=some 22) (v:=?_) (a':=?_) #[τ,φ,φ,φ,φ,φ,φ,φ,φ,φ,φ] rfl rfl (ζj HT_.out (by kernel_rfl)) (fun _ _ _ h=>h) (Or.inl ⟨by rfl,?_⟩) ?_ ?_
          rotate_left
          · intro w';go_simp;with_reducible rfl
          rotate_left
          · simp only [ζl,δa,δb,δc,i64_w,i32_w];rfl
          refine ζk (i:=1) (N:=some 23) (v:=?_) (a':=?_) #[τ,τ,φ,φ,φ,φ,φ,φ,φ,φ,φ] rfl rfl (ζj HT_.out (by kernel_rfl)) (fun _ _ _ h=>h) (Or.inl ⟨by rfl,?_⟩) ?_ ?_
          rotate_left
          · intro w';go_simp;with_reducible rfl
          rotate_left
          · simp only [ζl,δa,δb,δc,i64_w,i32_w];rfl
          refine ζk (i:=2) (N:=some 24) (v:=?_) (a':=?_) #[τ,τ,τ,φ,φ,φ,φ,φ,φ,φ,φ] rfl rfl (ζj HT_.out (by kernel_rfl)) (fun _ _ _ h=>h) (Or.inl ⟨by rfl,?_⟩) ?_ ?_
          rotate_left
          · intro w';go_simp;with_reducible rfl
          rotate_left
          · simp only [ζl,δa,δb,δc,i64_w,i32_w];rfl
          refine ζk (i:=4) (N:=some 26) (v:=?_) (a':=?_) #[τ,τ,τ,φ,τ,φ,φ,φ,φ,φ,φ] rfl rfl (ζj HT_.out (by kernel_rfl)) (fun _ _ _ h=>h) (Or.inl ⟨by rfl,?_⟩) ?_ ?_
          rotate_left
          · intro w';go_simp;with_reducible rfl
          rotate_left
          · simp only [ζl,δa,δb,δc,i64_w,i32_w];rfl
          refine ζk (i:=5) (N:=some 27) (v:=?_) (a':=?_) #[τ,τ,τ,φ,τ,τ,φ,φ,φ,φ,φ] rfl rfl (ζj HT_.out (by kernel_rfl)) (fun _ _ _ h=>h) (Or.inl ⟨by rfl,?_⟩) ?_ ?_
          rotate_left
          · intro w';go_simp;with_reducible rfl
          rotate_left
          · simp only [ζl,δa,δb,δc,i64_w,i32_w];rfl
          refine take_ (i:=3) (N:=some 25) (v:=?_) (a':=?_) #[τ,τ,τ,τ,τ,τ,φ,φ,φ,φ,φ] rfl rfl (take_ofW HT_.out HW_.out (by kernel_rfl)) (fun _ _ _ h=>h) (Or.inl ⟨by rfl,?_⟩) hHeld ?_ ?_
          rotate_left
          · rintro w' ⟨s0,s1⟩;go_simp;with_reducible rfl
          rotate_left
          · simp only [ζl,δa,δb,δc,i64_w,i32_w];rfl
          refine take_ (i:=6) (N:=some 28) (v:=?_) (a':=?_) #[τ,τ,τ,τ,τ,τ,τ,φ,φ,φ,φ] rfl rfl (take_ofW HT_.out HW_.out (by kernel_rfl)) (fun _ _ _ h=>h) (Or.inl ⟨by rfl,?_⟩) hHeld ?_ ?_
          rotate_left
          · rintro w' ⟨s0,s1⟩;go_simp;with_reducible rfl
          rotate_left
          · simp only [ζl,δa,δb,δc,i64_w,i32_w];rfl
          refine ζk (i:=7) (N:=some 29) (v:=?_) (a':=?_) #[τ,τ,τ,τ,τ,τ,τ,τ,φ,φ,φ] rfl rfl (ζj HT_.out (by kernel_rfl)) (fun _ _ _ h=>h) (Or.inl ⟨by rfl,?_⟩) ?_ ?_
          rotate_left
          · intro w';go_simp;with_reducible rfl
          rotate_left
          · simp only [ζl,δa,δb,δc,i64_w,i32_w];rfl
          refine ζk (i:=8) (N:=some 30) (v:=?_) (a':=?_) #[τ,τ,τ,τ,τ,τ,τ,τ,τ,φ,φ] rfl rfl (ζj HT_.out (by kernel_rfl)) (fun _ _ _ h=>h) (Or.inl ⟨by rfl,?_⟩) ?_ ?_
          rotate_left
          · intro w';go_simp;with_reducible rfl
          rotate_left
          · simp only [ζl,δa,δb,δc,i64_w,i32_w];rfl
          refine one_ (i:=9) (N:=some 8) #[τ,τ,τ,τ,τ,τ,τ,τ,τ,τ,φ] rfl rfl (one_of HT_.out (by kernel_rfl)) (by decide) (fun K hK => ?_)
          refine box_step ?hg (N:=8) ?hd (cs:=#[.string (⟨#[]⟩:ByteArray),.string (⟨#[]⟩:ByteArray),.int .i64 0,.int .i64 0,.int .i64 0,.bool φ]) (t:=42) ?hr ?_;(case hd=>rfl);(case hg=>rfl);(case hr=>first|(go_simp;done)|(go_simp;rfl))
          intro gb427 hg w50 hbox hb
          have HS0_:=(hb.cell (World.block_lt_of_cell? _ _ (hHeld.1))).trans (hHeld.1)
          have HS1_:=(hb.cell (World.block_lt_of_cell? _ _ (hHeld.2))).trans (hHeld.2)
          have n0_:=ζa (ζh (by (with_reducible repeat (first|apply ζd|apply ζc|apply ζe));exact HO_6.out) hb)
          have n1_:=ζa (blk_below (g:=gb420) (o:=.cells #[.string (⟨#[]⟩:ByteArray),.string (⟨#[]⟩:ByteArray),.int .i64 0,.int .i64 0,.int .i64 0,.bool φ] 42 (0,0)) (by (with_reducible repeat (first|refine δn ?_ _|refine δp ?_|refine δo ?_ _));exact BK420.out) hb)
          have n2_:=ζa (δr (by repeat (first|(with_reducible first|exact HB.out|apply δk|apply δi|apply δj|refine δq ?_ GE420.out)|exact HB.out)) hb)
          have n3_:=ζa (hbox)
          have n4_:=ζa ((by rw [hg];exact (δs (by repeat (first|(with_reducible first|exact HB.out|apply δk|apply δi|apply δj|refine δq ?_ GE420.out)|exact HB.out))):w.heap.size≤gb427))
          have n5_:=ζa ((by rw [hg];exact (δs (by repeat (first|(with_reducible first|exact HB.out|apply δk|apply δi|apply δj|refine δq ?_ GE420.out)|exact HB.out))):w.heap.size≤gb427))
          have n6_:=ζa ((by rw [hg];exact Nat.ne_of_lt (blk_lt (g:=gb420) (o:=.cells #[.string (⟨#[]⟩:ByteArray),.string (⟨#[]⟩:ByteArray),.int .i64 0,.int .i64 0,.int .i64 0,.bool φ] 42 (0,0)) (by (with_reducible repeat (first|refine δn ?_ _|refine δp ?_|refine δo ?_ _));exact BK420.out)):gb420≠gb427))
          have n7_:=ζa ((by rw [hg];exact Nat.ne_of_gt (blk_lt (g:=gb420) (o:=.cells #[.string (⟨#[]⟩:ByteArray),.string (⟨#[]⟩:ByteArray),.int .i64 0,.int .i64 0,.int .i64 0,.bool φ] 42 (0,0)) (by (with_reducible repeat (first|refine δn ?_ _|refine δp ?_|refine δo ?_ _));exact BK420.out)):gb427≠gb420))
          clear HO_6
          clear BK420
          clear HB
          have HO_6:=n0_
          have BK420:=n1_
          have HB:=n2_
          have BK427:=n3_
          have GW427:=n4_
          have GE427:=n5_
          have NB420_427:=n6_
          have NB427_420:=n7_
          clear n0_ n1_ n2_ n3_ n4_ n5_ n6_ n7_
          clear hb hbox hg
          refine hK.out _ _ ⟨HS0_,HS1_⟩ (fun hHeld => ?_)
          clear hK K
          refine norm_ (a':=?_) ?_ ?_
          rotate_left
          ·
           show ζl _ (some 8) _=_
           simp only [ζl,δa,δb,δc,i64_w,i32_w];rfl
          refine one_ (i:=10) (N:=none) #[τ,τ,τ,τ,τ,τ,τ,τ,τ,τ,τ] rfl rfl (one_of HT_.out (by kernel_rfl)) (by decide) (fun K hK => ?_)
          have hs51:w50.cell? ⟨gb427,0,none⟩=some (.string (⟨#[]⟩:ByteArray)):=(δl BK427.out 0).trans rfl
          have hfs51:=δm BK427.out 0
          have hns51_0:=NB420_427.out
          have hms51_0:=NB427_420.out
          have hs52:w50.cell? ⟨gb427,1,none⟩=some (.string (⟨#[]⟩:ByteArray)):=(δl BK427.out 1).trans rfl
          have hfs52:=δm BK427.out 1
          have hns52_0:=NB420_427.out
          have hms52_0:=NB427_420.out
          have hs53:w50.cell? ⟨gb427,2,none⟩=some (.int .i64 0):=(δl BK427.out 2).trans rfl
          have hfs53:=δm BK427.out 2
          have hns53_0:=NB420_427.out
          have hms53_0:=NB427_420.out
          have hs54:w50.cell? ⟨gb427,3,none⟩=some (.int .i64 0):=(δl BK427.out 3).trans rfl
          have hfs54:=δm BK427.out 3
          have hns54_0:=NB420_427.out
          have hms54_0:=NB427_420.out
          have hs55:w50.cell? ⟨gb427,4,none⟩=some (.int .i64 0):=(δl BK427.out 4).trans rfl
          have hfs55:=δm BK427.out 4
          have hns55_0:=NB420_427.out
          have hms55_0:=NB427_420.out
          have hs56:w50.cell? ⟨gb427,5,none⟩=some (.bool φ):=(δl BK427.out 5).trans rfl
          have hfs56:=δm BK427.out 5
          have hns56_0:=NB420_427.out
          have hms56_0:=NB427_420.out
          refine skip_ (w1:=?_) (by rfl) rfl ?_ ?_
          rotate_left
          ·
           go_simp
           rfl
          refine hK.out _ _ ⟨((δt (p:=⟨gb427,_,none⟩) (by first|exact ζb (ζf HO_6.out BK427.out (by decide))|(rw [δu];exact ζb (ζf HO_6.out BK427.out (by decide)))|(show (Addr.add _ _).block≠_;rw [δu];exact ζb (ζf HO_6.out BK427.out (by decide)))|(dsimp only;exact ζb (ζf HO_6.out BK427.out (by decide)))) _).trans (((δt (p:=⟨gb427,_,none⟩) (by first|exact ζb (ζf HO_6.out BK427.out (by decide))|(rw [δu];exact ζb (ζf HO_6.out BK427.out (by decide)))|(show (Addr.add _ _).block≠_;rw [δu];exact ζb (ζf HO_6.out BK427.out (by decide)))|(dsimp only;exact ζb (ζf HO_6.out BK427.out (by decide)))) _).trans (((δt (p:=⟨gb427,_,none⟩) (by first|exact ζb (ζf HO_6.out BK427.out (by decide))|(rw [δu];exact ζb (ζf HO_6.out BK427.out (by decide)))|(show (Addr.add _ _).block≠_;rw [δu];exact ζb (ζf HO_6.out BK427.out (by decide)))|(dsimp only;exact ζb (ζf HO_6.out BK427.out (by decide)))) _).trans (((δt (p:=⟨gb427,_,none⟩) (by first|exact ζb (ζf HO_6.out BK427.out (by decide))|(rw [δu];exact ζb (ζf HO_6.out BK427.out (by decide)))|(show (Addr.add _ _).block≠_;rw [δu];exact ζb (ζf HO_6.out BK427.out (by decide)))|(dsimp only;exact ζb (ζf HO_6.out BK427.out (by decide)))) _).trans (((δt (p:=⟨gb427,_,none⟩) (by first|exact ζb (ζf HO_6.out BK427.out (by decide))|(rw [δu];exact ζb (ζf HO_6.out BK427.out (by decide)))|(show (Addr.add _ _).block≠_;rw [δu];exact ζb (ζf HO_6.out BK427.out (by decide)))|(dsimp only;exact ζb (ζf HO_6.out BK427.out (by decide)))) _).trans (((δt (p:=⟨gb427,_,none⟩) (by first|exact ζb (ζf HO_6.out BK427.out (by decide))|(rw [δu];exact ζb (ζf HO_6.out BK427.out (by decide)))|(show (Addr.add _ _).block≠_;rw [δu];exact ζb (ζf HO_6.out BK427.out (by decide)))|(dsimp only;exact ζb (ζf HO_6.out BK427.out (by decide)))) _).trans (hHeld.1)))))))))))),((δt (p:=⟨gb427,_,none⟩) (by first|exact ζb (ζf HO_6.out BK427.out (by decide))|(rw [δu];exact ζb (ζf HO_6.out BK427.out (by decide)))|(show (Addr.add _ _).block≠_;rw [δu];exact ζb (ζf HO_6.out BK427.out (by decide)))|(dsimp only;exact ζb (ζf HO_6.out BK427.out (by decide)))) _).trans (((δt (p:=⟨gb427,_,none⟩) (by first|exact ζb (ζf HO_6.out BK427.out (by decide))|(rw [δu];exact ζb (ζf HO_6.out BK427.out (by decide)))|(show (Addr.add _ _).block≠_;rw [δu];exact ζb (ζf HO_6.out BK427.out (by decide)))|(dsimp only;exact ζb (ζf HO_6.out BK427.out (by decide)))) _).trans (((δt (p:=⟨gb427,_,none⟩) (by first|exact ζb (ζf HO_6.out BK427.out (by decide))|(rw [δu];exact ζb (ζf HO_6.out BK427.out (by decide)))|(show (Addr.add _ _).block≠_;rw [δu];exact ζb (ζf HO_6.out BK427.out (by decide)))|(dsimp only;exact ζb (ζf HO_6.out BK427.out (by decide)))) _).trans (((δt (p:=⟨gb427,_,none⟩) (by first|exact ζb (ζf HO_6.out BK427.out (by decide))|(rw [δu];exact ζb (ζf HO_6.out BK427.out (by decide)))|(show (Addr.add _ _).block≠_;rw [δu];exact ζb (ζf HO_6.out BK427.out (by decide)))|(dsimp only;exact ζb (ζf HO_6.out BK427.out (by decide)))) _).trans (((δt (p:=⟨gb427,_,none⟩) (by first|exact ζb (ζf HO_6.out BK427.out (by decide))|(rw [δu];exact ζb (ζf HO_6.out BK427.out (by decide)))|(show (Addr.add _ _).block≠_;rw [δu];exact ζb (ζf HO_6.out BK427.out (by decide)))|(dsimp only;exact ζb (ζf HO_6.out BK427.out (by decide)))) _).trans (((δt (p:=⟨gb427,_,none⟩) (by first|exact ζb (ζf HO_6.out BK427.out (by decide))|(rw [δu];exact ζb (ζf HO_6.out BK427.out (by decide)))|(show (Addr.add _ _).block≠_;rw [δu];exact ζb (ζf HO_6.out BK427.out (by decide)))|(dsimp only;exact ζb (ζf HO_6.out BK427.out (by decide)))) _).trans (hHeld.2))))))))))))⟩ (fun hHeld => ?_)
          clear hK K
          refine done_ (done_of HT_.out (by kernel_rfl)) ?_
          have p428:0≤(1:Int):=(by omega)
          have q428:1<(t421.length:Int):=of_decide_eq_true (by first|(with_reducible assumption)|assumption)
          obtain ⟨ad428,e428,hx428_0⟩:=Kd.at_string (ζg HO_6.out).2.2 1 p428 q428
          obtain rfl:ad425=ad428:=(by injection e428)
          (try simp only [show (1:Int).toNat=1 from rfl,Nat.reduceMul,Nat.reduceEqDiff,Go.Addr.add,↓reduceIte] at hx428_0)
          have qi428:(1<t421.length)=True:=eq_true (by omega)
          (try rw [show ((1:Int)).toNat=1 from rfl] at hx428_0)
          have hn428_0:ad425.block≠gb427:=ζb (ζf HO_6.out BK427.out (by decide))
          have hn428_1:ad425.block≠gb427:=ζb (ζf HO_6.out BK427.out (by decide))
          have hn428_2:ad425.block≠gb427:=ζb (ζf HO_6.out BK427.out (by decide))
          have hn428_3:ad425.block≠gb427:=ζb (ζf HO_6.out BK427.out (by decide))
          have hn428_4:ad425.block≠gb427:=ζb (ζf HO_6.out BK427.out (by decide))
          have hn428_5:ad425.block≠gb427:=ζb (ζf HO_6.out BK427.out (by decide))
          replace hx428_0:=(δt (p:=⟨gb427,0,none⟩) (by first|(rw [δu];exact hn428_0)|(show (Addr.add _ _).block≠_;rw [δu];exact hn428_0)|exact hn428_0) (.string a0)).trans hx428_0
          replace hx428_0:=(δt (p:=⟨gb427,1,none⟩) (by first|(rw [δu];exact hn428_1)|(show (Addr.add _ _).block≠_;rw [δu];exact hn428_1)|exact hn428_1) (.string (rdOf ByteArray.empty t421 0))).trans hx428_0
          replace hx428_0:=(δt (p:=⟨gb427,2,none⟩) (by first|(rw [δu];exact hn428_2)|(show (Addr.add _ _).block≠_;rw [δu];exact hn428_2)|exact hn428_2) (.int .i64 0)).trans hx428_0
          replace hx428_0:=(δt (p:=⟨gb427,3,none⟩) (by first|(rw [δu];exact hn428_3)|(show (Addr.add _ _).block≠_;rw [δu];exact hn428_3)|exact hn428_3) (.int .i64 0)).trans hx428_0
          replace hx428_0:=(δt (p:=⟨gb427,4,none⟩) (by first|(rw [δu];exact hn428_4)|(show (Addr.add _ _).block≠_;rw [δu];exact hn428_4)|exact hn428_4) (.int .i64 0)).trans hx428_0
          replace hx428_0:=(δt (p:=⟨gb427,5,none⟩) (by first|(rw [δu];exact hn428_5)|(show (Addr.add _ _).block≠_;rw [δu];exact hn428_5)|exact hn428_5) (.bool ((rdOf ByteArray.empty t421 4).toList == ([111,112,101,110]:List UInt8)))).trans hx428_0
          clear hn428_0
          clear hn428_1
          clear hn428_2
          clear hn428_3
          clear hn428_4
          clear hn428_5
          replace p428:=eq_true p428
          replace q428:=eq_true q428
          try go_wp2_with (first|((with_reducible refine δv (f:=90) rfl ?_);refine goesL_ (some 35) rfl rfl Tryd.func90 (by kernel_rfl) rfl #[.string (rdOf ByteArray.empty t421 1)] rfl (by (try simp only [δd,δe,δf]);first|done|rfl|(simp only [δg,δh];rfl)) ?_;(with_reducible refine (impl_readAmount.calls (rdOf ByteArray.empty t421 1) t429 t430 _ (HT0.out.below (by repeat (first|(with_reducible first|exact HB.out|apply δk|apply δi|apply δj|refine δq ?_ GE420.out|refine δq ?_ GE427.out)|exact HB.out))) A14.out).mono ?_);rintro e w57 ⟨rfl,hb⟩;refine ⟨_,rfl,?_⟩;have n0_:=ζa (ζh (by (with_reducible repeat (first|apply ζd|apply ζc|apply ζe));exact (Kd.R_mono (ζi (p:=⟨gb427,5,none⟩) (ζi (p:=⟨gb427,4,none⟩) (ζi (p:=⟨gb427,3,none⟩) (ζi (p:=⟨gb427,2,none⟩) (ζi (p:=⟨gb427,1,none⟩) (ζi (p:=⟨gb427,0,none⟩) (Kd.R_types HO_6.out BK427.out (by decide)) (fun _ hk=>hk.2) (.string a0)) (fun _ hk=>hk.2) (.string (rdOf ByteArray.empty t421 0))) (fun _ hk=>hk.2) (.int .i64 0)) (fun _ hk=>hk.2) (.int .i64 0)) (fun _ hk=>hk.2) (.int .i64 0)) (fun _ hk=>hk.2) (.bool ((rdOf ByteArray.empty t421 4).toList == ([111,112,101,110]:List UInt8)))) (fun _ h_=>h_.1))) hb);have n1_:=ζa (blk_below (g:=gb420) (o:=.cells #[.string (⟨#[]⟩:ByteArray),.string (⟨#[]⟩:ByteArray),.int .i64 0,.int .i64 0,.int .i64 0,.bool φ] 42 (0,0)) (by (with_reducible repeat (first|refine δn ?_ _|refine δp ?_|refine δo ?_ _));refine blk_far ?_ NB420_427.out _;(with_reducible repeat (first|refine δn ?_ _|refine δp ?_|refine δo ?_ _));refine blk_far ?_ NB420_427.out _;(with_reducible repeat (first|refine δn ?_ _|refine δp ?_|refine δo ?_ _));refine blk_far ?_ NB420_427.out _;(with_reducible repeat (first|refine δn ?_ _|refine δp ?_|refine δo ?_ _));refine blk_far ?_ NB420_427.out _;(with_reducible repeat (first|refine δn ?_ _|refine δp ?_|refine δo ?_ _));refine blk_far ?_ NB420_427.out _;(with_reducible repeat (first|refine δn ?_ _|refine δp ?_|refine δo ?_ _));refine blk_far ?_ NB420_427.out _;(with_reducible repeat (first|refine δn ?_ _|refine δp ?_|refine δo ?_ _));exact BK420.out) hb);have n2_:=ζa (blk_below (g:=gb427) (o:=.cells #[.string a0,.string (rdOf ByteArray.empty t421 0),.int .i64 0,.int .i64 0,.int .i64 0,.bool ((rdOf ByteArray.empty t421 4).toList == ([111,112,101,110]:List UInt8))] 42 (0,0)) (by (with_reducible repeat (first|refine δn ?_ _|refine δp ?_|refine δo ?_ _));refine δw (cs:=#[.string a0,.string (rdOf ByteArray.empty t421 0),.int .i64 0,.int .i64 0,.int .i64 0,.bool φ]) ?_ 5 _ rfl;(with_reducible repeat (first|refine δn ?_ _|refine δp ?_|refine δo ?_ _));refine δw (cs:=#[.string a0,.string (rdOf ByteArray.empty t421 0),.int .i64 0,.int .i64 0,.int .i64 0,.bool φ]) ?_ 4 _ rfl;(with_reducible repeat (first|refine δn ?_ _|refine δp ?_|refine δo ?_ _));refine δw (cs:=#[.string a0,.string (rdOf ByteArray.empty t421 0),.int .i64 0,.int .i64 0,.int .i64 0,.bool φ]) ?_ 3 _ rfl;(with_reducible repeat (first|refine δn ?_ _|refine δp ?_|refine δo ?_ _));refine δw (cs:=#[.string a0,.string (rdOf ByteArray.empty t421 0),.int .i64 0,.int .i64 0,.int .i64 0,.bool φ]) ?_ 2 _ rfl;(with_reducible repeat (first|refine δn ?_ _|refine δp ?_|refine δo ?_ _));refine δw (cs:=#[.string a0,.string (⟨#[]⟩:ByteArray),.int .i64 0,.int .i64 0,.int .i64 0,.bool φ]) ?_ 1 _ rfl;(with_reducible repeat (first|refine δn ?_ _|refine δp ?_|refine δo ?_ _));refine δw (cs:=#[.string (⟨#[]⟩:ByteArray),.string (⟨#[]⟩:ByteArray),.int .i64 0,.int .i64 0,.int .i64 0,.bool φ]) ?_ 0 _ rfl;(with_reducible repeat (first|refine δn ?_ _|refine δp ?_|refine δo ?_ _));exact BK427.out) hb);have n3_:=ζa (δr (by repeat (first|(with_reducible first|exact HB.out|apply δk|apply δi|apply δj|refine δq ?_ GE420.out|refine δq ?_ GE427.out)|exact HB.out)) hb);clear HO_6;clear BK420;clear BK427;clear HB;have HO_6:=n0_;have BK420:=n1_;have BK427:=n2_;have HB:=n3_;clear n0_ n1_ n2_ n3_;(try clear hb);(try clear hb2);(try clear hk);(try clear hi);have hnb58:=NB427_420.out;have hnc58:=NB420_427.out;have hcz59_0:w57.cell? ⟨gb427,0,none⟩=some (.string a0):=(δl BK427.out 0).trans rfl;have hcz59_1:w57.cell? ⟨gb427,1,none⟩=some (.string (rdOf ByteArray.empty t421 0)):=(δl BK427.out 1).trans rfl;have hcz59_2:w57.cell? ⟨gb427,2,none⟩=some (.int .i64 0):=(δl BK427.out 2).trans rfl;have hcz59_3:w57.cell? ⟨gb427,3,none⟩=some (.int .i64 0):=(δl BK427.out 3).trans rfl;have hcz59_4:w57.cell? ⟨gb427,4,none⟩=some (.int .i64 0):=(δl BK427.out 4).trans rfl;have hcz59_5:w57.cell? ⟨gb427,5,none⟩=some (.bool ((rdOf ByteArray.empty t421 4).toList == ([111,112,101,110]:List UInt8))):=(δl BK427.out 5).trans rfl;have hfz59_0:=δm BK427.out 0;have hfz59_1:=δm BK427.out 1;have hfz59_2:=δm BK427.out 2;have hfz59_3:=δm BK427.out 3;have hfz59_4:=δm BK427.out 4;have hfz59_5:=δm BK427.out 5;have p431:0≤(2:Int):=(by omega);have q431:2<(t421.length:Int):=of_decide_eq_true (by first|(with_reducible assumption)|assumption);obtain ⟨ad431,e431,hx431_0⟩:=Kd.at_string (ζg HO_6.out).2.2 2 p431 q431;obtain rfl:ad425=ad431:=(by injection e431);(try simp only [show (2:Int).toNat=2 from rfl,Nat.reduceMul,Nat.reduceEqDiff,Go.Addr.add,↓reduceIte] at hx431_0);have qi431:(2<t421.length)=True:=eq_true (by omega);(try rw [show ((2:Int)).toNat=2 from rfl] at hx431_0);have hn431_0:ad425.block≠gb427:=ζb (ζf HO_6.out BK427.out (by decide));replace hx431_0:=(δt (p:=⟨gb427,2,none⟩) (by first|(rw [δu];exact hn431_0)|(show (Addr.add _ _).block≠_;rw [δu];exact hn431_0)|exact hn431_0) (.int .i64 t429)).trans hx431_0;clear hn431_0;replace p431:=eq_true p431;replace q431:=eq_true q431)|((with_reducible refine δv (f:=90) rfl ?_);refine goesL_ (some 43) rfl rfl Tryd.func90 (by kernel_rfl) rfl #[.string (rdOf ByteArray.empty t421 2)] rfl (by (try simp only [δd,δe,δf]);first|done|rfl|(simp only [δg,δh];rfl)) ?_;(with_reducible refine (impl_readAmount.calls (rdOf ByteArray.empty t421 2) t432 t433 _ (HT0.out.below (by repeat (first|(with_reducible first|exact HB.out|apply δk|apply δi|apply δj|refine δq ?_ GE420.out|refine δq ?_ GE427.out)|exact HB.out))) A16.out).mono ?_);rintro e w60 ⟨rfl,hb⟩;refine ⟨_,rfl,?_⟩;have n0_:=ζa (ζh (by (with_reducible repeat (first|apply ζd|apply ζc|apply ζe));exact (Kd.R_mono (ζi (p:=⟨gb427,2,none⟩) (Kd.R_types HO_6.out BK427.out (by decide)) (fun _ hk=>hk.2) (.int .i64 t429)) (fun _ h_=>h_.1))) hb);have n1_:=ζa (blk_below (g:=gb420) (o:=.cells #[.string (⟨#[]⟩:ByteArray),.string (⟨#[]⟩:ByteArray),.int .i64 0,.int .i64 0,.int .i64 0,.bool φ] 42 (0,0)) (by (with_reducible repeat (first|refine δn ?_ _|refine δp ?_|refine δo ?_ _));refine blk_far ?_ NB420_427.out _;(with_reducible repeat (first|refine δn ?_ _|refine δp ?_|refine δo ?_ _));exact BK420.out) hb);have n2_:=ζa (blk_below (g:=gb427) (o:=.cells #[.string a0,.string (rdOf ByteArray.empty t421 0),.int .i64 t429,.int .i64 0,.int .i64 0,.bool ((rdOf ByteArray.empty t421 4).toList == ([111,112,101,110]:List UInt8))] 42 (0,0)) (by (with_reducible repeat (first|refine δn ?_ _|refine δp ?_|refine δo ?_ _));refine δw (cs:=#[.string a0,.string (rdOf ByteArray.empty t421 0),.int .i64 0,.int .i64 0,.int .i64 0,.bool ((rdOf ByteArray.empty t421 4).toList == ([111,112,101,110]:List UInt8))]) ?_ 2 _ rfl;(with_reducible repeat (first|refine δn ?_ _|refine δp ?_|refine δo ?_ _));exact BK427.out) hb);have n3_:=ζa (δr (by repeat (first|(with_reducible first|exact HB.out|apply δk|apply δi|apply δj|refine δq ?_ GE420.out|refine δq ?_ GE427.out)|exact HB.out)) hb);clear HO_6;clear BK420;clear BK427;clear HB;have HO_6:=n0_;have BK420:=n1_;have BK427:=n2_;have HB:=n3_;clear n0_ n1_ n2_ n3_;(try clear hb);(try clear hb2);(try clear hk);(try clear hi);have hcz61_0:w60.cell? ⟨gb427,0,none⟩=some (.string a0):=(δl BK427.out 0).trans rfl;have hcz61_1:w60.cell? ⟨gb427,1,none⟩=some (.string (rdOf ByteArray.empty t421 0)):=(δl BK427.out 1).trans rfl;have hcz61_2:w60.cell? ⟨gb427,2,none⟩=some (.int .i64 t429):=(δl BK427.out 2).trans rfl;have hcz61_3:w60.cell? ⟨gb427,3,none⟩=some (.int .i64 0):=(δl BK427.out 3).trans rfl;have hcz61_4:w60.cell? ⟨gb427,4,none⟩=some (.int .i64 0):=(δl BK427.out 4).trans rfl;have hcz61_5:w60.cell? ⟨gb427,5,none⟩=some (.bool ((rdOf ByteArray.empty t421 4).toList == ([111,112,101,110]:List UInt8))):=(δl BK427.out 5).trans rfl;have hfz61_0:=δm BK427.out 0;have hfz61_1:=δm BK427.out 1;have hfz61_2:=δm BK427.out 2;have hfz61_3:=δm BK427.out 3;have hfz61_4:=δm BK427.out 4;have hfz61_5:=δm BK427.out 5;have p434:0≤(3:Int):=(by omega);have q434:3<(t421.length:Int):=of_decide_eq_true (by first|(with_reducible assumption)|assumption);obtain ⟨ad434,e434,hx434_0⟩:=Kd.at_string (ζg HO_6.out).2.2 3 p434 q434;obtain rfl:ad425=ad434:=(by injection e434);(try simp only [show (3:Int).toNat=3 from rfl,Nat.reduceMul,Nat.reduceEqDiff,Go.Addr.add,↓reduceIte] at hx434_0);have qi434:(3<t421.length)=True:=eq_true (by omega);(try rw [show ((3:Int)).toNat=3 from rfl] at hx434_0);have hn434_0:ad425.block≠gb427:=ζb (ζf HO_6.out BK427.out (by decide));replace hx434_0:=(δt (p:=⟨gb427,3,none⟩) (by first|(rw [δu];exact hn434_0)|(show (Addr.add _ _).block≠_;rw [δu];exact hn434_0)|exact hn434_0) (.int .i64 t432)).trans hx434_0;clear hn434_0;replace p434:=eq_true p434;replace q434:=eq_true q434)|((with_reducible refine δv (f:=90) rfl ?_);refine goesL_ (some 51) rfl rfl Tryd.func90 (by kernel_rfl) rfl #[.string (rdOf ByteArray.empty t421 3)] rfl (by (try simp only [δd,δe,δf]);first|done|rfl|(simp only [δg,δh];rfl)) ?_;(with_reducible refine (impl_readAmount.calls (rdOf ByteArray.empty t421 3) t435 t436 _ (HT0.out.below (by repeat (first|(with_reducible first|exact HB.out|apply δk|apply δi|apply δj|refine δq ?_ GE420.out|refine δq ?_ GE427.out)|exact HB.out))) A18.out).mono ?_);rintro e w62 ⟨rfl,hb⟩;refine ⟨_,rfl,?_⟩;have n0_:=ζa (ζh (by (with_reducible repeat (first|apply ζd|apply ζc|apply ζe));exact (Kd.R_mono (ζi (p:=⟨gb427,3,none⟩) (Kd.R_types HO_6.out BK427.out (by decide)) (fun _ hk=>hk.2) (.int .i64 t432)) (fun _ h_=>h_.1))) hb);have n1_:=ζa (blk_below (g:=gb420) (o:=.cells #[.string (⟨#[]⟩:ByteArray),.string (⟨#[]⟩:ByteArray),.int .i64 0,.int .i64 0,.int .i64 0,.bool φ] 42 (0,0)) (by (with_reducible repeat (first|refine δn ?_ _|refine δp ?_|refine δo ?_ _));refine blk_far ?_ NB420_427.out _;(with_reducible repeat (first|refine δn ?_ _|refine δp ?_|refine δo ?_ _));exact BK420.out) hb);have n2_:=ζa (blk_below (g:=gb427) (o:=.cells #[.string a0,.string (rdOf ByteArray.empty t421 0),.int .i64 t429,.int .i64 t432,.int .i64 0,.bool ((rdOf ByteArray.empty t421 4).toList == ([111,112,101,110]:List UInt8))] 42 (0,0)) (by (with_reducible repeat (first|refine δn ?_ _|refine δp ?_|refine δo ?_ _));refine δw (cs:=#[.string a0,.string (rdOf ByteArray.empty t421 0),.int .i64 t429,.int .i64 0,.int .i64 0,.bool ((rdOf ByteArray.empty t421 4).toList == ([111,112,101,110]:List UInt8))]) ?_ 3 _ rfl;(with_reducible repeat (first|refine δn ?_ _|refine δp ?_|refine δo ?_ _));exact BK427.out) hb);have n3_:=ζa (δr (by repeat (first|(with_reducible first|exact HB.out|apply δk|apply δi|apply δj|refine δq ?_ GE420.out|refine δq ?_ GE427.out)|exact HB.out)) hb);clear HO_6;clear BK420;clear BK427;clear HB;have HO_6:=n0_;have BK420:=n1_;have BK427:=n2_;have HB:=n3_;clear n0_ n1_ n2_ n3_;(try clear hb);(try clear hb2);(try clear hk);(try clear hi);have hcz63_0:w62.cell? ⟨gb427,0,none⟩=some (.string a0):=(δl BK427.out 0).trans rfl;have hcz63_1:w62.cell? ⟨gb427,1,none⟩=some (.string (rdOf ByteArray.empty t421 0)):=(δl BK427.out 1).trans rfl;have hcz63_2:w62.cell? ⟨gb427,2,none⟩=some (.int .i64 t429):=(δl BK427.out 2).trans rfl;have hcz63_3:w62.cell? ⟨gb427,3,none⟩=some (.int .i64 t432):=(δl BK427.out 3).trans rfl;have hcz63_4:w62.cell? ⟨gb427,4,none⟩=some (.int .i64 0):=(δl BK427.out 4).trans rfl;have hcz63_5:w62.cell? ⟨gb427,5,none⟩=some (.bool ((rdOf ByteArray.empty t421 4).toList == ([111,112,101,110]:List UInt8))):=(δl BK427.out 5).trans rfl;have hfz63_0:=δm BK427.out 0;have hfz63_1:=δm BK427.out 1;have hfz63_2:=δm BK427.out 2;have hfz63_3:=δm BK427.out 3;have hfz63_4:=δm BK427.out 4;have hfz63_5:=δm BK427.out 5))
          have n0_:Aside0 (Kd.R Kd.string 9 (w62.setCell ⟨gb427,4,none⟩ (.int .i64 t435)) w.heap.size (fun _=>True) (.slice (some ad425) t421.length co49) t421):=⟨by (with_reducible repeat (first|apply ζd|apply ζc|apply ζe));exact Kd.R_mono (ζi (p:=⟨gb427,4,none⟩) (Kd.R_types HO_6.out BK427.out (by decide)) (fun _ hk=>hk.2) (.int .i64 t435)) (fun _ hk=>trivial)⟩
          have n1_:Aside0 ((w62.setCell ⟨gb427,4,none⟩ (.int .i64 t435)).heap[gb420]? = some (.cells #[.string (⟨#[]⟩:ByteArray),.string (⟨#[]⟩:ByteArray),.int .i64 0,.int .i64 0,.int .i64 0,.bool φ] 42 (0,0))):=⟨by (with_reducible repeat (first|refine δn ?_ _|refine δp ?_|refine δo ?_ _));refine blk_far ?_ NB420_427.out _;(with_reducible repeat (first|refine δn ?_ _|refine δp ?_|refine δo ?_ _));exact BK420.out⟩
          have n2_:Aside0 ((w62.setCell ⟨gb427,4,none⟩ (.int .i64 t435)).heap[gb427]? = some (.cells #[.string a0,.string (rdOf ByteArray.empty t421 0),.int .i64 t429,.int .i64 t432,.int .i64 t435,.bool ((rdOf ByteArray.empty t421 4).toList == ([111,112,101,110]:List UInt8))] 42 (0,0))):=⟨by (with_reducible repeat (first|refine δn ?_ _|refine δp ?_|refine δo ?_ _));refine δw (cs:=#[.string a0,.string (rdOf ByteArray.empty t421 0),.int .i64 t429,.int .i64 t432,.int .i64 0,.bool ((rdOf ByteArray.empty t421 4).toList == ([111,112,101,110]:List UInt8))]) ?_ 4 _ rfl;(with_reducible repeat (first|refine δn ?_ _|refine δp ?_|refine δo ?_ _));exact BK427.out⟩
          have n3_:Aside0 (Below w.heap.size w (w62.setCell ⟨gb427,4,none⟩ (.int .i64 t435))):=⟨by repeat (first|(with_reducible first|exact HB.out|apply δk|apply δi|apply δj|refine δq ?_ GE420.out|refine δq ?_ GE427.out)|exact HB.out)⟩
          (try clear HO_6)
          (try clear BK420)
          (try clear BK427)
          (try clear HB)
          generalize (w62.setCell ⟨gb427,4,none⟩ (.int .i64 t435))=w64 at n0_ n1_ n2_ n3_ ⊢
          have HO_6:=n0_
          have BK420:=n1_
          have BK427:=n2_
          have HB:=n3_
          clear n0_ n1_ n2_ n3_
          have n0_:=ζa (ζe HO_6.out)
          have n1_:=ζa (δp BK420.out)
          have n2_:=ζa (δp BK427.out)
          have n3_:=ζa (δj HB.out)
          clear HO_6
          clear BK420
          clear BK427
          clear HB
          have HO_6:=n0_
          have BK420:=n1_
          have BK427:=n2_
          have HB:=n3_
          clear n0_ n1_ n2_ n3_
          refine start_ (n:=11) (S:=fun w'=>w'.cell? ⟨gb427,0,none⟩=some (.string a0)∧w'.cell? ⟨gb427,1,none⟩=some (.string (rdOf ByteArray.empty t421 0))∧w'.cell? ⟨gb427,2,none⟩=some (.int .i64 t429)∧w'.cell? ⟨gb427,3,none⟩=some (.int .i64 t432)∧w'.cell? ⟨gb427,4,none⟩=some (.int .i64 t435)∧w'.cell? ⟨gb427,5,none⟩=some (.bool ((rdOf ByteArray.empty t421 4).toList == ([111,112,101,110]:List UInt8)))) (ds:=[]) #[φ,φ,φ,φ,φ,φ,φ,φ,φ,φ,φ] (by kernel_rfl) rfl rfl ⟨(δl BK427.out 0).trans rfl,(δl BK427.out 1).trans rfl,(δl BK427.out 2).trans rfl,(δl BK427.out 3).trans rfl,(δl BK427.out 4).trans rfl,(δl BK427.out 5).trans rfl⟩ (fun hHeld => ?_);refine with_tabW impl_orderOf.tab8 impl_orderOf.bits8 (fun HT_ HW_ => ?_)
          generalize w64.drew=w65 at HO_6 BK420 BK427 HB hHeld ⊢
          refine take_ (i:=0) (N:=some 55) (v:=?_) (a':=?_) #[τ,φ,φ,φ,φ,φ,φ,φ,φ,φ,φ] rfl rfl (take_ofW HT_.out HW_.out (by kernel_rfl)) (fun _ _ _ h=>h) (Or.inl ⟨by rfl,?_⟩) hHeld ?_ ?_
          rotate_left
          · rintro w' ⟨s0,s1,s2,s3,s4,s5⟩;go_simp;with_reducible rfl
          rotate_left
          · simp only [ζl,δa,δb,δc,i64_w,i32_w];rfl
          refine take_ (i:=1) (N:=some 56) (v:=?_) (a':=?_) #[τ,τ,φ,φ,φ,φ,φ,φ,φ,φ,φ] rfl rfl (take_ofW HT_.out HW_.out (by kernel_rfl)) (fun _ _ _ h=>h) (Or.inl ⟨by rfl,?_⟩) hHeld ?_ ?_
          rotate_left
          · rintro w' ⟨s0,s1,s2,s3,s4,s5⟩;go_simp;with_reducible rfl
          rotate_left
          · simp only [ζl,δa,δb,δc,i64_w,i32_w];rfl
          refine one_ (i:=2) (N:=some 57) #[τ,τ,τ,φ,φ,φ,φ,φ,φ,φ,φ] rfl rfl (one_of HT_.out (by kernel_rfl)) (by decide) (fun K hK => ?_)
          refine goes_ Tryd.func132 (by kernel_rfl) rfl #[.agg #[.string a0,.string (rdOf ByteArray.empty t421 0),.int .i64 t429,.int .i64 t432,.int .i64 t435,.bool ((rdOf ByteArray.empty t421 4).toList == ([111,112,101,110]:List UInt8))]] (by rfl) rfl rfl (by (try simp only [δd,δe,δf]);first|done|rfl|(simp only [δg,δh];rfl)) ?_
          with_reducible refine (impl_OrderOK.calls kj3 a0 (rdOf ByteArray.empty t421 0) t429 t432 t435 ((rdOf ByteArray.empty t421 4).toList == ([111,112,101,110]:List UInt8)) φ _ A19.out).mono ?_
          rintro e w66 ⟨rfl,hb⟩
          refine ⟨_,rfl,?_⟩
          have n0_:=ζa (ζh (by (with_reducible repeat (first|apply ζd|apply ζc|apply ζe));exact HO_6.out) hb)
          have n1_:=ζa (blk_below (g:=gb420) (o:=.cells #[.string (⟨#[]⟩:ByteArray),.string (⟨#[]⟩:ByteArray),.int .i64 0,.int .i64 0,.int .i64 0,.bool φ] 42 (0,0)) (by (with_reducible repeat (first|refine δn ?_ _|refine δp ?_|refine δo ?_ _));exact BK420.out) hb)
          have n2_:=ζa (blk_below (g:=gb427) (o:=.cells #[.string a0,.string (rdOf ByteArray.empty t421 0),.int .i64 t429,.int .i64 t432,.int .i64 t435,.bool ((rdOf ByteArray.empty t421 4).toList == ([111,112,101,110]:List UInt8))] 42 (0,0)) (by (with_reducible repeat (first|refine δn ?_ _|refine δp ?_|refine δo ?_ _));exact BK427.out) hb)
          have n3_:=ζa (δr (by repeat (first|(with_reducible first|exact HB.out|apply δk|apply δi|apply δj|refine δq ?_ GE420.out|refine δq ?_ GE427.out)|exact HB.out)) hb)
          clear HO_6
          clear BK420
          clear BK427
          clear HB
          have HO_6:=n0_
          have BK420:=n1_
          have BK427:=n2_
          have HB:=n3_
          clear n0_ n1_ n2_ n3_
          (try clear hb)
          (try clear hb2)
          (try clear hk)
          (try clear hi)
          refine hK.out _ _ ⟨(δl BK427.out 0).trans rfl,(δl BK427.out 1).trans rfl,(δl BK427.out 2).trans rfl,(δl BK427.out 3).trans rfl,(δl BK427.out 4).trans rfl,(δl BK427.out 5).trans rfl⟩ (fun hHeld => ?_)
          clear hK K
          refine norm_ (a':=?_) ?_ ?_
          rotate_left
          ·
           show ζl _ (some 57) _=_
           simp only [ζl,δa,δb,δc,i64_w,i32_w];rfl
          refine ζk (i:=3) (N:=some 58) (v:=?_) (a':=?_) #[τ,τ,τ,τ,φ,φ,φ,φ,φ,φ,φ] rfl rfl (ζj HT_.out (by kernel_rfl)) (fun _ _ _ h=>h) (Or.inl ⟨by rfl,?_⟩) ?_ ?_
          rotate_left
          · intro w';go_simp;with_reducible rfl
          rotate_left
          · simp only [ζl,δa,δb,δc,i64_w,i32_w];rfl
          refine ζk (i:=4) (N:=some 59) (v:=undef) (a':=?_) #[τ,τ,τ,τ,τ,φ,φ,φ,φ,φ,φ] rfl rfl (ζj HT_.out (by kernel_rfl)) (fun _ _ _ h=>h) (Or.inr ⟨by rfl,rfl⟩) ?_ ?_
          rotate_left
          · simp only [ζl,δa,δb,δc,i64_w,i32_w];rfl
          refine ζk (i:=5) (N:=some 60) (v:=undef) (a':=?_) #[τ,τ,τ,τ,τ,τ,φ,φ,φ,φ,φ] rfl rfl (ζj HT_.out (by kernel_rfl)) (fun _ _ _ h=>h) (Or.inr ⟨by rfl,rfl⟩) ?_ ?_
          rotate_left
          · simp only [ζl,δa,δb,δc,i64_w,i32_w];rfl
          refine ζk (i:=6) (N:=some 61) (v:=undef) (a':=?_) #[τ,τ,τ,τ,τ,τ,τ,φ,φ,φ,φ] rfl rfl (ζj HT_.out (by kernel_rfl)) (fun _ _ _ h=>h) (Or.inr ⟨by rfl,rfl⟩) ?_ ?_
          rotate_left
          · simp only [ζl,δa,δb,δc,i64_w,i32_w];rfl
          refine ζk (i:=7) (N:=some 62) (v:=undef) (a':=?_) #[τ,τ,τ,τ,τ,τ,τ,τ,φ,φ,φ] rfl rfl (ζj HT_.out (by kernel_rfl)) (fun _ _ _ h=>h) (Or.inr ⟨by rfl,rfl⟩) ?_ ?_
          rotate_left
          · simp only [ζl,δa,δb,δc,i64_w,i32_w];rfl
          refine ζk (i:=8) (N:=some 63) (v:=?_) (a':=?_) #[τ,τ,τ,τ,τ,τ,τ,τ,τ,φ,φ] rfl rfl (ζj HT_.out (by kernel_rfl)) (fun _ _ _ h=>h) (Or.inl ⟨by rfl,?_⟩) ?_ ?_
          rotate_left
          · intro w';go_simp;with_reducible rfl
          rotate_left
          · simp only [ζl,δa,δb,δc,i64_w,i32_w];rfl
          refine one_ (i:=9) (N:=none) #[τ,τ,τ,τ,τ,τ,τ,τ,τ,τ,φ] rfl rfl (one_of HT_.out (by kernel_rfl)) (by decide) (fun K hK => ?_)
          have hs67:w66.cell? ⟨gb420,0,none⟩=some (.string (⟨#[]⟩:ByteArray)):=(δl BK420.out 0).trans rfl
          have hfs67:=δm BK420.out 0
          have hns67_1:=NB427_420.out
          have hms67_1:=NB420_427.out
          have hs68:w66.cell? ⟨gb420,1,none⟩=some (.string (⟨#[]⟩:ByteArray)):=(δl BK420.out 1).trans rfl
          have hfs68:=δm BK420.out 1
          have hns68_1:=NB427_420.out
          have hms68_1:=NB420_427.out
          have hs69:w66.cell? ⟨gb420,2,none⟩=some (.int .i64 0):=(δl BK420.out 2).trans rfl
          have hfs69:=δm BK420.out 2
          have hns69_1:=NB427_420.out
          have hms69_1:=NB420_427.out
          have hs70:w66.cell? ⟨gb420,3,none⟩=some (.int .i64 0):=(δl BK420.out 3).trans rfl
          have hfs70:=δm BK420.out 3
          have hns70_1:=NB427_420.out
          have hms70_1:=NB420_427.out
          have hs71:w66.cell? ⟨gb420,4,none⟩=some (.int .i64 0):=(δl BK420.out 4).trans rfl
          have hfs71:=δm BK420.out 4
          have hns71_1:=NB427_420.out
          have hms71_1:=NB420_427.out
          have hs72:w66.cell? ⟨gb420,5,none⟩=some (.bool φ):=(δl BK420.out 5).trans rfl
          have hfs72:=δm BK420.out 5
          have hns72_1:=NB427_420.out
          have hms72_1:=NB420_427.out
          refine skip_ (w1:=?_) (by rfl) rfl ?_ ?_
          rotate_left
          ·
           go_simp
           rfl
          refine hK.out _ _ ⟨((δt (p:=⟨gb420,_,none⟩) NB427_420.out _).trans (((δt (p:=⟨gb420,_,none⟩) NB427_420.out _).trans (((δt (p:=⟨gb420,_,none⟩) NB427_420.out _).trans (((δt (p:=⟨gb420,_,none⟩) NB427_420.out _).trans (((δt (p:=⟨gb420,_,none⟩) NB427_420.out _).trans (((δt (p:=⟨gb420,_,none⟩) NB427_420.out _).trans (hHeld.1)))))))))))),((δt (p:=⟨gb420,_,none⟩) NB427_420.out _).trans (((δt (p:=⟨gb420,_,none⟩) NB427_420.out _).trans (((δt (p:=⟨gb420,_,none⟩) NB427_420.out _).trans (((δt (p:=⟨gb420,_,none⟩) NB427_420.out _).trans (((δt (p:=⟨gb420,_,none⟩) NB427_420.out _).trans (((δt (p:=⟨gb420,_,none⟩) NB427_420.out _).trans (hHeld.2.1)))))))))))),((δt (p:=⟨gb420,_,none⟩) NB427_420.out _).trans (((δt (p:=⟨gb420,_,none⟩) NB427_420.out _).trans (((δt (p:=⟨gb420,_,none⟩) NB427_420.out _).trans (((δt (p:=⟨gb420,_,none⟩) NB427_420.out _).trans (((δt (p:=⟨gb420,_,none⟩) NB427_420.out _).trans (((δt (p:=⟨gb420,_,none⟩) NB427_420.out _).trans (hHeld.2.2.1)))))))))))),((δt (p:=⟨gb420,_,none⟩) NB427_420.out _).trans (((δt (p:=⟨gb420,_,none⟩) NB427_420.out _).trans (((δt (p:=⟨gb420,_,none⟩) NB427_420.out _).trans (((δt (p:=⟨gb420,_,none⟩) NB427_420.out _).trans (((δt (p:=⟨gb420,_,none⟩) NB427_420.out _).trans (((δt (p:=⟨gb420,_,none⟩) NB427_420.out _).trans (hHeld.2.2.2.1)))))))))))),((δt (p:=⟨gb420,_,none⟩) NB427_420.out _).trans (((δt (p:=⟨gb420,_,none⟩) NB427_420.out _).trans (((δt (p:=⟨gb420,_,none⟩) NB427_420.out _).trans (((δt (p:=⟨gb420,_,none⟩) NB427_420.out _).trans (((δt (p:=⟨gb420,_,none⟩) NB427_420.out _).trans (((δt (p:=⟨gb420,_,none⟩) NB427_420.out _).trans (hHeld.2.2.2.2.1)))))))))))),((δt (p:=⟨gb420,_,none⟩) NB427_420.out _).trans (((δt (p:=⟨gb420,_,none⟩) NB427_420.out _).trans (((δt (p:=⟨gb420,_,none⟩) NB427_420.out _).trans (((δt (p:=⟨gb420,_,none⟩) NB427_420.out _).trans (((δt (p:=⟨gb420,_,none⟩) NB427_420.out _).trans (((δt (p:=⟨gb420,_,none⟩) NB427_420.out _).trans (hHeld.2.2.2.2.2))))))))))))⟩ (fun hHeld => ?_)
          clear hK K
          refine ζk (i:=10) (N:=some 5) (v:=?_) (a':=?_) #[τ,τ,τ,τ,τ,τ,τ,τ,τ,τ,τ] rfl rfl (ζj HT_.out (by kernel_rfl)) (fun _ _ _ h=>h) (Or.inl ⟨by rfl,?_⟩) ?_ ?_
          rotate_left
          · intro w';go_simp;with_reducible rfl
          rotate_left
          · simp only [ζl,δa,δb,δc,i64_w,i32_w];rfl
          refine done_ (done_of HT_.out (by kernel_rfl)) ?_
          try go_wp2
          refine bodyPost_ret (results_ct rfl _ _ gb420 42 #[.string a0,.string (rdOf ByteArray.empty t421 0),.int .i64 t429,.int .i64 t432,.int .i64 t435,.bool ((rdOf ByteArray.empty t421 4).toList == ([111,112,101,110]:List UInt8))] (0,0) _ rfl (by (with_reducible repeat (first|refine δn ?_ _|refine δp ?_|refine δo ?_ _));refine δw (cs:=#[.string a0,.string (rdOf ByteArray.empty t421 0),.int .i64 t429,.int .i64 t432,.int .i64 t435,.bool φ]) ?_ 5 _ rfl;(with_reducible repeat (first|refine δn ?_ _|refine δp ?_|refine δo ?_ _));refine δw (cs:=#[.string a0,.string (rdOf ByteArray.empty t421 0),.int .i64 t429,.int .i64 t432,.int .i64 0,.bool φ]) ?_ 4 _ rfl;(with_reducible repeat (first|refine δn ?_ _|refine δp ?_|refine δo ?_ _));refine δw (cs:=#[.string a0,.string (rdOf ByteArray.empty t421 0),.int .i64 t429,.int .i64 0,.int .i64 0,.bool φ]) ?_ 3 _ rfl;(with_reducible repeat (first|refine δn ?_ _|refine δp ?_|refine δo ?_ _));refine δw (cs:=#[.string a0,.string (rdOf ByteArray.empty t421 0),.int .i64 0,.int .i64 0,.int .i64 0,.bool φ]) ?_ 2 _ rfl;(with_reducible repeat (first|refine δn ?_ _|refine δp ?_|refine δo ?_ _));refine δw (cs:=#[.string a0,.string (⟨#[]⟩:ByteArray),.int .i64 0,.int .i64 0,.int .i64 0,.bool φ]) ?_ 1 _ rfl;(with_reducible repeat (first|refine δn ?_ _|refine δp ?_|refine δo ?_ _));refine δw (cs:=#[.string (⟨#[]⟩:ByteArray),.string (⟨#[]⟩:ByteArray),.int .i64 0,.int .i64 0,.int .i64 0,.bool φ]) ?_ 0 _ rfl;(with_reducible repeat (first|refine δn ?_ _|refine δp ?_|refine δo ?_ _));exact BK420.out) Tryd.underlying42 rfl (by kernel_rfl)) rfl ?_
          exact ⟨by first|rfl|(simp [errW_none,errW_some] <;> rfl)|(simp [*,errW_none,errW_some] <;> rfl),by repeat (first|(with_reducible first|exact HB.out|apply δk|apply δi|apply δj|refine δq ?_ GE420.out|refine δq ?_ GE427.out)|exact HB.out)⟩
        ·
         rw [if_neg c17] at H
         exact absurd H (by simp)
       ·
        rw [if_neg c15] at H
        exact absurd H (by simp)
      ·
       rw [if_neg c13] at H
       exact absurd H (by simp)
     ·
      rw [if_neg c12] at H
      exact absurd H (by simp)
    ·
     rw [if_neg c11] at H
     exact absurd H (by simp)



/-! ### internal_stringslite_HasPrefix: function 138 -/
def internal_stringslite_HasPrefix.f (a0:ByteArray) (a1:ByteArray):Option (Bool):=if (a0.size:Int) ≥ (a1.size:Int) then (if 0≤(a1.size:Int) then (if (a1.size:Int)≤(a0.size:Int) then (some ((a0.extract 0 ((a1.size:Int):Int).toNat).toList == a1.toList)) else (none)) else (none)) else (some φ)
set_option maxHeartbeats 8000000 in
set_option maxRecDepth 100000 in
theorem internal_stringslite_HasPrefix.calls (a0:ByteArray) (a1:ByteArray) (r:Bool) (w:World) (h:internal_stringslite_HasPrefix.f a0 a1=some r) :
  Calls Tryd.prog 138 #[.string a0,.string a1] w fun e w'=>e = .returned (.bool r)∧Drawn0 w w':=by
 have H:(if (a0.size:Int) ≥ (a1.size:Int) then (if 0≤(a1.size:Int) then (if (a1.size:Int)≤(a0.size:Int) then (some ((a0.extract 0 ((a1.size:Int):Int).toNat).toList == a1.toList)) else (none)) else (none)) else (some φ))=some r:=h
 clear h
 by_cases c3:(a0.size:Int) ≥ (a1.size:Int)
 ·
  rw [if_pos c3] at H
  have c3b0:decide ((a1.size:Int)≤(a0.size:Int))=τ:=decide_eq_true c3
  have c3b1:decide (a1.size≤a0.size)=τ:=decide_eq_true (Int.ofNat_le.mp c3)
  clear c3
  by_cases c4:0≤(a1.size:Int)
  ·
   rw [if_pos c4] at H
   have c4b0:=eq_true c4
   have c4b1:decide (0≤(a1.size:Int))=τ:=decide_eq_true c4
   clear c4
   by_cases c5:(a1.size:Int)≤(a0.size:Int)
   ·
    rw [if_pos c5] at H
    have c5b0:=eq_true c5
    have c5b1:decide ((a1.size:Int)≤(a0.size:Int))=τ:=decide_eq_true c5
    clear c5
    obtain rfl:=Option.some.inj H
    go_enter Tryd.func138,Tryd.ntmps138
    go_wp2
    go_ret
    exact ⟨by first|rfl|(simp;done)|(simp [*];done),by repeat (first|exact Drawn0.refl _|apply Drawn0.step)⟩
   ·
    rw [if_neg c5] at H
    exact absurd H (by simp)
  ·
   rw [if_neg c4] at H
   exact absurd H (by simp)
 ·
  rw [if_neg c3] at H
  have c3b0:decide ((a1.size:Int)≤(a0.size:Int))=φ:=decide_eq_false c3
  have c3b1:decide (a1.size≤a0.size)=φ:=decide_eq_false (fun h=>c3 (Int.ofNat_le.mpr h))
  clear c3
  obtain rfl:=Option.some.inj H
  go_enter Tryd.func138,Tryd.ntmps138
  go_wp2
  go_ret
  exact ⟨by first|rfl|(simp;done)|(simp [*];done),by repeat (first|exact Drawn0.refl _|apply Drawn0.step)⟩


open Go.Proofs.YteghpdmlpefnfaaDoorW.PrintWords renaming gate_callee → δv
open List renaming map_toArray → δd, map_cons → δe, map_nil → δf, length_drop → δg, length_take → δh

/-! ### strings_HasPrefix: function 106 -/
def strings_HasPrefix.f (a0:ByteArray) (a1:ByteArray):Option (Bool):=(internal_stringslite_HasPrefix.f a0 a1).bind fun t537=>(some t537)
set_option maxHeartbeats 8000000 in
set_option maxRecDepth 100000 in
theorem strings_HasPrefix.calls (a0:ByteArray) (a1:ByteArray) (r:Bool) (w:World) (h:strings_HasPrefix.f a0 a1=some r) :
  Calls Tryd.prog 106 #[.string a0,.string a1] w fun e w'=>e = .returned (.bool r)∧Drawn0 w w':=by
 have H:((internal_stringslite_HasPrefix.f a0 a1).bind fun t537=>(some t537))=some r:=h
 clear h
 replace H:=Option.bind_eq_some_iff.mp H
 obtain ⟨t537,A30,H⟩:=H
 replace H:(some t537)=some r:=H
 have A3:=ζa A30
 clear A30
 obtain rfl:=Option.some.inj H
 go_enter Tryd.func106,Tryd.ntmps106
 go_wp2_with (first|((with_reducible refine δv (f:=138) rfl ?_);refine goesL_ (some 7) rfl rfl Tryd.func138 (by kernel_rfl) rfl #[.string a0,.string a1] rfl (by (try simp only [δd,δe,δf]);first|done|rfl|(simp only [δg,δh];rfl)) ?_;(with_reducible refine (internal_stringslite_HasPrefix.calls a0 a1 t537 _ A3.out).mono ?_);rintro e w' ⟨rfl,⟨nd,rfl⟩⟩;refine ⟨_,rfl,?_⟩))
 go_ret
 exact ⟨by first|rfl|(simp;done)|(simp [*];done),by repeat (first|exact Drawn0.refl _|apply Drawn0.step)⟩


open Go.RowKit renaming wrap64 → ζm
open Go.Proofs.YteghpdmlpefnfaaDoorW.PrintWords renaming gate_dst → δx, below_size → δs, below_step → δr, box_event → δz, blk_cell → δl, blk_frozen → δm, gate_callee → δv, gate_builtin → δy, pw_below_drewN → δi, below_set → δq, blk_drewN → δn, blk_put → δw
open Go.Proofs.YteghpdmlpefnfaaDoorW.PrintWords.Kd renaming R_below → ζh, R_drewN → ζc, R_far → ζi
open List renaming map_toArray → δd, map_cons → δe, map_nil → δf

/-! ### impl_scan: function 99 -/
def impl_scan.l0:Nat→ByteArray→List (S71)→List (S71)→Int→Int→Option ((List (S71)))
 | 0,_,_,_,_,_=>none
 | k+1,x1,x5,x9,x10,x11=>if x11<x10 then (if 0≤x11 then (if x11<(x9.length:Int) then ((strings_HasPrefix.f ((rd_T71 x9 x11).f0) x1).bind fun t543=>(if t543=τ then (if x5.length<4398046511104 then (impl_scan.l0 k x1 (x5 ++ [(⟨(rd_T71 x9 x11).f0,(rd_T71 x9 x11).f1⟩:S71)]) x9 x10 (ζm (x11+1))) else (none)) else (impl_scan.l0 k x1 x5 x9 x10 (ζm (x11+1))))) else (none)) else (none)) else (some x5)
def impl_scan.f (k:Nat) (l0:List (S71)) (a1:ByteArray):Option ((List (S71))):=impl_scan.l0 k a1 (([]:List (S71))) l0 (l0.length:Int) 0
set_option maxHeartbeats 8000000 in
set_option maxRecDepth 100000 in
theorem impl_scan.calls (k:Nat) (A0:Option Addr) (c0:Nat) (l0:List (S71)) (a1:ByteArray) (r:List (S71)) (w:World) (hr0:Kd.C k71 w A0 l0.length l0) (hc0:l0.length≤c0) (h:impl_scan.f k l0 a1=some r) :
  Calls Tryd.prog 99 #[.slice A0 l0.length c0,.string a1] w fun e w' => ∃ v0_:Value,e = .returned (v0_)∧Kd.R k71 71 w' w.heap.size (fun _=>True) v0_ r∧Below w.heap.size w w':=by
 have hu71:=Tryd.underlying71
 have HR0:=ζa hr0
 have HC0:=ζa hc0
 clear hr0 hc0
 have HB:=ζa (Below.refl w.heap.size w)
 have H:(impl_scan.l0 k a1 (([]:List (S71))) l0 (l0.length:Int) 0)=some r:=h
 clear h
 obtain ⟨y538,hy538⟩ : ∃ y_:List (S71),y_=(([]:List (S71))):=⟨_,rfl⟩
 replace H:(impl_scan.l0 k a1 y538 l0 (l0.length:Int) 0)=some r:=by (rw [hy538];with_reducible exact H)
 have Ny538:=ζa hy538
 clear hy538
 have H':=ζa H
 clear H
 go_enter Tryd.func99,Tryd.ntmps99
 go_wp2_with (((with_reducible refine δx (N:=8) rfl ?_);refine Kd.R_lit k71 _ 71 ?hg (N:=8) ?hd (xs:=([]:List (S71))) (inner:=[]) (ok:=fun _=>True) (okp:=fun _=>True) ?hr ?hp (fun _ hk=>hk) trivial (Below.refl _ _) (Nat.le_refl _) (by simp) ?_;(case hd=>rfl);(case hg=>rfl);(case hr=>(go_simp;done));(case hp=>exact (Reps.none _ _));intro v539 w3 ho4 hb hg_ hnew_;clear hg_ hnew_;(rw [← Ny538.out] at ho4);have n0_:=ζa (Kd.R_lower ho4 (δs (by exact HB.out)));have n1_:=ζa (δr (by exact HB.out) hb);clear HB;have HO540:=n0_;have HB:=n1_;clear n0_ n1_;clear hb ho4))
 go_loopg [5,11] k (fun kq v5 v11 w' => ∃ (x5_1:List (S71)) (x11_1:Int),v11 = .int .i64 x11_1∧Aside0 (impl_scan.l0 kq a1 x5_1 l0 (l0.length:Int) x11_1=some r)∧Aside0 (kq≤k)∧Aside0 (Kd.R k71 71 w' w.heap.size (fun _=>True) v5 x5_1)∧Aside0 (Below w.heap.size w w'))
 case atStart=>exact ⟨(y538),(0),(by rfl),H',⟨Nat.le_refl _⟩,⟨by exact HO540.out⟩,⟨by repeat ((with_reducible exact HB.out))⟩⟩
 case round =>
  clear H'
  try clear p2
  obtain ⟨x5_1,x11_1,rfl,HA,HK1,HO_5,HB⟩:=hrel
  cases gk with
  | zero=>exact absurd HA.out (by simp [impl_scan.l0])
  | succ k1 =>
   have H:=HA.out
   clear HA
   simp only [impl_scan.l0] at H
   by_cases c5:x11_1<(l0.length:Int)
   ·
    rw [if_pos c5] at H
    have c5b0:decide (x11_1<(l0.length:Int))=τ:=decide_eq_true c5
    clear c5
    by_cases c6:0≤x11_1
    ·
     rw [if_pos c6] at H
     have c6b0:decide (0≤x11_1)=τ:=decide_eq_true c6
     clear c6
     by_cases c7:x11_1<(l0.length:Int)
     ·
      rw [if_pos c7] at H
      have c7b0:decide (x11_1<(l0.length:Int))=τ:=decide_eq_true c7
      clear c7
      replace H:=Option.bind_eq_some_iff.mp H
      obtain ⟨t543,A80,H⟩:=H
      replace H:(if t543=τ then (if x5_1.length<4398046511104 then (impl_scan.l0 k1 a1 (x5_1 ++ [(⟨(rd_T71 l0 x11_1).f0,(rd_T71 l0 x11_1).f1⟩:S71)]) l0 (l0.length:Int) (ζm (x11_1+1))) else (none)) else (impl_scan.l0 k1 a1 x5_1 l0 (l0.length:Int) (ζm (x11_1+1))))=some r:=H
      have A8:=ζa A80
      clear A80
      by_cases c9:t543=τ
      ·
       subst c9
       have H1:(if x5_1.length<4398046511104 then (impl_scan.l0 k1 a1 (x5_1 ++ [(⟨(rd_T71 l0 x11_1).f0,(rd_T71 l0 x11_1).f1⟩:S71)]) l0 (l0.length:Int) (ζm (x11_1+1))) else (none))=some r:=by rw [if_pos rfl] at H;exact H
       clear H
       have H:=H1
       clear H1
       by_cases c10:x5_1.length<4398046511104
       ·
        rw [if_pos c10] at H
        have LMc10:=ζa c10
        clear c10
        obtain ⟨y544,hy544⟩ : ∃ y_:List (S71),y_=(x5_1 ++ [(⟨(rd_T71 l0 x11_1).f0,(rd_T71 l0 x11_1).f1⟩:S71)]):=⟨_,rfl⟩
        replace H:(impl_scan.l0 k1 a1 y544 l0 (l0.length:Int) (ζm (x11_1+1)))=some r:=by (rw [hy544];with_reducible exact H)
        have Ny544:=ζa hy544
        clear hy544
        have H':=ζa H
        clear H
        have p541:0≤(x11_1:Int):=of_decide_eq_true (by (with_reducible assumption))
        have q541:x11_1<(l0.length:Int):=of_decide_eq_true (by (with_reducible assumption))
        obtain ⟨ad541,e541,hx541_0,hx541_1⟩:=at_T71 HR0.out x11_1 p541 q541
        cases e541
        replace hx541_0:=(HB.out.cell (World.block_lt_of_cell? w _ hx541_0)).trans hx541_0
        replace hx541_1:=(HB.out.cell (World.block_lt_of_cell? w _ hx541_1)).trans hx541_1
        replace p541:=eq_true p541
        replace q541:=eq_true q541
        go_wp2_with (first|((with_reducible refine δx (N:=7) rfl ?_);refine δz ?hg (N:=7) ?hd (cs:=#[.string (⟨#[]⟩:ByteArray),.string (⟨#[]⟩:ByteArray)]) (t:=71) ?hr ?_;(case hd=>rfl);(case hg=>rfl);(case hr=>(go_simp;done));intro gb542 hg w11 hbox hb;have n0_:=ζa (ζh (Kd.R_elderB (by exact HO_5.out) gb542 (Nat.le_of_eq hg.symm)) hb);have n1_:=ζa (δr (by exact HB.out) hb);have n2_:=ζa (hbox);have n3_:=ζa ((by rw [hg];exact (δs (by exact HB.out)):w.heap.size≤gb542));have n4_:=ζa ((by rw [hg];exact (δs (by exact HB.out)):w.heap.size≤gb542));clear HO_5;clear HB;have HO_5:=n0_;have HB:=n1_;have BK542:=n2_;have GW542:=n3_;have GE542:=n4_;clear n0_ n1_ n2_ n3_ n4_;clear hb hbox hg;have hcz12_0:w11.cell? ⟨gb542,0,none⟩=some (.string (⟨#[]⟩:ByteArray)):=(δl BK542.out 0).trans rfl;have hcz12_1:w11.cell? ⟨gb542,1,none⟩=some (.string (⟨#[]⟩:ByteArray)):=(δl BK542.out 1).trans rfl;have hfz12_0:=δm BK542.out 0;have hfz12_1:=δm BK542.out 1)|((with_reducible refine δv (f:=106) rfl ?_);refine goesL_ (some 18) rfl rfl Tryd.func106 (by kernel_rfl) rfl #[.string ((rd_T71 l0 x11_1).f0),.string a1] rfl (by (try simp only [δd,δe,δf]);rfl) ?_;(with_reducible refine (strings_HasPrefix.calls ((rd_T71 l0 x11_1).f0) a1 τ _ A8.out).mono ?_);rintro e w' ⟨rfl,⟨nd,rfl⟩⟩;refine ⟨_,rfl,?_⟩)|((with_reducible refine δy (b:=.append) (xs:=#[.tmp 19,.tmp 21]) rfl ?_);at_builtin;refine Kd.R_append k71 (w0:=w) w.heap.size rfl (.tmp 19) (.tmp 21) 36 71 (.agg #[(.string ⟨#[]⟩),(.string ⟨#[]⟩)]) 32 rfl Tryd.underlying36 info71 rfl (by decide) (by omega) u5 x5_1 (⟨(rd_T71 l0 x11_1).f0,(rd_T71 l0 x11_1).f1⟩:S71) [.string ((rd_T71 l0 x11_1).f0),.string ((rd_T71 l0 x11_1).f1)] (fun k_=>k_≠gb542) (fun _=>False) rfl (by (go_simp;done)) ?aP (fun _ hk=>hk.elim) ?aF ?aO ?aB ?aS ?aL ?_;(case aP=>exact k71_mkM _ _ _ (⟨(rd_T71 l0 x11_1).f0,(rd_T71 l0 x11_1).f1⟩:S71));(case aB=>exact (by repeat ((with_reducible first|exact HB.out|apply δi|refine δq ?_ GE542.out))));(case aF=>exact (fun k_ hk=>Kd.freshB (g:=gb542) (o:=.cells #[.string ((rd_T71 l0 x11_1).f0),.string ((rd_T71 l0 x11_1).f1)] 71 (0,0)) (by (with_reducible repeat (refine δn ?_ _));refine δw (cs:=#[.string ((rd_T71 l0 x11_1).f0),.string (⟨#[]⟩:ByteArray)]) ?_ 1 _ rfl;refine δw (cs:=#[.string (⟨#[]⟩:ByteArray),.string (⟨#[]⟩:ByteArray)]) ?_ 0 _ rfl;exact BK542.out) k_ hk));(case aO=>exact (by (with_reducible repeat (apply ζc));exact Kd.R_mono (ζi (p:=⟨gb542,1,none⟩) (ζi (p:=⟨gb542,0,none⟩) (Kd.R_mono HO_5.out (fun k_ hk=>(⟨hk,hk.2⟩:_∧k_≠gb542))) (fun _ hk=>hk.2) (.string ((rd_T71 l0 x11_1).f0))) (fun _ hk=>hk.2) (.string ((rd_T71 l0 x11_1).f1))) (fun _ hk=>hk.1.2)));(case aS=>exact (δs (by repeat ((with_reducible first|exact HB.out|apply δi|refine δq ?_ GE542.out)))));(case aL=>have:=LMc10.out;omega);intro v545 w13 ho hb hg hat;rw [← Ny544.out] at ho;have n0_:=ζa (blk_grown (g:=gb542) (o:=.cells #[.string ((rd_T71 l0 x11_1).f0),.string ((rd_T71 l0 x11_1).f1)] 71 (0,0)) (by (with_reducible repeat (refine δn ?_ _));refine δw (cs:=#[.string ((rd_T71 l0 x11_1).f0),.string (⟨#[]⟩:ByteArray)]) ?_ 1 _ rfl;refine δw (cs:=#[.string (⟨#[]⟩:ByteArray),.string (⟨#[]⟩:ByteArray)]) ?_ 0 _ rfl;exact BK542.out) hg (Kd.R_away HO_5.out (fun _ hk=>hk.2)));have n1_:=ζa (hb);have n2_:=ζa (ho);clear BK542;clear HB;clear HO_5;have BK542:=n0_;have HB:=n1_;have HO546:=n2_;clear n0_ n1_ n2_;clear ho hb hg hat))
        go_roundg k1
        case measure=>have:=HK1.out;omega
        case rel=>exact ⟨(y544),(ζm (x11_1+1)),(by rfl),H',⟨by have:=HK1.out;omega⟩,⟨by exact Kd.R_mono HO546.out (fun _ hk=>trivial)⟩,⟨by repeat ((with_reducible exact HB.out))⟩⟩
       ·
        rw [if_neg c10] at H
        exact absurd H (by simp)
      ·
       replace c9:=Bool.eq_false_iff.mpr c9
       subst c9
       have H1:(impl_scan.l0 k1 a1 x5_1 l0 (l0.length:Int) (ζm (x11_1+1)))=some r:=by rw [if_neg (show ¬ (φ=τ) by decide)] at H;exact H
       clear H
       have H:=H1
       clear H1
       have H':=ζa H
       clear H
       have p541:0≤(x11_1:Int):=of_decide_eq_true (by (with_reducible assumption))
       have q541:x11_1<(l0.length:Int):=of_decide_eq_true (by (with_reducible assumption))
       obtain ⟨ad541,e541,hx541_0,hx541_1⟩:=at_T71 HR0.out x11_1 p541 q541
       cases e541
       replace hx541_0:=(HB.out.cell (World.block_lt_of_cell? w _ hx541_0)).trans hx541_0
       replace hx541_1:=(HB.out.cell (World.block_lt_of_cell? w _ hx541_1)).trans hx541_1
       replace p541:=eq_true p541
       replace q541:=eq_true q541
       go_wp2_with (first|((with_reducible refine δx (N:=7) rfl ?_);refine δz ?hg (N:=7) ?hd (cs:=#[.string (⟨#[]⟩:ByteArray),.string (⟨#[]⟩:ByteArray)]) (t:=71) ?hr ?_;(case hd=>rfl);(case hg=>rfl);(case hr=>(go_simp;done));intro gb542 hg w14 hbox hb;have n0_:=ζa (ζh (Kd.R_elderB (by exact HO_5.out) gb542 (Nat.le_of_eq hg.symm)) hb);have n1_:=ζa (δr (by exact HB.out) hb);have n2_:=ζa (hbox);have n3_:=ζa ((by rw [hg];exact (δs (by exact HB.out)):w.heap.size≤gb542));have n4_:=ζa ((by rw [hg];exact (δs (by exact HB.out)):w.heap.size≤gb542));clear HO_5;clear HB;have HO_5:=n0_;have HB:=n1_;have BK542:=n2_;have GW542:=n3_;have GE542:=n4_;clear n0_ n1_ n2_ n3_ n4_;clear hb hbox hg;have hcz15_0:w14.cell? ⟨gb542,0,none⟩=some (.string (⟨#[]⟩:ByteArray)):=(δl BK542.out 0).trans rfl;have hcz15_1:w14.cell? ⟨gb542,1,none⟩=some (.string (⟨#[]⟩:ByteArray)):=(δl BK542.out 1).trans rfl;have hfz15_0:=δm BK542.out 0;have hfz15_1:=δm BK542.out 1)|((with_reducible refine δv (f:=106) rfl ?_);refine goesL_ (some 18) rfl rfl Tryd.func106 (by kernel_rfl) rfl #[.string ((rd_T71 l0 x11_1).f0),.string a1] rfl (by (try simp only [δd,δe,δf]);rfl) ?_;(with_reducible refine (strings_HasPrefix.calls ((rd_T71 l0 x11_1).f0) a1 φ _ A8.out).mono ?_);rintro e w' ⟨rfl,⟨nd,rfl⟩⟩;refine ⟨_,rfl,?_⟩))
       go_roundg k1
       case measure=>have:=HK1.out;omega
       case rel=>exact ⟨(x5_1),(ζm (x11_1+1)),(by rfl),H',⟨by have:=HK1.out;omega⟩,⟨by (with_reducible repeat (apply ζc));exact Kd.R_mono (ζi (p:=⟨gb542,1,none⟩) (ζi (p:=⟨gb542,0,none⟩) (Kd.R_mono HO_5.out (fun k_ hk=>(⟨hk,hk.2⟩:_∧k_≠gb542))) (fun _ hk=>hk.2) (.string ((rd_T71 l0 x11_1).f0))) (fun _ hk=>hk.2) (.string ((rd_T71 l0 x11_1).f1))) (fun _ hk=>trivial)⟩,⟨by repeat ((with_reducible first|exact HB.out|apply δi|refine δq ?_ GE542.out))⟩⟩
     ·
      rw [if_neg c7] at H
      exact absurd H (by simp)
    ·
     rw [if_neg c6] at H
     exact absurd H (by simp)
   ·
    rw [if_neg c5] at H
    have c5b0:decide (x11_1<(l0.length:Int))=φ:=decide_eq_false c5
    clear c5
    obtain rfl:=Option.some.inj H
    go_wp2
    go_ret
    exact ⟨_,by rfl,by exact HO_5.out,by repeat ((with_reducible exact HB.out))⟩


open Go.Proofs.YteghpdmlpefnfaaDoorW.PrintWords renaming gate_dst → δx, below_size → δs, below_step → δr, gate_callee → δv, pw_below_drewN → δi, box_event → δz, blk_cell → δl, blk_frozen → δm, blk_put → δw, below_set → δq, blk_drew → δp, below_drew1 → δj, blk_drewN → δn, cell_far → δt, gate_builtin → δy
open List renaming map_toArray → δd, map_cons → δe, map_nil → δf, setIfInBounds_toArray → δa, set_cons_zero → δb, set_cons_succ → δc
open Go.Proofs.YteghpdmlpefnfaaDoorW.PrintWords.Kd renaming R_below → ζh, R_drewN → ζc, R_reads' → ζg, R_far → ζi, R_drew → ζe, R_ne → ζf

/-! ### impl_ordersOf: function 59 -/
def impl_ordersOf.l0:Nat→List (S42)→List (S71)→Int→Int→Option ((List (S42)))
 | 0,_,_,_,_=>none
 | k+1,x3,x11,x12,x13=>if x13<x12 then (if 0≤x13 then (if x13<(x11.length:Int) then ((impl_orderKey.f (⟨#[]⟩:ByteArray)).bind fun t556=>(if 0≤(t556.size:Int) then (if (t556.size:Int)≤(((rd_T71 x11 x13).f0).size:Int) then ((impl_orderOf.f k (((rd_T71 x11 x13).f0).extract (t556.size) ((rd_T71 x11 x13).f0).size) ((rd_T71 x11 x13).f1)).bind fun bt557=>(if bt557.2.2.2.2.2.2=τ then (if x3.length<2199023255552 then (impl_ordersOf.l0 k (x3 ++ [(⟨bt557.1,bt557.2.1,bt557.2.2.1,bt557.2.2.2.1,bt557.2.2.2.2.1,bt557.2.2.2.2.2.1⟩:S42)]) x11 x12 (ζm (x13+1))) else (none)) else (impl_ordersOf.l0 k x3 x11 x12 (ζm (x13+1))))) else (none)) else (none))) else (none)) else (none)) else (some x3)
def impl_ordersOf.f (k:Nat) (l0:List (S71)):Option ((List (S42))):=(impl_orderKey.f (⟨#[]⟩:ByteArray)).bind fun t550=>((impl_scan.f k l0 t550).bind fun t551=>(impl_ordersOf.l0 k (([]:List (S42))) t551 (t551.length:Int) 0))
def impl_ordersOf.T5:Bool × List (List Nat × List Nat):=(τ,[([],[]),([0],[0]),([],[]),([2],[2]),([1,3],[1,3]),([],[]),([5],[5]),([4,6,2],[4,6]),([7],[7]),([8],[8]),([8],[8]),([],[]),([11,9,7,0,1,2,3,4,5,6,7,8,9,11],[9,11]),([10,12,0,1,2,3,4,5,6,7,8,9,10,11,12],[10])])
def impl_ordersOf.B5:List Nat:=[0,1,0,4,15,0,32,127,255,511,511,0,3071,8191]
theorem impl_ordersOf.tab5:rtab .any (opsOf Tryd.f59 5)=impl_ordersOf.T5:=by kernel_rfl
theorem impl_ordersOf.bits5:waitsOk impl_ordersOf.T5.2 impl_ordersOf.B5=τ:=by kernel_rfl
set_option maxHeartbeats 8000000 in
set_option maxRecDepth 100000 in
theorem impl_ordersOf.calls (k:Nat) (A0:Option Addr) (c0:Nat) (l0:List (S71)) (r:List (S42)) (w:World) (hr0:Kd.C k71 w A0 l0.length l0) (hc0:l0.length≤c0) (hT0:TabsOK w) (h:impl_ordersOf.f k l0=some r) :
  Calls Tryd.prog 59 #[.slice A0 l0.length c0] w fun e w' => ∃ v0_:Value,e = .returned (v0_)∧Kd.R k42 42 w' w.heap.size (fun _=>True) v0_ r∧Below w.heap.size w w':=by
 have HT0:=ζa hT0
 clear hT0
 have hu71:=Tryd.underlying71
 have hu42:=Tryd.underlying42
 have HR0:=ζa hr0
 have HC0:=ζa hc0
 clear hr0 hc0
 have HB:=ζa (Below.refl w.heap.size w)
 have H:((impl_orderKey.f (⟨#[]⟩:ByteArray)).bind fun t550=>((impl_scan.f k l0 t550).bind fun t551=>(impl_ordersOf.l0 k (([]:List (S42))) t551 (t551.length:Int) 0)))=some r:=h
 clear h
 obtain ⟨y547,hy547⟩ : ∃ y_:List (S42),y_=(([]:List (S42))):=⟨_,rfl⟩
 replace H:((impl_orderKey.f (⟨#[]⟩:ByteArray)).bind fun t550=>((impl_scan.f k l0 t550).bind fun t551=>(impl_ordersOf.l0 k y547 t551 (t551.length:Int) 0)))=some r:=by (rw [hy547];with_reducible exact H)
 have Ny547:=ζa hy547
 clear hy547
 replace H:=Option.bind_eq_some_iff.mp H
 obtain ⟨t550,A20,H⟩:=H
 replace H:((impl_scan.f k l0 t550).bind fun t551=>(impl_ordersOf.l0 k y547 t551 (t551.length:Int) 0))=some r:=H
 have A2:=ζa A20
 clear A20
 replace H:=Option.bind_eq_some_iff.mp H
 obtain ⟨t551,A30,H⟩:=H
 replace H:(impl_ordersOf.l0 k y547 t551 (t551.length:Int) 0)=some r:=H
 have A3:=ζa A30
 clear A30
 have H':=ζa H
 clear H
 go_enter Tryd.func59,Tryd.ntmps59
 go_wp2_with (first|((with_reducible refine δx (N:=8) rfl ?_);refine Kd.R_lit k42 _ 42 ?hg (N:=8) ?hd (xs:=([]:List (S42))) (inner:=[]) (ok:=fun _=>True) (okp:=fun _=>True) ?hr ?hp (fun _ hk=>hk) trivial (Below.refl _ _) (Nat.le_refl _) (by simp) ?_;(case hd=>rfl);(case hg=>rfl);(case hr=>(go_simp;done));(case hp=>exact (Reps.none _ _));intro v548 w4 ho5 hb hg_ hnew_;clear hg_ hnew_;(rw [← Ny547.out] at ho5);have n0_:=ζa (Kd.R_lower ho5 (δs (by exact HB.out)));have n1_:=ζa (δr (by exact HB.out) hb);clear HB;have HO549:=n0_;have HB:=n1_;clear n0_ n1_;clear hb ho5)|((with_reducible refine δv (f:=96) rfl ?_);refine goesL_ (some 10) rfl rfl Tryd.func96 (by kernel_rfl) rfl #[.string (⟨#[]⟩:ByteArray)] rfl (by (try simp only [δd,δe,δf]);rfl) ?_;(with_reducible refine (impl_orderKey.calls (⟨#[]⟩:ByteArray) t550 _ A2.out).mono ?_);rintro e w' ⟨rfl,⟨nd,rfl⟩⟩;refine ⟨_,rfl,?_⟩)|((with_reducible refine δv (f:=99) rfl ?_);refine goesL_ (some 11) rfl rfl Tryd.func99 (by kernel_rfl) rfl #[.slice A0 l0.length c0,.string t550] rfl (by (try simp only [δd,δe,δf]);rfl) ?_;(with_reducible refine (impl_scan.calls k _ _ l0 t550 t551 _ ?side1 ?side2 A3.out).mono ?_);(case side1=>repeat (exact (Kd.C_below HR0.out (by repeat ((with_reducible first|exact HB.out|apply δi))))));(case side2=>exact HC0.out);rintro e w6 ⟨v552,rfl,ho0,hb⟩;refine ⟨_,rfl,?_⟩;have n0_:=ζa (ζh (by (with_reducible repeat (apply ζc));exact HO549.out) hb);have n1_:=ζa (Kd.R_lower ho0 (δs (by repeat ((with_reducible first|exact HB.out|apply δi)))));have n2_:=ζa (δr (by repeat ((with_reducible first|exact HB.out|apply δi))) hb);clear HO549;clear HB;have HO549:=n0_;have HO553:=n1_;have HB:=n2_;clear n0_ n1_ n2_;(try clear hb);(try clear hb2);(try clear hk);(try clear hi);(try clear ho0);obtain ⟨Ao7,co7,eo7⟩:=Kd.R_slice HO553.out;subst eo7))
 go_loopg [3,13] k (fun kq v3 v13 w' => ∃ (x3_1:List (S42)) (x13_1:Int),v13 = .int .i64 x13_1∧Aside0 (impl_ordersOf.l0 kq x3_1 t551 (t551.length:Int) x13_1=some r)∧Aside0 (kq≤k)∧Aside0 (Kd.R k42 42 w' w.heap.size (fun _=>True) v3 x3_1)∧Aside0 (Kd.R k71 71 w' w.heap.size (fun _=>True) (.slice Ao7 t551.length co7) t551)∧Aside0 (Below w.heap.size w w'))
 case atStart=>exact ⟨(y547),(0),(by rfl),H',⟨Nat.le_refl _⟩,⟨by exact HO549.out⟩,⟨by exact HO553.out⟩,⟨by repeat ((with_reducible exact HB.out))⟩⟩
 case round =>
  clear H'
  try clear p2
  try clear c5
  obtain ⟨x3_1,x13_1,rfl,HA,HK1,HO_3,HO_11,HB⟩:=hrel
  cases gk with
  | zero=>exact absurd HA.out (by simp [impl_ordersOf.l0])
  | succ k1 =>
   have H:=HA.out
   clear HA
   simp only [impl_ordersOf.l0] at H
   by_cases c8:x13_1<(t551.length:Int)
   ·
    rw [if_pos c8] at H
    have c8b0:decide (x13_1<(t551.length:Int))=τ:=decide_eq_true c8
    clear c8
    by_cases c9:0≤x13_1
    ·
     rw [if_pos c9] at H
     have c9b0:decide (0≤x13_1)=τ:=decide_eq_true c9
     clear c9
     by_cases c10:x13_1<(t551.length:Int)
     ·
      rw [if_pos c10] at H
      have c10b0:decide (x13_1<(t551.length:Int))=τ:=decide_eq_true c10
      clear c10
      replace H:=Option.bind_eq_some_iff.mp H
      obtain ⟨t556,A110,H⟩:=H
      replace H:(if 0≤(t556.size:Int) then (if (t556.size:Int)≤(((rd_T71 t551 x13_1).f0).size:Int) then ((impl_orderOf.f k1 (((rd_T71 t551 x13_1).f0).extract (t556.size) ((rd_T71 t551 x13_1).f0).size) ((rd_T71 t551 x13_1).f1)).bind fun bt557=>(if bt557.2.2.2.2.2.2=τ then (if x3_1.length<2199023255552 then (impl_ordersOf.l0 k1 (x3_1 ++ [(⟨bt557.1,bt557.2.1,bt557.2.2.1,bt557.2.2.2.1,bt557.2.2.2.2.1,bt557.2.2.2.2.2.1⟩:S42)]) t551 (t551.length:Int) (ζm (x13_1+1))) else (none)) else (impl_ordersOf.l0 k1 x3_1 t551 (t551.length:Int) (ζm (x13_1+1))))) else (none)) else (none))=some r:=H
      have A11:=ζa A110
      clear A110
      by_cases c12:0≤(t556.size:Int)
      ·
       rw [if_pos c12] at H
       have c12b0:=eq_true c12
       have c12b1:decide (0≤(t556.size:Int))=τ:=decide_eq_true c12
       clear c12
       by_cases c13:(t556.size:Int)≤(((rd_T71 t551 x13_1).f0).size:Int)
       ·
        rw [if_pos c13] at H
        have c13b0:=eq_true c13
        have c13b1:decide ((t556.size:Int)≤(((rd_T71 t551 x13_1).f0).size:Int))=τ:=decide_eq_true c13
        clear c13
        replace H:=Option.bind_eq_some_iff.mp H
        obtain ⟨⟨t557,t558,t559,t560,t561,t562,t563⟩,A140,H⟩:=H
        replace H:(if t563=τ then (if x3_1.length<2199023255552 then (impl_ordersOf.l0 k1 (x3_1 ++ [(⟨t557,t558,t559,t560,t561,t562⟩:S42)]) t551 (t551.length:Int) (ζm (x13_1+1))) else (none)) else (impl_ordersOf.l0 k1 x3_1 t551 (t551.length:Int) (ζm (x13_1+1))))=some r:=H
        have A14:=ζa A140
        clear A140
        by_cases c15:t563=τ
        ·
         subst c15
         have H1:(if x3_1.length<2199023255552 then (impl_ordersOf.l0 k1 (x3_1 ++ [(⟨t557,t558,t559,t560,t561,t562⟩:S42)]) t551 (t551.length:Int) (ζm (x13_1+1))) else (none))=some r:=by rw [if_pos rfl] at H;exact H
         clear H
         have H:=H1
         clear H1
         by_cases c16:x3_1.length<2199023255552
         ·
          rw [if_pos c16] at H
          have LMc16:=ζa c16
          clear c16
          obtain ⟨y565,hy565⟩ : ∃ y_:List (S42),y_=(x3_1 ++ [(⟨t557,t558,t559,t560,t561,t562⟩:S42)]):=⟨_,rfl⟩
          replace H:(impl_ordersOf.l0 k1 y565 t551 (t551.length:Int) (ζm (x13_1+1)))=some r:=by (rw [hy565];with_reducible exact H)
          have Ny565:=ζa hy565
          clear hy565
          have H':=ζa H
          clear H
          have p554:0≤(x13_1:Int):=of_decide_eq_true (by (with_reducible assumption))
          have q554:x13_1<(t551.length:Int):=of_decide_eq_true (by (with_reducible assumption))
          obtain ⟨ad554,e554,hx554_0,hx554_1⟩:=at_T71 (ζg HO_11.out).2.2 x13_1 p554 q554
          cases e554
          replace p554:=eq_true p554
          replace q554:=eq_true q554
          try go_wp2_with (((with_reducible refine δx (N:=5) rfl ?_);refine δz ?hg (N:=5) ?hd (cs:=#[.string (⟨#[]⟩:ByteArray),.string (⟨#[]⟩:ByteArray)]) (t:=71) ?hr ?_;(case hd=>rfl);(case hg=>rfl);(case hr=>(go_simp;done));intro gb555 hg w17 hbox hb;have n0_:=ζa (ζh (by exact HO_3.out) hb);have n1_:=ζa (ζh (Kd.R_elderB (by exact HO_11.out) gb555 (Nat.le_of_eq hg.symm)) hb);have n2_:=ζa (δr (by exact HB.out) hb);have n3_:=ζa (hbox);have n4_:=ζa ((by rw [hg];exact (δs (by exact HB.out)):w.heap.size≤gb555));have n5_:=ζa ((by rw [hg];exact (δs (by exact HB.out)):w.heap.size≤gb555));clear HO_3;clear HO_11;clear HB;have HO_3:=n0_;have HO_11:=n1_;have HB:=n2_;have BK555:=n3_;have GW555:=n4_;have GE555:=n5_;clear n0_ n1_ n2_ n3_ n4_ n5_;clear hb hbox hg;have hcz18_0:w17.cell? ⟨gb555,0,none⟩=some (.string (⟨#[]⟩:ByteArray)):=(δl BK555.out 0).trans rfl;have hcz18_1:w17.cell? ⟨gb555,1,none⟩=some (.string (⟨#[]⟩:ByteArray)):=(δl BK555.out 1).trans rfl;have hfz18_0:=δm BK555.out 0;have hfz18_1:=δm BK555.out 1))
          have n0_:Aside0 (Kd.R k42 42 ((w17.setCell ⟨gb555,0,none⟩ (.string ((rd_T71 t551 x13_1).f0))).setCell ⟨gb555,1,none⟩ (.string ((rd_T71 t551 x13_1).f1))) w.heap.size (fun _=>True) u3 x3_1):=⟨by exact Kd.R_mono (ζi (p:=⟨gb555,1,none⟩) (ζi (p:=⟨gb555,0,none⟩) (Kd.R_types HO_3.out BK555.out (by decide)) (fun _ hk=>hk.2) (.string ((rd_T71 t551 x13_1).f0))) (fun _ hk=>hk.2) (.string ((rd_T71 t551 x13_1).f1))) (fun _ hk=>trivial)⟩
          have n1_:Aside0 (Kd.R k71 71 ((w17.setCell ⟨gb555,0,none⟩ (.string ((rd_T71 t551 x13_1).f0))).setCell ⟨gb555,1,none⟩ (.string ((rd_T71 t551 x13_1).f1))) w.heap.size (fun k_=>k_≠gb555) (.slice (some ad554) t551.length co7) t551):=⟨by exact Kd.R_mono (ζi (p:=⟨gb555,1,none⟩) (ζi (p:=⟨gb555,0,none⟩) (Kd.R_mono HO_11.out (fun k_ hk=>(⟨hk,hk.2⟩:_∧k_≠gb555))) (fun _ hk=>hk.2) (.string ((rd_T71 t551 x13_1).f0))) (fun _ hk=>hk.2) (.string ((rd_T71 t551 x13_1).f1))) (fun _ hk=>hk.1.2)⟩
          have n2_:Aside0 (((w17.setCell ⟨gb555,0,none⟩ (.string ((rd_T71 t551 x13_1).f0))).setCell ⟨gb555,1,none⟩ (.string ((rd_T71 t551 x13_1).f1))).heap[gb555]? = some (.cells #[.string ((rd_T71 t551 x13_1).f0),.string ((rd_T71 t551 x13_1).f1)] 71 (0,0))):=⟨by refine δw (cs:=#[.string ((rd_T71 t551 x13_1).f0),.string (⟨#[]⟩:ByteArray)]) ?_ 1 _ rfl;refine δw (cs:=#[.string (⟨#[]⟩:ByteArray),.string (⟨#[]⟩:ByteArray)]) ?_ 0 _ rfl;exact BK555.out⟩
          have n3_:Aside0 (Below w.heap.size w ((w17.setCell ⟨gb555,0,none⟩ (.string ((rd_T71 t551 x13_1).f0))).setCell ⟨gb555,1,none⟩ (.string ((rd_T71 t551 x13_1).f1)))):=⟨by repeat ((with_reducible first|exact HB.out|refine δq ?_ GE555.out))⟩
          (try clear HO_3)
          (try clear HO_11)
          (try clear BK555)
          (try clear HB)
          generalize ((w17.setCell ⟨gb555,0,none⟩ (.string ((rd_T71 t551 x13_1).f0))).setCell ⟨gb555,1,none⟩ (.string ((rd_T71 t551 x13_1).f1)))=w19 at n0_ n1_ n2_ n3_ ⊢
          have HO_3:=n0_
          have HO_11:=n1_
          have BK555:=n2_
          have HB:=n3_
          clear n0_ n1_ n2_ n3_
          have n0_:=ζa (ζe HO_3.out)
          have n1_:=ζa (ζe HO_11.out)
          have n2_:=ζa (δp BK555.out)
          have n3_:=ζa (δj HB.out)
          clear HO_3
          clear HO_11
          clear BK555
          clear HB
          have HO_3:=n0_
          have HO_11:=n1_
          have BK555:=n2_
          have HB:=n3_
          clear n0_ n1_ n2_ n3_
          refine start_ (n:=14) (S:=fun w'=>w'.cell? ⟨gb555,0,none⟩=some (.string ((rd_T71 t551 x13_1).f0))∧w'.cell? ⟨gb555,1,none⟩=some (.string ((rd_T71 t551 x13_1).f1))) (ds:=[]) #[φ,φ,φ,φ,φ,φ,φ,φ,φ,φ,φ,φ,φ,φ] (by kernel_rfl) rfl rfl ⟨(δl BK555.out 0).trans rfl,(δl BK555.out 1).trans rfl⟩ (fun hHeld => ?_);refine with_tabW impl_ordersOf.tab5 impl_ordersOf.bits5 (fun HT_ HW_ => ?_)
          generalize w19.drew=w20 at HO_3 HO_11 BK555 HB hHeld ⊢
          refine ζk (i:=0) (N:=some 18) (v:=?_) (a':=?_) #[τ,φ,φ,φ,φ,φ,φ,φ,φ,φ,φ,φ,φ,φ] rfl rfl (ζj HT_.out (by kernel_rfl)) (fun _ _ _ h=>h) (Or.inl ⟨by rfl,?_⟩) ?_ ?_
          rotate_left
          · intro w';go_simp;with_reducible rfl
          rotate_left
          · simp only [ζl,δa,δb,δc,i64_w,i32_w];rfl
          refine ζk (i:=5) (N:=some 23) (v:=?_) (a':=?_) #[τ,φ,φ,φ,φ,τ,φ,φ,φ,φ,φ,φ,φ,φ] rfl rfl (ζj HT_.out (by kernel_rfl)) (fun _ _ _ h=>h) (Or.inl ⟨by rfl,?_⟩) ?_ ?_
          rotate_left
          · intro w';go_simp;with_reducible rfl
          rotate_left
          · simp only [ζl,δa,δb,δc,i64_w,i32_w];rfl
          refine take_ (i:=1) (N:=some 19) (v:=?_) (a':=?_) #[τ,τ,φ,φ,φ,τ,φ,φ,φ,φ,φ,φ,φ,φ] rfl rfl (take_ofW HT_.out HW_.out (by kernel_rfl)) (fun _ _ _ h=>h) (Or.inl ⟨by rfl,?_⟩) hHeld ?_ ?_
          rotate_left
          · rintro w' ⟨s0,s1⟩;go_simp;with_reducible rfl
          rotate_left
          · simp only [ζl,δa,δb,δc,i64_w,i32_w];rfl
          refine take_ (i:=6) (N:=some 24) (v:=?_) (a':=?_) #[τ,τ,φ,φ,φ,τ,τ,φ,φ,φ,φ,φ,φ,φ] rfl rfl (take_ofW HT_.out HW_.out (by kernel_rfl)) (fun _ _ _ h=>h) (Or.inl ⟨by rfl,?_⟩) hHeld ?_ ?_
          rotate_left
          · rintro w' ⟨s0,s1⟩;go_simp;with_reducible rfl
          rotate_left
          · simp only [ζl,δa,δb,δc,i64_w,i32_w];rfl
          refine join_ (σ:=Nat) 2 #[τ,τ,τ,τ,τ,τ,τ,τ,τ,τ,τ,τ,φ,φ] (fun s_ => [(20,.string t556),(25,.tuple #[.agg #[.string t557,.string t558,.int .i64 t559,.int .i64 t560,.int .i64 t561,.bool t562],.bool τ]),(6,.pointer (some ⟨s_,0,none⟩)),(21,.int .i64 (t556.size:Int)),(22,.string (((rd_T71 t551 x13_1).f0).extract (t556.size) ((rd_T71 t551 x13_1).f0).size)),(17,.tuple #[.agg #[.string t557,.string t558,.int .i64 t559,.int .i64 t560,.int .i64 t561,.bool t562],.bool τ]),(26,.agg #[.string t557,.string t558,.int .i64 t559,.int .i64 t560,.int .i64 t561,.bool t562]),(27,.bool τ)]) (fun s_ w'=>(w'.cell? ⟨gb555,0,none⟩=some (.string ((rd_T71 t551 x13_1).f0))∧w'.cell? ⟨gb555,1,none⟩=some (.string ((rd_T71 t551 x13_1).f1)))∧(Kd.R k71 71 w' w.heap.size (fun k_=>k_≠gb555) (.slice (some ad554) t551.length co7) t551)∧(Kd.R k42 42 w' w.heap.size (fun k_=>k_≠s_) u3 x3_1)∧(w'.heap[gb555]? = some (.cells #[.string ((rd_T71 t551 x13_1).f0),.string ((rd_T71 t551 x13_1).f1)] 71 (0,0)))∧(w'.heap[s_]? = some (.cells #[.string (⟨#[]⟩:ByteArray),.string (⟨#[]⟩:ByteArray),.int .i64 0,.int .i64 0,.int .i64 0,.bool φ] 42 (0,0)))∧(w.heap.size≤s_)∧(w.heap.size≤s_)∧(gb555≠s_)∧(s_≠gb555)∧(Below w.heap.size w w')) ?_ ?_
          rotate_left
          ·
           intro hCont
           refine two_ (i:=2) (j:=11) (Ni:=some 20) (Nj:=some 6) #[τ,τ,τ,φ,φ,τ,τ,φ,φ,φ,φ,φ,φ,φ] #[τ,τ,φ,φ,φ,τ,τ,φ,φ,φ,φ,τ,φ,φ] rfl rfl rfl rfl (two_of HT_.out (by kernel_rfl)) (by decide) (by decide) (fun K hK => ?_) (fun K hK => ?_)
           ·
            skip
            refine goes_ Tryd.func96 (by kernel_rfl) rfl #[.string (⟨#[]⟩:ByteArray)] (by rfl) rfl rfl (by (try simp only [δd,δe,δf]);rfl) ?_
            with_reducible refine (impl_orderKey.calls (⟨#[]⟩:ByteArray) t556 _ A11.out).mono ?_
            rintro e w' ⟨rfl,⟨nd,rfl⟩⟩
            refine ⟨_,rfl,?_⟩
            refine hK.out _ _ ⟨(δl BK555.out 0).trans rfl,(δl BK555.out 1).trans rfl⟩ (fun hHeld => ?_)
            clear hK K
            refine norm_ (a':=?_) ?_ ?_
            rotate_left
            ·
             show ζl _ (some 20) _=_
             simp only [ζl,δa,δb,δc,i64_w,i32_w];rfl
            refine ζk (i:=3) (N:=some 21) (v:=?_) (a':=?_) #[τ,τ,τ,τ,φ,τ,τ,φ,φ,φ,φ,φ,φ,φ] rfl rfl (ζj HT_.out (by kernel_rfl)) (fun _ _ _ h=>h) (Or.inl ⟨by rfl,?_⟩) ?_ ?_
            rotate_left
            · intro w';go_simp;with_reducible rfl
            rotate_left
            · simp only [ζl,δa,δb,δc,i64_w,i32_w];rfl
            refine ζk (i:=4) (N:=some 22) (v:=?_) (a':=?_) #[τ,τ,τ,τ,τ,τ,τ,φ,φ,φ,φ,φ,φ,φ] rfl rfl (ζj HT_.out (by kernel_rfl)) (fun _ _ _ h=>h) (Or.inl ⟨by rfl,?_⟩) ?_ ?_
            rotate_left
            · intro w';go_simp;with_reducible rfl
            rotate_left
            · simp only [ζl,δa,δb,δc,i64_w,i32_w];rfl
            refine two_ (i:=7) (j:=11) (Ni:=some 25) (Nj:=some 6) #[τ,τ,τ,τ,τ,τ,τ,τ,φ,φ,φ,φ,φ,φ] #[τ,τ,τ,τ,τ,τ,τ,φ,φ,φ,φ,τ,φ,φ] rfl rfl rfl rfl (two_of HT_.out (by kernel_rfl)) (by decide) (by decide) (fun K hK => ?_) (fun K hK => ?_)
            ·
             skip
             refine goes_ Tryd.func97 (by kernel_rfl) rfl #[.string (((rd_T71 t551 x13_1).f0).extract (t556.size) ((rd_T71 t551 x13_1).f0).size),.string ((rd_T71 t551 x13_1).f1)] (by rfl) rfl rfl (by (try simp only [δd,δe,δf]);rfl) ?_
             with_reducible refine (impl_orderOf.calls k1 (((rd_T71 t551 x13_1).f0).extract (t556.size) ((rd_T71 t551 x13_1).f0).size) ((rd_T71 t551 x13_1).f1) t557 t558 t559 t560 t561 t562 τ _ (HT0.out.below (by repeat ((with_reducible first|exact HB.out|apply δi)))) A14.out).mono ?_
             rintro e w21 ⟨rfl,hb⟩
             refine ⟨_,rfl,?_⟩
             have n0_:=ζa (ζh (by (with_reducible repeat (apply ζc));exact HO_3.out) hb)
             have n1_:=ζa (ζh (by (with_reducible repeat (apply ζc));exact HO_11.out) hb)
             have n2_:=ζa (blk_below (g:=gb555) (o:=.cells #[.string ((rd_T71 t551 x13_1).f0),.string ((rd_T71 t551 x13_1).f1)] 71 (0,0)) (by (with_reducible repeat (refine δn ?_ _));exact BK555.out) hb)
             have n3_:=ζa (δr (by repeat ((with_reducible first|exact HB.out|apply δi))) hb)
             clear HO_3
             clear HO_11
             clear BK555
             clear HB
             have HO_3:=n0_
             have HO_11:=n1_
             have BK555:=n2_
             have HB:=n3_
             clear n0_ n1_ n2_ n3_
             (try clear hb)
             (try clear hb2)
             (try clear hk)
             (try clear hi)
             refine hK.out _ _ ⟨(δl BK555.out 0).trans rfl,(δl BK555.out 1).trans rfl⟩ (fun hHeld => ?_)
             clear hK K
             refine norm_ (a':=?_) ?_ ?_
             rotate_left
             ·
              show ζl _ (some 25) _=_
              simp only [ζl,δa,δb,δc,i64_w,i32_w];rfl
             refine ζk (i:=8) (N:=some 17) (v:=?_) (a':=?_) #[τ,τ,τ,τ,τ,τ,τ,τ,τ,φ,φ,φ,φ,φ] rfl rfl (ζj HT_.out (by kernel_rfl)) (fun _ _ _ h=>h) (Or.inl ⟨by rfl,?_⟩) ?_ ?_
             rotate_left
             · intro w';go_simp;with_reducible rfl
             rotate_left
             · simp only [ζl,δa,δb,δc,i64_w,i32_w];rfl
             refine ζk (i:=9) (N:=some 26) (v:=?_) (a':=?_) #[τ,τ,τ,τ,τ,τ,τ,τ,τ,τ,φ,φ,φ,φ] rfl rfl (ζj HT_.out (by kernel_rfl)) (fun _ _ _ h=>h) (Or.inl ⟨by rfl,?_⟩) ?_ ?_
             rotate_left
             · intro w';go_simp;with_reducible rfl
             rotate_left
             · simp only [ζl,δa,δb,δc,i64_w,i32_w];rfl
             refine ζk (i:=10) (N:=some 27) (v:=?_) (a':=?_) #[τ,τ,τ,τ,τ,τ,τ,τ,τ,τ,τ,φ,φ,φ] rfl rfl (ζj HT_.out (by kernel_rfl)) (fun _ _ _ h=>h) (Or.inl ⟨by rfl,?_⟩) ?_ ?_
             rotate_left
             · intro w';go_simp;with_reducible rfl
             rotate_left
             · simp only [ζl,δa,δb,δc,i64_w,i32_w];rfl
             refine one_ (i:=11) (N:=some 6) #[τ,τ,τ,τ,τ,τ,τ,τ,τ,τ,τ,τ,φ,φ] rfl rfl (one_of HT_.out (by kernel_rfl)) (by decide) (fun K hK => ?_)
             refine box_step ?hg (N:=6) ?hd (cs:=#[.string (⟨#[]⟩:ByteArray),.string (⟨#[]⟩:ByteArray),.int .i64 0,.int .i64 0,.int .i64 0,.bool φ]) (t:=42) ?hr ?_;(case hd=>rfl);(case hg=>rfl);(case hr=>(go_simp;done))
             intro gb564 hg w22 hbox hb
             have n0_:=ζa (ζh (Kd.R_elderB (by exact HO_3.out) gb564 (Nat.le_of_eq hg.symm)) hb)
             have n1_:=ζa (ζh (by exact HO_11.out) hb)
             have n2_:=ζa (blk_below (g:=gb555) (o:=.cells #[.string ((rd_T71 t551 x13_1).f0),.string ((rd_T71 t551 x13_1).f1)] 71 (0,0)) (by exact BK555.out) hb)
             have n3_:=ζa (δr (by exact HB.out) hb)
             have n4_:=ζa (hbox)
             have n5_:=ζa ((by rw [hg];exact (δs (by exact HB.out)):w.heap.size≤gb564))
             have n6_:=ζa ((by rw [hg];exact (δs (by exact HB.out)):w.heap.size≤gb564))
             have n7_:=ζa ((by rw [hg];exact Nat.ne_of_lt (blk_lt (g:=gb555) (o:=.cells #[.string ((rd_T71 t551 x13_1).f0),.string ((rd_T71 t551 x13_1).f1)] 71 (0,0)) (by exact BK555.out)):gb555≠gb564))
             have n8_:=ζa ((by rw [hg];exact Nat.ne_of_gt (blk_lt (g:=gb555) (o:=.cells #[.string ((rd_T71 t551 x13_1).f0),.string ((rd_T71 t551 x13_1).f1)] 71 (0,0)) (by exact BK555.out)):gb564≠gb555))
             clear HO_3
             clear HO_11
             clear BK555
             clear HB
             have HO_3:=n0_
             have HO_11:=n1_
             have BK555:=n2_
             have HB:=n3_
             have BK564:=n4_
             have GW564:=n5_
             have GE564:=n6_
             have NB555_564:=n7_
             have NB564_555:=n8_
             clear n0_ n1_ n2_ n3_ n4_ n5_ n6_ n7_ n8_
             clear hb hbox hg
             refine hK.out _ _ ⟨(δl BK555.out 0).trans rfl,(δl BK555.out 1).trans rfl⟩ (fun hHeld => ?_)
             clear hK K
             refine norm_ (a':=?_) ?_ ?_
             rotate_left
             ·
              show ζl _ (some 6) _=_
              simp only [ζl,δa,δb,δc,i64_w,i32_w];rfl
             exact norm_ (by simp only [putAll,ζl,δa,δb,δc]) (hCont (gb564) _ ⟨hHeld,(by exact HO_11.out),(by exact Kd.R_mono HO_3.out (fun _ hk=>hk.2)),(by exact BK555.out),(by exact BK564.out),GW564.out,GE564.out,NB555_564.out,NB564_555.out,(by exact HB.out)⟩)
            ·
             skip
             refine box_step ?hg (N:=6) ?hd (cs:=#[.string (⟨#[]⟩:ByteArray),.string (⟨#[]⟩:ByteArray),.int .i64 0,.int .i64 0,.int .i64 0,.bool φ]) (t:=42) ?hr ?_;(case hd=>rfl);(case hg=>rfl);(case hr=>(go_simp;done))
             intro gb564 hg w21 hbox hb
             have n0_:=ζa (ζh (Kd.R_elderB (by (with_reducible repeat (apply ζc));exact HO_3.out) gb564 (Nat.le_of_eq hg.symm)) hb)
             have n1_:=ζa (ζh (by (with_reducible repeat (apply ζc));exact HO_11.out) hb)
             have n2_:=ζa (blk_below (g:=gb555) (o:=.cells #[.string ((rd_T71 t551 x13_1).f0),.string ((rd_T71 t551 x13_1).f1)] 71 (0,0)) (by (with_reducible repeat (refine δn ?_ _));exact BK555.out) hb)
             have n3_:=ζa (δr (by repeat ((with_reducible first|exact HB.out|apply δi))) hb)
             have n4_:=ζa (hbox)
             have n5_:=ζa ((by rw [hg];exact (δs (by repeat ((with_reducible first|exact HB.out|apply δi)))):w.heap.size≤gb564))
             have n6_:=ζa ((by rw [hg];exact (δs (by repeat ((with_reducible first|exact HB.out|apply δi)))):w.heap.size≤gb564))
             have n7_:=ζa ((by rw [hg];exact Nat.ne_of_lt (blk_lt (g:=gb555) (o:=.cells #[.string ((rd_T71 t551 x13_1).f0),.string ((rd_T71 t551 x13_1).f1)] 71 (0,0)) (by (with_reducible repeat (refine δn ?_ _));exact BK555.out)):gb555≠gb564))
             have n8_:=ζa ((by rw [hg];exact Nat.ne_of_gt (blk_lt (g:=gb555) (o:=.cells #[.string ((rd_T71 t551 x13_1).f0),.string ((rd_T71 t551 x13_1).f1)] 71 (0,0)) (by (with_reducible repeat (refine δn ?_ _));exact BK555.out)):gb564≠gb555))
             clear HO_3
             clear HO_11
             clear BK555
             clear HB
             have HO_3:=n0_
             have HO_11:=n1_
             have BK555:=n2_
             have HB:=n3_
             have BK564:=n4_
             have GW564:=n5_
             have GE564:=n6_
             have NB555_564:=n7_
             have NB564_555:=n8_
             clear n0_ n1_ n2_ n3_ n4_ n5_ n6_ n7_ n8_
             clear hb hbox hg
             refine hK.out _ _ ⟨(δl BK555.out 0).trans rfl,(δl BK555.out 1).trans rfl⟩ (fun hHeld => ?_)
             clear hK K
             refine norm_ (a':=?_) ?_ ?_
             rotate_left
             ·
              show ζl _ (some 6) _=_
              simp only [ζl,δa,δb,δc,i64_w,i32_w];rfl
             refine one_ (i:=7) (N:=some 25) #[τ,τ,τ,τ,τ,τ,τ,τ,φ,φ,φ,τ,φ,φ] rfl rfl (one_of HT_.out (by kernel_rfl)) (by decide) (fun K hK => ?_)
             refine goes_ Tryd.func97 (by kernel_rfl) rfl #[.string (((rd_T71 t551 x13_1).f0).extract (t556.size) ((rd_T71 t551 x13_1).f0).size),.string ((rd_T71 t551 x13_1).f1)] (by rfl) rfl rfl (by (try simp only [δd,δe,δf]);rfl) ?_
             with_reducible refine (impl_orderOf.calls k1 (((rd_T71 t551 x13_1).f0).extract (t556.size) ((rd_T71 t551 x13_1).f0).size) ((rd_T71 t551 x13_1).f1) t557 t558 t559 t560 t561 t562 τ _ (HT0.out.below (by exact HB.out)) A14.out).mono ?_
             rintro e w22 ⟨rfl,hb⟩
             refine ⟨_,rfl,?_⟩
             have n0_:=ζa (ζh (by exact HO_3.out) hb)
             have n1_:=ζa (ζh (by exact HO_11.out) hb)
             have n2_:=ζa (blk_below (g:=gb555) (o:=.cells #[.string ((rd_T71 t551 x13_1).f0),.string ((rd_T71 t551 x13_1).f1)] 71 (0,0)) (by exact BK555.out) hb)
             have n3_:=ζa (blk_below (g:=gb564) (o:=.cells #[.string (⟨#[]⟩:ByteArray),.string (⟨#[]⟩:ByteArray),.int .i64 0,.int .i64 0,.int .i64 0,.bool φ] 42 (0,0)) (by exact BK564.out) hb)
             have n4_:=ζa (δr (by exact HB.out) hb)
             clear HO_3
             clear HO_11
             clear BK555
             clear BK564
             clear HB
             have HO_3:=n0_
             have HO_11:=n1_
             have BK555:=n2_
             have BK564:=n3_
             have HB:=n4_
             clear n0_ n1_ n2_ n3_ n4_
             (try clear hb)
             (try clear hb2)
             (try clear hk)
             (try clear hi)
             refine hK.out _ _ ⟨(δl BK555.out 0).trans rfl,(δl BK555.out 1).trans rfl⟩ (fun hHeld => ?_)
             clear hK K
             refine norm_ (a':=?_) ?_ ?_
             rotate_left
             ·
              show ζl _ (some 25) _=_
              simp only [ζl,δa,δb,δc,i64_w,i32_w];rfl
             refine ζk (i:=8) (N:=some 17) (v:=?_) (a':=?_) #[τ,τ,τ,τ,τ,τ,τ,τ,τ,φ,φ,τ,φ,φ] rfl rfl (ζj HT_.out (by kernel_rfl)) (fun _ _ _ h=>h) (Or.inl ⟨by rfl,?_⟩) ?_ ?_
             rotate_left
             · intro w';go_simp;with_reducible rfl
             rotate_left
             · simp only [ζl,δa,δb,δc,i64_w,i32_w];rfl
             refine ζk (i:=9) (N:=some 26) (v:=?_) (a':=?_) #[τ,τ,τ,τ,τ,τ,τ,τ,τ,τ,φ,τ,φ,φ] rfl rfl (ζj HT_.out (by kernel_rfl)) (fun _ _ _ h=>h) (Or.inl ⟨by rfl,?_⟩) ?_ ?_
             rotate_left
             · intro w';go_simp;with_reducible rfl
             rotate_left
             · simp only [ζl,δa,δb,δc,i64_w,i32_w];rfl
             refine ζk (i:=10) (N:=some 27) (v:=?_) (a':=?_) #[τ,τ,τ,τ,τ,τ,τ,τ,τ,τ,τ,τ,φ,φ] rfl rfl (ζj HT_.out (by kernel_rfl)) (fun _ _ _ h=>h) (Or.inl ⟨by rfl,?_⟩) ?_ ?_
             rotate_left
             · intro w';go_simp;with_reducible rfl
             rotate_left
             · simp only [ζl,δa,δb,δc,i64_w,i32_w];rfl
             exact norm_ (by simp only [putAll,ζl,δa,δb,δc]) (hCont (gb564) _ ⟨hHeld,(by exact HO_11.out),(by exact Kd.R_mono HO_3.out (fun _ hk=>hk.2)),(by exact BK555.out),(by exact BK564.out),GW564.out,GE564.out,NB555_564.out,NB564_555.out,(by exact HB.out)⟩)
           ·
            skip
            refine box_step ?hg (N:=6) ?hd (cs:=#[.string (⟨#[]⟩:ByteArray),.string (⟨#[]⟩:ByteArray),.int .i64 0,.int .i64 0,.int .i64 0,.bool φ]) (t:=42) ?hr ?_;(case hd=>rfl);(case hg=>rfl);(case hr=>(go_simp;done))
            intro gb564 hg w21 hbox hb
            have n0_:=ζa (ζh (Kd.R_elderB (by exact HO_3.out) gb564 (Nat.le_of_eq hg.symm)) hb)
            have n1_:=ζa (ζh (by exact HO_11.out) hb)
            have n2_:=ζa (blk_below (g:=gb555) (o:=.cells #[.string ((rd_T71 t551 x13_1).f0),.string ((rd_T71 t551 x13_1).f1)] 71 (0,0)) (by exact BK555.out) hb)
            have n3_:=ζa (δr (by exact HB.out) hb)
            have n4_:=ζa (hbox)
            have n5_:=ζa ((by rw [hg];exact (δs (by exact HB.out)):w.heap.size≤gb564))
            have n6_:=ζa ((by rw [hg];exact (δs (by exact HB.out)):w.heap.size≤gb564))
            have n7_:=ζa ((by rw [hg];exact Nat.ne_of_lt (blk_lt (g:=gb555) (o:=.cells #[.string ((rd_T71 t551 x13_1).f0),.string ((rd_T71 t551 x13_1).f1)] 71 (0,0)) (by exact BK555.out)):gb555≠gb564))
            have n8_:=ζa ((by rw [hg];exact Nat.ne_of_gt (blk_lt (g:=gb555) (o:=.cells #[.string ((rd_T71 t551 x13_1).f0),.string ((rd_T71 t551 x13_1).f1)] 71 (0,0)) (by exact BK555.out)):gb564≠gb555))
            clear HO_3
            clear HO_11
            clear BK555
            clear HB
            have HO_3:=n0_
            have HO_11:=n1_
            have BK555:=n2_
            have HB:=n3_
            have BK564:=n4_
            have GW564:=n5_
            have GE564:=n6_
            have NB555_564:=n7_
            have NB564_555:=n8_
            clear n0_ n1_ n2_ n3_ n4_ n5_ n6_ n7_ n8_
            clear hb hbox hg
            refine hK.out _ _ ⟨(δl BK555.out 0).trans rfl,(δl BK555.out 1).trans rfl⟩ (fun hHeld => ?_)
            clear hK K
            refine norm_ (a':=?_) ?_ ?_
            rotate_left
            ·
             show ζl _ (some 6) _=_
             simp only [ζl,δa,δb,δc,i64_w,i32_w];rfl
            refine one_ (i:=2) (N:=some 20) #[τ,τ,τ,φ,φ,τ,τ,φ,φ,φ,φ,τ,φ,φ] rfl rfl (one_of HT_.out (by kernel_rfl)) (by decide) (fun K hK => ?_)
            refine goes_ Tryd.func96 (by kernel_rfl) rfl #[.string (⟨#[]⟩:ByteArray)] (by rfl) rfl rfl (by (try simp only [δd,δe,δf]);rfl) ?_
            with_reducible refine (impl_orderKey.calls (⟨#[]⟩:ByteArray) t556 _ A11.out).mono ?_
            rintro e w' ⟨rfl,⟨nd,rfl⟩⟩
            refine ⟨_,rfl,?_⟩
            refine hK.out _ _ ⟨(δl BK555.out 0).trans rfl,(δl BK555.out 1).trans rfl⟩ (fun hHeld => ?_)
            clear hK K
            refine norm_ (a':=?_) ?_ ?_
            rotate_left
            ·
             show ζl _ (some 20) _=_
             simp only [ζl,δa,δb,δc,i64_w,i32_w];rfl
            refine ζk (i:=3) (N:=some 21) (v:=?_) (a':=?_) #[τ,τ,τ,τ,φ,τ,τ,φ,φ,φ,φ,τ,φ,φ] rfl rfl (ζj HT_.out (by kernel_rfl)) (fun _ _ _ h=>h) (Or.inl ⟨by rfl,?_⟩) ?_ ?_
            rotate_left
            · intro w';go_simp;with_reducible rfl
            rotate_left
            · simp only [ζl,δa,δb,δc,i64_w,i32_w];rfl
            refine ζk (i:=4) (N:=some 22) (v:=?_) (a':=?_) #[τ,τ,τ,τ,τ,τ,τ,φ,φ,φ,φ,τ,φ,φ] rfl rfl (ζj HT_.out (by kernel_rfl)) (fun _ _ _ h=>h) (Or.inl ⟨by rfl,?_⟩) ?_ ?_
            rotate_left
            · intro w';go_simp;with_reducible rfl
            rotate_left
            · simp only [ζl,δa,δb,δc,i64_w,i32_w];rfl
            refine one_ (i:=7) (N:=some 25) #[τ,τ,τ,τ,τ,τ,τ,τ,φ,φ,φ,τ,φ,φ] rfl rfl (one_of HT_.out (by kernel_rfl)) (by decide) (fun K hK => ?_)
            refine goes_ Tryd.func97 (by kernel_rfl) rfl #[.string (((rd_T71 t551 x13_1).f0).extract (t556.size) ((rd_T71 t551 x13_1).f0).size),.string ((rd_T71 t551 x13_1).f1)] (by rfl) rfl rfl (by (try simp only [δd,δe,δf]);rfl) ?_
            with_reducible refine (impl_orderOf.calls k1 (((rd_T71 t551 x13_1).f0).extract (t556.size) ((rd_T71 t551 x13_1).f0).size) ((rd_T71 t551 x13_1).f1) t557 t558 t559 t560 t561 t562 τ _ (HT0.out.below (by repeat ((with_reducible first|exact HB.out|apply δi)))) A14.out).mono ?_
            rintro e w22 ⟨rfl,hb⟩
            refine ⟨_,rfl,?_⟩
            have n0_:=ζa (ζh (by (with_reducible repeat (apply ζc));exact HO_3.out) hb)
            have n1_:=ζa (ζh (by (with_reducible repeat (apply ζc));exact HO_11.out) hb)
            have n2_:=ζa (blk_below (g:=gb555) (o:=.cells #[.string ((rd_T71 t551 x13_1).f0),.string ((rd_T71 t551 x13_1).f1)] 71 (0,0)) (by (with_reducible repeat (refine δn ?_ _));exact BK555.out) hb)
            have n3_:=ζa (blk_below (g:=gb564) (o:=.cells #[.string (⟨#[]⟩:ByteArray),.string (⟨#[]⟩:ByteArray),.int .i64 0,.int .i64 0,.int .i64 0,.bool φ] 42 (0,0)) (by (with_reducible repeat (refine δn ?_ _));exact BK564.out) hb)
            have n4_:=ζa (δr (by repeat ((with_reducible first|exact HB.out|apply δi))) hb)
            clear HO_3
            clear HO_11
            clear BK555
            clear BK564
            clear HB
            have HO_3:=n0_
            have HO_11:=n1_
            have BK555:=n2_
            have BK564:=n3_
            have HB:=n4_
            clear n0_ n1_ n2_ n3_ n4_
            (try clear hb)
            (try clear hb2)
            (try clear hk)
            (try clear hi)
            refine hK.out _ _ ⟨(δl BK555.out 0).trans rfl,(δl BK555.out 1).trans rfl⟩ (fun hHeld => ?_)
            clear hK K
            refine norm_ (a':=?_) ?_ ?_
            rotate_left
            ·
             show ζl _ (some 25) _=_
             simp only [ζl,δa,δb,δc,i64_w,i32_w];rfl
            refine ζk (i:=8) (N:=some 17) (v:=?_) (a':=?_) #[τ,τ,τ,τ,τ,τ,τ,τ,τ,φ,φ,τ,φ,φ] rfl rfl (ζj HT_.out (by kernel_rfl)) (fun _ _ _ h=>h) (Or.inl ⟨by rfl,?_⟩) ?_ ?_
            rotate_left
            · intro w';go_simp;with_reducible rfl
            rotate_left
            · simp only [ζl,δa,δb,δc,i64_w,i32_w];rfl
            refine ζk (i:=9) (N:=some 26) (v:=?_) (a':=?_) #[τ,τ,τ,τ,τ,τ,τ,τ,τ,τ,φ,τ,φ,φ] rfl rfl (ζj HT_.out (by kernel_rfl)) (fun _ _ _ h=>h) (Or.inl ⟨by rfl,?_⟩) ?_ ?_
            rotate_left
            · intro w';go_simp;with_reducible rfl
            rotate_left
            · simp only [ζl,δa,δb,δc,i64_w,i32_w];rfl
            refine ζk (i:=10) (N:=some 27) (v:=?_) (a':=?_) #[τ,τ,τ,τ,τ,τ,τ,τ,τ,τ,τ,τ,φ,φ] rfl rfl (ζj HT_.out (by kernel_rfl)) (fun _ _ _ h=>h) (Or.inl ⟨by rfl,?_⟩) ?_ ?_
            rotate_left
            · intro w';go_simp;with_reducible rfl
            rotate_left
            · simp only [ζl,δa,δb,δc,i64_w,i32_w];rfl
            exact norm_ (by simp only [putAll,ζl,δa,δb,δc]) (hCont (gb564) _ ⟨hHeld,(by exact HO_11.out),(by exact Kd.R_mono HO_3.out (fun _ hk=>hk.2)),(by exact BK555.out),(by exact BK564.out),GW564.out,GE564.out,NB555_564.out,NB564_555.out,(by exact HB.out)⟩)
          rintro gb564 w23 ⟨hS_,h0_,h1_,h2_,h3_,h4_,h5_,h6_,h7_,h8_⟩
          have n0_:Aside0 (Kd.R k71 71 w23 w.heap.size (fun k_=>k_≠gb555) (.slice (some ad554) t551.length co7) t551):=⟨h0_⟩
          have n1_:Aside0 (Kd.R k42 42 w23 w.heap.size (fun k_=>k_≠gb564) u3 x3_1):=⟨h1_⟩
          have n2_:Aside0 (w23.heap[gb555]? = some (.cells #[.string ((rd_T71 t551 x13_1).f0),.string ((rd_T71 t551 x13_1).f1)] 71 (0,0))):=⟨h2_⟩
          have n3_:Aside0 (w23.heap[gb564]? = some (.cells #[.string (⟨#[]⟩:ByteArray),.string (⟨#[]⟩:ByteArray),.int .i64 0,.int .i64 0,.int .i64 0,.bool φ] 42 (0,0))):=⟨h3_⟩
          have n4_:Aside0 (w.heap.size≤gb564):=⟨h4_⟩
          have n5_:Aside0 (w.heap.size≤gb564):=⟨h5_⟩
          have n6_:Aside0 (gb555≠gb564):=⟨h6_⟩
          have n7_:Aside0 (gb564≠gb555):=⟨h7_⟩
          have n8_:Aside0 (Below w.heap.size w w23):=⟨h8_⟩
          clear HO_3
          clear HO_11
          clear BK555
          clear HB
          clear h0_ h1_ h2_ h3_ h4_ h5_ h6_ h7_ h8_
          have HO_11:=n0_
          have HO_3:=n1_
          have BK555:=n2_
          have BK564:=n3_
          have GW564:=n4_
          have GE564:=n5_
          have NB555_564:=n6_
          have NB564_555:=n7_
          have HB:=n8_
          clear n0_ n1_ n2_ n3_ n4_ n5_ n6_ n7_ n8_
          have hHeld:w23.cell? ⟨gb555,0,none⟩=some (.string ((rd_T71 t551 x13_1).f0))∧w23.cell? ⟨gb555,1,none⟩=some (.string ((rd_T71 t551 x13_1).f1)):=hS_
          refine norm_ (a':=?_) ?_ ?_
          rotate_left
          · simp only [putAll,ζl,δa,δb,δc];rfl
          refine one_ (i:=12) (N:=none) #[τ,τ,τ,τ,τ,τ,τ,τ,τ,τ,τ,τ,τ,φ] rfl rfl (one_of HT_.out (by kernel_rfl)) (by decide) (fun K hK => ?_)
          have hs24:w23.cell? ⟨gb564,0,none⟩=some (.string (⟨#[]⟩:ByteArray)):=(δl BK564.out 0).trans rfl
          have hfs24:=δm BK564.out 0
          have hns24_0:=NB555_564.out
          have hms24_0:=NB564_555.out
          have hs25:w23.cell? ⟨gb564,1,none⟩=some (.string (⟨#[]⟩:ByteArray)):=(δl BK564.out 1).trans rfl
          have hfs25:=δm BK564.out 1
          have hns25_0:=NB555_564.out
          have hms25_0:=NB564_555.out
          have hs26:w23.cell? ⟨gb564,2,none⟩=some (.int .i64 0):=(δl BK564.out 2).trans rfl
          have hfs26:=δm BK564.out 2
          have hns26_0:=NB555_564.out
          have hms26_0:=NB564_555.out
          have hs27:w23.cell? ⟨gb564,3,none⟩=some (.int .i64 0):=(δl BK564.out 3).trans rfl
          have hfs27:=δm BK564.out 3
          have hns27_0:=NB555_564.out
          have hms27_0:=NB564_555.out
          have hs28:w23.cell? ⟨gb564,4,none⟩=some (.int .i64 0):=(δl BK564.out 4).trans rfl
          have hfs28:=δm BK564.out 4
          have hns28_0:=NB555_564.out
          have hms28_0:=NB564_555.out
          have hs29:w23.cell? ⟨gb564,5,none⟩=some (.bool φ):=(δl BK564.out 5).trans rfl
          have hfs29:=δm BK564.out 5
          have hns29_0:=NB555_564.out
          have hms29_0:=NB564_555.out
          refine skip_ (w1:=?_) (by rfl) rfl ?_ ?_
          rotate_left
          ·
           go_simp
           rfl
          refine hK.out _ _ ⟨((δt (p:=⟨gb564,_,none⟩) NB555_564.out _).trans (((δt (p:=⟨gb564,_,none⟩) NB555_564.out _).trans (((δt (p:=⟨gb564,_,none⟩) NB555_564.out _).trans (((δt (p:=⟨gb564,_,none⟩) NB555_564.out _).trans (((δt (p:=⟨gb564,_,none⟩) NB555_564.out _).trans (((δt (p:=⟨gb564,_,none⟩) NB555_564.out _).trans (hHeld.1)))))))))))),((δt (p:=⟨gb564,_,none⟩) NB555_564.out _).trans (((δt (p:=⟨gb564,_,none⟩) NB555_564.out _).trans (((δt (p:=⟨gb564,_,none⟩) NB555_564.out _).trans (((δt (p:=⟨gb564,_,none⟩) NB555_564.out _).trans (((δt (p:=⟨gb564,_,none⟩) NB555_564.out _).trans (((δt (p:=⟨gb564,_,none⟩) NB555_564.out _).trans (hHeld.2))))))))))))⟩ (fun hHeld => ?_)
          clear hK K
          refine ζk (i:=13) (N:=some 7) (v:=?_) (a':=?_) #[τ,τ,τ,τ,τ,τ,τ,τ,τ,τ,τ,τ,τ,τ] rfl rfl (ζj HT_.out (by kernel_rfl)) (fun _ _ _ h=>h) (Or.inl ⟨by rfl,?_⟩) ?_ ?_
          rotate_left
          · intro w';go_simp;with_reducible rfl
          rotate_left
          · simp only [ζl,δa,δb,δc,i64_w,i32_w];rfl
          refine done_ (done_of HT_.out (by kernel_rfl)) ?_
          have hnb30:=NB564_555.out
          have hnc30:=NB555_564.out
          have hcz31_0:w23.cell? ⟨gb564,0,none⟩=some (.string (⟨#[]⟩:ByteArray)):=(δl BK564.out 0).trans rfl
          have hcz31_1:w23.cell? ⟨gb564,1,none⟩=some (.string (⟨#[]⟩:ByteArray)):=(δl BK564.out 1).trans rfl
          have hcz31_2:w23.cell? ⟨gb564,2,none⟩=some (.int .i64 0):=(δl BK564.out 2).trans rfl
          have hcz31_3:w23.cell? ⟨gb564,3,none⟩=some (.int .i64 0):=(δl BK564.out 3).trans rfl
          have hcz31_4:w23.cell? ⟨gb564,4,none⟩=some (.int .i64 0):=(δl BK564.out 4).trans rfl
          have hcz31_5:w23.cell? ⟨gb564,5,none⟩=some (.bool φ):=(δl BK564.out 5).trans rfl
          have hfz31_0:=δm BK564.out 0
          have hfz31_1:=δm BK564.out 1
          have hfz31_2:=δm BK564.out 2
          have hfz31_3:=δm BK564.out 3
          have hfz31_4:=δm BK564.out 4
          have hfz31_5:=δm BK564.out 5
          try go_wp2_with (((with_reducible refine δy (b:=.append) (xs:=#[.tmp 29,.tmp 31]) rfl ?_);at_builtin;refine Kd.R_append k42 (w0:=w) w.heap.size rfl (.tmp 29) (.tmp 31) 47 42 (.agg #[(.string ⟨#[]⟩),(.string ⟨#[]⟩),(.int .i64 0),(.int .i64 0),(.int .i64 0),(.bool φ)]) 64 rfl Tryd.underlying47 info42 rfl (by decide) (by omega) u3 x3_1 (⟨t557,t558,t559,t560,t561,t562⟩:S42) [.string t557,.string t558,.int .i64 t559,.int .i64 t560,.int .i64 t561,.bool t562] (fun k_=>k_≠gb564) (fun _=>False) rfl (by (go_simp;done)) ?aP (fun _ hk=>hk.elim) ?aF ?aO ?aB ?aS ?aL ?_;(case aP=>exact k42_mkM _ _ _ (⟨t557,t558,t559,t560,t561,t562⟩:S42));(case aB=>exact (by repeat ((with_reducible first|exact HB.out|refine δq ?_ GE564.out))));(case aF=>exact (fun k_ hk=>Kd.freshB (g:=gb564) (o:=.cells #[.string t557,.string t558,.int .i64 t559,.int .i64 t560,.int .i64 t561,.bool t562] 42 (0,0)) (by refine δw (cs:=#[.string t557,.string t558,.int .i64 t559,.int .i64 t560,.int .i64 t561,.bool φ]) ?_ 5 _ rfl;refine δw (cs:=#[.string t557,.string t558,.int .i64 t559,.int .i64 t560,.int .i64 0,.bool φ]) ?_ 4 _ rfl;refine δw (cs:=#[.string t557,.string t558,.int .i64 t559,.int .i64 0,.int .i64 0,.bool φ]) ?_ 3 _ rfl;refine δw (cs:=#[.string t557,.string t558,.int .i64 0,.int .i64 0,.int .i64 0,.bool φ]) ?_ 2 _ rfl;refine δw (cs:=#[.string t557,.string (⟨#[]⟩:ByteArray),.int .i64 0,.int .i64 0,.int .i64 0,.bool φ]) ?_ 1 _ rfl;refine δw (cs:=#[.string (⟨#[]⟩:ByteArray),.string (⟨#[]⟩:ByteArray),.int .i64 0,.int .i64 0,.int .i64 0,.bool φ]) ?_ 0 _ rfl;exact BK564.out) k_ hk));(case aO=>exact (by exact Kd.R_mono (ζi (p:=⟨gb564,5,none⟩) (ζi (p:=⟨gb564,4,none⟩) (ζi (p:=⟨gb564,3,none⟩) (ζi (p:=⟨gb564,2,none⟩) (ζi (p:=⟨gb564,1,none⟩) (ζi (p:=⟨gb564,0,none⟩) (Kd.R_mono HO_3.out (fun k_ hk=>(⟨hk,hk⟩:_∧k_≠gb564))) (fun _ hk=>hk.2) (.string t557)) (fun _ hk=>hk.2) (.string t558)) (fun _ hk=>hk.2) (.int .i64 t559)) (fun _ hk=>hk.2) (.int .i64 t560)) (fun _ hk=>hk.2) (.int .i64 t561)) (fun _ hk=>hk.2) (.bool t562)) (fun _ hk=>hk.1)));(case aS=>exact (δs (by repeat ((with_reducible first|exact HB.out|refine δq ?_ GE564.out)))));(case aL=>have:=LMc16.out;omega);intro v566 w32 ho hb hg hat;rw [← Ny565.out] at ho;have n0_:=ζa (Kd.R_over' (by exact (Kd.R_mono (ζi (p:=⟨gb564,5,none⟩) (ζi (p:=⟨gb564,4,none⟩) (ζi (p:=⟨gb564,3,none⟩) (ζi (p:=⟨gb564,2,none⟩) (ζi (p:=⟨gb564,1,none⟩) (ζi (p:=⟨gb564,0,none⟩) (Kd.R_types HO_11.out BK564.out (by decide)) (fun _ hk=>hk.2) (.string t557)) (fun _ hk=>hk.2) (.string t558)) (fun _ hk=>hk.2) (.int .i64 t559)) (fun _ hk=>hk.2) (.int .i64 t560)) (fun _ hk=>hk.2) (.int .i64 t561)) (fun _ hk=>hk.2) (.bool t562)) (fun _ h_=>h_.1))) (Kd.R_typed (by exact (Kd.R_mono (ζi (p:=⟨gb564,5,none⟩) (ζi (p:=⟨gb564,4,none⟩) (ζi (p:=⟨gb564,3,none⟩) (ζi (p:=⟨gb564,2,none⟩) (ζi (p:=⟨gb564,1,none⟩) (ζi (p:=⟨gb564,0,none⟩) (Kd.R_mono HO_3.out (fun k_ hk=>(⟨hk,hk⟩:_∧k_≠gb564))) (fun _ hk=>hk.2) (.string t557)) (fun _ hk=>hk.2) (.string t558)) (fun _ hk=>hk.2) (.int .i64 t559)) (fun _ hk=>hk.2) (.int .i64 t560)) (fun _ hk=>hk.2) (.int .i64 t561)) (fun _ hk=>hk.2) (.bool t562)) (fun _ h_=>h_.1)))) (by decide) hg);have n1_:=ζa (blk_grown (g:=gb555) (o:=.cells #[.string ((rd_T71 t551 x13_1).f0),.string ((rd_T71 t551 x13_1).f1)] 71 (0,0)) (by refine blk_far ?_ NB555_564.out _;refine blk_far ?_ NB555_564.out _;refine blk_far ?_ NB555_564.out _;refine blk_far ?_ NB555_564.out _;refine blk_far ?_ NB555_564.out _;refine blk_far ?_ NB555_564.out _;exact BK555.out) hg (ζf HO_3.out BK555.out (by decide)));have n2_:=ζa (blk_grown (g:=gb564) (o:=.cells #[.string t557,.string t558,.int .i64 t559,.int .i64 t560,.int .i64 t561,.bool t562] 42 (0,0)) (by refine δw (cs:=#[.string t557,.string t558,.int .i64 t559,.int .i64 t560,.int .i64 t561,.bool φ]) ?_ 5 _ rfl;refine δw (cs:=#[.string t557,.string t558,.int .i64 t559,.int .i64 t560,.int .i64 0,.bool φ]) ?_ 4 _ rfl;refine δw (cs:=#[.string t557,.string t558,.int .i64 t559,.int .i64 0,.int .i64 0,.bool φ]) ?_ 3 _ rfl;refine δw (cs:=#[.string t557,.string t558,.int .i64 0,.int .i64 0,.int .i64 0,.bool φ]) ?_ 2 _ rfl;refine δw (cs:=#[.string t557,.string (⟨#[]⟩:ByteArray),.int .i64 0,.int .i64 0,.int .i64 0,.bool φ]) ?_ 1 _ rfl;refine δw (cs:=#[.string (⟨#[]⟩:ByteArray),.string (⟨#[]⟩:ByteArray),.int .i64 0,.int .i64 0,.int .i64 0,.bool φ]) ?_ 0 _ rfl;exact BK564.out) hg (Kd.R_away HO_3.out (fun _ hk=>hk)));have n3_:=ζa (hb);have n4_:=ζa (ho);clear HO_11;clear BK555;clear BK564;clear HB;clear HO_3;have HO_11:=n0_;have BK555:=n1_;have BK564:=n2_;have HB:=n3_;have HO567:=n4_;clear n0_ n1_ n2_ n3_ n4_;clear ho hb hg hat))
          go_roundg k1
          case measure=>have:=HK1.out;omega
          case rel=>exact ⟨(y565),(ζm (x13_1+1)),(by rfl),H',⟨by have:=HK1.out;omega⟩,⟨by exact Kd.R_mono HO567.out (fun _ hk=>trivial)⟩,⟨by exact Kd.R_mono HO_11.out (fun _ hk=>trivial)⟩,⟨by repeat ((with_reducible exact HB.out))⟩⟩
         ·
          rw [if_neg c16] at H
          exact absurd H (by simp)
        ·
         replace c15:=Bool.eq_false_iff.mpr c15
         subst c15
         have H1:(impl_ordersOf.l0 k1 x3_1 t551 (t551.length:Int) (ζm (x13_1+1)))=some r:=by rw [if_neg (show ¬ (φ=τ) by decide)] at H;exact H
         clear H
         have H:=H1
         clear H1
         have H':=ζa H
         clear H
         have p554:0≤(x13_1:Int):=of_decide_eq_true (by (with_reducible assumption))
         have q554:x13_1<(t551.length:Int):=of_decide_eq_true (by (with_reducible assumption))
         obtain ⟨ad554,e554,hx554_0,hx554_1⟩:=at_T71 (ζg HO_11.out).2.2 x13_1 p554 q554
         cases e554
         replace p554:=eq_true p554
         replace q554:=eq_true q554
         try go_wp2_with (((with_reducible refine δx (N:=5) rfl ?_);refine δz ?hg (N:=5) ?hd (cs:=#[.string (⟨#[]⟩:ByteArray),.string (⟨#[]⟩:ByteArray)]) (t:=71) ?hr ?_;(case hd=>rfl);(case hg=>rfl);(case hr=>(go_simp;done));intro gb555 hg w33 hbox hb;have n0_:=ζa (ζh (by exact HO_3.out) hb);have n1_:=ζa (ζh (Kd.R_elderB (by exact HO_11.out) gb555 (Nat.le_of_eq hg.symm)) hb);have n2_:=ζa (δr (by exact HB.out) hb);have n3_:=ζa (hbox);have n4_:=ζa ((by rw [hg];exact (δs (by exact HB.out)):w.heap.size≤gb555));have n5_:=ζa ((by rw [hg];exact (δs (by exact HB.out)):w.heap.size≤gb555));clear HO_3;clear HO_11;clear HB;have HO_3:=n0_;have HO_11:=n1_;have HB:=n2_;have BK555:=n3_;have GW555:=n4_;have GE555:=n5_;clear n0_ n1_ n2_ n3_ n4_ n5_;clear hb hbox hg;have hcz34_0:w33.cell? ⟨gb555,0,none⟩=some (.string (⟨#[]⟩:ByteArray)):=(δl BK555.out 0).trans rfl;have hcz34_1:w33.cell? ⟨gb555,1,none⟩=some (.string (⟨#[]⟩:ByteArray)):=(δl BK555.out 1).trans rfl;have hfz34_0:=δm BK555.out 0;have hfz34_1:=δm BK555.out 1))
         have n0_:Aside0 (Kd.R k42 42 ((w33.setCell ⟨gb555,0,none⟩ (.string ((rd_T71 t551 x13_1).f0))).setCell ⟨gb555,1,none⟩ (.string ((rd_T71 t551 x13_1).f1))) w.heap.size (fun _=>True) u3 x3_1):=⟨by exact Kd.R_mono (ζi (p:=⟨gb555,1,none⟩) (ζi (p:=⟨gb555,0,none⟩) (Kd.R_types HO_3.out BK555.out (by decide)) (fun _ hk=>hk.2) (.string ((rd_T71 t551 x13_1).f0))) (fun _ hk=>hk.2) (.string ((rd_T71 t551 x13_1).f1))) (fun _ hk=>trivial)⟩
         have n1_:Aside0 (Kd.R k71 71 ((w33.setCell ⟨gb555,0,none⟩ (.string ((rd_T71 t551 x13_1).f0))).setCell ⟨gb555,1,none⟩ (.string ((rd_T71 t551 x13_1).f1))) w.heap.size (fun k_=>k_≠gb555) (.slice (some ad554) t551.length co7) t551):=⟨by exact Kd.R_mono (ζi (p:=⟨gb555,1,none⟩) (ζi (p:=⟨gb555,0,none⟩) (Kd.R_mono HO_11.out (fun k_ hk=>(⟨hk,hk.2⟩:_∧k_≠gb555))) (fun _ hk=>hk.2) (.string ((rd_T71 t551 x13_1).f0))) (fun _ hk=>hk.2) (.string ((rd_T71 t551 x13_1).f1))) (fun _ hk=>hk.1.2)⟩
         have n2_:Aside0 (((w33.setCell ⟨gb555,0,none⟩ (.string ((rd_T71 t551 x13_1).f0))).setCell ⟨gb555,1,none⟩ (.string ((rd_T71 t551 x13_1).f1))).heap[gb555]? = some (.cells #[.string ((rd_T71 t551 x13_1).f0),.string ((rd_T71 t551 x13_1).f1)] 71 (0,0))):=⟨by refine δw (cs:=#[.string ((rd_T71 t551 x13_1).f0),.string (⟨#[]⟩:ByteArray)]) ?_ 1 _ rfl;refine δw (cs:=#[.string (⟨#[]⟩:ByteArray),.string (⟨#[]⟩:ByteArray)]) ?_ 0 _ rfl;exact BK555.out⟩
         have n3_:Aside0 (Below w.heap.size w ((w33.setCell ⟨gb555,0,none⟩ (.string ((rd_T71 t551 x13_1).f0))).setCell ⟨gb555,1,none⟩ (.string ((rd_T71 t551 x13_1).f1)))):=⟨by repeat ((with_reducible first|exact HB.out|refine δq ?_ GE555.out))⟩
         (try clear HO_3)
         (try clear HO_11)
         (try clear BK555)
         (try clear HB)
         generalize ((w33.setCell ⟨gb555,0,none⟩ (.string ((rd_T71 t551 x13_1).f0))).setCell ⟨gb555,1,none⟩ (.string ((rd_T71 t551 x13_1).f1)))=w35 at n0_ n1_ n2_ n3_ ⊢
         have HO_3:=n0_
         have HO_11:=n1_
         have BK555:=n2_
         have HB:=n3_
         clear n0_ n1_ n2_ n3_
         have n0_:=ζa (ζe HO_3.out)
         have n1_:=ζa (ζe HO_11.out)
         have n2_:=ζa (δp BK555.out)
         have n3_:=ζa (δj HB.out)
         clear HO_3
         clear HO_11
         clear BK555
         clear HB
         have HO_3:=n0_
         have HO_11:=n1_
         have BK555:=n2_
         have HB:=n3_
         clear n0_ n1_ n2_ n3_
         refine start_ (n:=14) (S:=fun w'=>w'.cell? ⟨gb555,0,none⟩=some (.string ((rd_T71 t551 x13_1).f0))∧w'.cell? ⟨gb555,1,none⟩=some (.string ((rd_T71 t551 x13_1).f1))) (ds:=[]) #[φ,φ,φ,φ,φ,φ,φ,φ,φ,φ,φ,φ,φ,φ] (by kernel_rfl) rfl rfl ⟨(δl BK555.out 0).trans rfl,(δl BK555.out 1).trans rfl⟩ (fun hHeld => ?_);refine with_tabW impl_ordersOf.tab5 impl_ordersOf.bits5 (fun HT_ HW_ => ?_)
         generalize w35.drew=w36 at HO_3 HO_11 BK555 HB hHeld ⊢
         refine ζk (i:=0) (N:=some 18) (v:=?_) (a':=?_) #[τ,φ,φ,φ,φ,φ,φ,φ,φ,φ,φ,φ,φ,φ] rfl rfl (ζj HT_.out (by kernel_rfl)) (fun _ _ _ h=>h) (Or.inl ⟨by rfl,?_⟩) ?_ ?_
         rotate_left
         · intro w';go_simp;with_reducible rfl
         rotate_left
         · simp only [ζl,δa,δb,δc,i64_w,i32_w];rfl
         refine ζk (i:=5) (N:=some 23) (v:=?_) (a':=?_) #[τ,φ,φ,φ,φ,τ,φ,φ,φ,φ,φ,φ,φ,φ] rfl rfl (ζj HT_.out (by kernel_rfl)) (fun _ _ _ h=>h) (Or.inl ⟨by rfl,?_⟩) ?_ ?_
         rotate_left
         · intro w';go_simp;with_reducible rfl
         rotate_left
         · simp only [ζl,δa,δb,δc,i64_w,i32_w];rfl
         refine take_ (i:=1) (N:=some 19) (v:=?_) (a':=?_) #[τ,τ,φ,φ,φ,τ,φ,φ,φ,φ,φ,φ,φ,φ] rfl rfl (take_ofW HT_.out HW_.out (by kernel_rfl)) (fun _ _ _ h=>h) (Or.inl ⟨by rfl,?_⟩) hHeld ?_ ?_
         rotate_left
         · rintro w' ⟨s0,s1⟩;go_simp;with_reducible rfl
         rotate_left
         · simp only [ζl,δa,δb,δc,i64_w,i32_w];rfl
         refine take_ (i:=6) (N:=some 24) (v:=?_) (a':=?_) #[τ,τ,φ,φ,φ,τ,τ,φ,φ,φ,φ,φ,φ,φ] rfl rfl (take_ofW HT_.out HW_.out (by kernel_rfl)) (fun _ _ _ h=>h) (Or.inl ⟨by rfl,?_⟩) hHeld ?_ ?_
         rotate_left
         · rintro w' ⟨s0,s1⟩;go_simp;with_reducible rfl
         rotate_left
         · simp only [ζl,δa,δb,δc,i64_w,i32_w];rfl
         refine join_ (σ:=Nat) 2 #[τ,τ,τ,τ,τ,τ,τ,τ,τ,τ,τ,τ,φ,φ] (fun s_ => [(20,.string t556),(25,.tuple #[.agg #[.string t557,.string t558,.int .i64 t559,.int .i64 t560,.int .i64 t561,.bool t562],.bool φ]),(6,.pointer (some ⟨s_,0,none⟩)),(21,.int .i64 (t556.size:Int)),(22,.string (((rd_T71 t551 x13_1).f0).extract (t556.size) ((rd_T71 t551 x13_1).f0).size)),(17,.tuple #[.agg #[.string t557,.string t558,.int .i64 t559,.int .i64 t560,.int .i64 t561,.bool t562],.bool φ]),(26,.agg #[.string t557,.string t558,.int .i64 t559,.int .i64 t560,.int .i64 t561,.bool t562]),(27,.bool φ)]) (fun s_ w'=>(w'.cell? ⟨gb555,0,none⟩=some (.string ((rd_T71 t551 x13_1).f0))∧w'.cell? ⟨gb555,1,none⟩=some (.string ((rd_T71 t551 x13_1).f1)))∧(Kd.R k71 71 w' w.heap.size (fun k_=>k_≠gb555) (.slice (some ad554) t551.length co7) t551)∧(Kd.R k42 42 w' w.heap.size (fun k_=>k_≠s_) u3 x3_1)∧(w'.heap[gb555]? = some (.cells #[.string ((rd_T71 t551 x13_1).f0),.string ((rd_T71 t551 x13_1).f1)] 71 (0,0)))∧(w'.heap[s_]? = some (.cells #[.string (⟨#[]⟩:ByteArray),.string (⟨#[]⟩:ByteArray),.int .i64 0,.int .i64 0,.int .i64 0,.bool φ] 42 (0,0)))∧(w.heap.size≤s_)∧(w.heap.size≤s_)∧(gb555≠s_)∧(s_≠gb555)∧(Below w.heap.size w w')) ?_ ?_
         rotate_left
         ·
          intro hCont
          refine two_ (i:=2) (j:=11) (Ni:=some 20) (Nj:=some 6) #[τ,τ,τ,φ,φ,τ,τ,φ,φ,φ,φ,φ,φ,φ] #[τ,τ,φ,φ,φ,τ,τ,φ,φ,φ,φ,τ,φ,φ] rfl rfl rfl rfl (two_of HT_.out (by kernel_rfl)) (by decide) (by decide) (fun K hK => ?_) (fun K hK => ?_)
          ·
           skip
           refine goes_ Tryd.func96 (by kernel_rfl) rfl #[.string (⟨#[]⟩:ByteArray)] (by rfl) rfl rfl (by (try simp only [δd,δe,δf]);rfl) ?_
           with_reducible refine (impl_orderKey.calls (⟨#[]⟩:ByteArray) t556 _ A11.out).mono ?_
           rintro e w' ⟨rfl,⟨nd,rfl⟩⟩
           refine ⟨_,rfl,?_⟩
           refine hK.out _ _ ⟨(δl BK555.out 0).trans rfl,(δl BK555.out 1).trans rfl⟩ (fun hHeld => ?_)
           clear hK K
           refine norm_ (a':=?_) ?_ ?_
           rotate_left
           ·
            show ζl _ (some 20) _=_
            simp only [ζl,δa,δb,δc,i64_w,i32_w];rfl
           refine ζk (i:=3) (N:=some 21) (v:=?_) (a':=?_) #[τ,τ,τ,τ,φ,τ,τ,φ,φ,φ,φ,φ,φ,φ] rfl rfl (ζj HT_.out (by kernel_rfl)) (fun _ _ _ h=>h) (Or.inl ⟨by rfl,?_⟩) ?_ ?_
           rotate_left
           · intro w';go_simp;with_reducible rfl
           rotate_left
           · simp only [ζl,δa,δb,δc,i64_w,i32_w];rfl
           refine ζk (i:=4) (N:=some 22) (v:=?_) (a':=?_) #[τ,τ,τ,τ,τ,τ,τ,φ,φ,φ,φ,φ,φ,φ] rfl rfl (ζj HT_.out (by kernel_rfl)) (fun _ _ _ h=>h) (Or.inl ⟨by rfl,?_⟩) ?_ ?_
           rotate_left
           · intro w';go_simp;with_reducible rfl
           rotate_left
           · simp only [ζl,δa,δb,δc,i64_w,i32_w];rfl
           refine two_ (i:=7) (j:=11) (Ni:=some 25) (Nj:=some 6) #[τ,τ,τ,τ,τ,τ,τ,τ,φ,φ,φ,φ,φ,φ] #[τ,τ,τ,τ,τ,τ,τ,φ,φ,φ,φ,τ,φ,φ] rfl rfl rfl rfl (two_of HT_.out (by kernel_rfl)) (by decide) (by decide) (fun K hK => ?_) (fun K hK => ?_)
           ·
            skip
            refine goes_ Tryd.func97 (by kernel_rfl) rfl #[.string (((rd_T71 t551 x13_1).f0).extract (t556.size) ((rd_T71 t551 x13_1).f0).size),.string ((rd_T71 t551 x13_1).f1)] (by rfl) rfl rfl (by (try simp only [δd,δe,δf]);rfl) ?_
            with_reducible refine (impl_orderOf.calls k1 (((rd_T71 t551 x13_1).f0).extract (t556.size) ((rd_T71 t551 x13_1).f0).size) ((rd_T71 t551 x13_1).f1) t557 t558 t559 t560 t561 t562 φ _ (HT0.out.below (by repeat ((with_reducible first|exact HB.out|apply δi)))) A14.out).mono ?_
            rintro e w37 ⟨rfl,hb⟩
            refine ⟨_,rfl,?_⟩
            have n0_:=ζa (ζh (by (with_reducible repeat (apply ζc));exact HO_3.out) hb)
            have n1_:=ζa (ζh (by (with_reducible repeat (apply ζc));exact HO_11.out) hb)
            have n2_:=ζa (blk_below (g:=gb555) (o:=.cells #[.string ((rd_T71 t551 x13_1).f0),.string ((rd_T71 t551 x13_1).f1)] 71 (0,0)) (by (with_reducible repeat (refine δn ?_ _));exact BK555.out) hb)
            have n3_:=ζa (δr (by repeat ((with_reducible first|exact HB.out|apply δi))) hb)
            clear HO_3
            clear HO_11
            clear BK555
            clear HB
            have HO_3:=n0_
            have HO_11:=n1_
            have BK555:=n2_
            have HB:=n3_
            clear n0_ n1_ n2_ n3_
            (try clear hb)
            (try clear hb2)
            (try clear hk)
            (try clear hi)
            refine hK.out _ _ ⟨(δl BK555.out 0).trans rfl,(δl BK555.out 1).trans rfl⟩ (fun hHeld => ?_)
            clear hK K
            refine norm_ (a':=?_) ?_ ?_
            rotate_left
            ·
             show ζl _ (some 25) _=_
             simp only [ζl,δa,δb,δc,i64_w,i32_w];rfl
            refine ζk (i:=8) (N:=some 17) (v:=?_) (a':=?_) #[τ,τ,τ,τ,τ,τ,τ,τ,τ,φ,φ,φ,φ,φ] rfl rfl (ζj HT_.out (by kernel_rfl)) (fun _ _ _ h=>h) (Or.inl ⟨by rfl,?_⟩) ?_ ?_
            rotate_left
            · intro w';go_simp;with_reducible rfl
            rotate_left
            · simp only [ζl,δa,δb,δc,i64_w,i32_w];rfl
            refine ζk (i:=9) (N:=some 26) (v:=?_) (a':=?_) #[τ,τ,τ,τ,τ,τ,τ,τ,τ,τ,φ,φ,φ,φ] rfl rfl (ζj HT_.out (by kernel_rfl)) (fun _ _ _ h=>h) (Or.inl ⟨by rfl,?_⟩) ?_ ?_
            rotate_left
            · intro w';go_simp;with_reducible rfl
            rotate_left
            · simp only [ζl,δa,δb,δc,i64_w,i32_w];rfl
            refine ζk (i:=10) (N:=some 27) (v:=?_) (a':=?_) #[τ,τ,τ,τ,τ,τ,τ,τ,τ,τ,τ,φ,φ,φ] rfl rfl (ζj HT_.out (by kernel_rfl)) (fun _ _ _ h=>h) (Or.inl ⟨by rfl,?_⟩) ?_ ?_
            rotate_left
            · intro w';go_simp;with_reducible rfl
            rotate_left
            · simp only [ζl,δa,δb,δc,i64_w,i32_w];rfl
            refine one_ (i:=11) (N:=some 6) #[τ,τ,τ,τ,τ,τ,τ,τ,τ,τ,τ,τ,φ,φ] rfl rfl (one_of HT_.out (by kernel_rfl)) (by decide) (fun K hK => ?_)
            refine box_step ?hg (N:=6) ?hd (cs:=#[.string (⟨#[]⟩:ByteArray),.string (⟨#[]⟩:ByteArray),.int .i64 0,.int .i64 0,.int .i64 0,.bool φ]) (t:=42) ?hr ?_;(case hd=>rfl);(case hg=>rfl);(case hr=>(go_simp;done))
            intro gb564 hg w38 hbox hb
            have n0_:=ζa (ζh (Kd.R_elderB (by exact HO_3.out) gb564 (Nat.le_of_eq hg.symm)) hb)
            have n1_:=ζa (ζh (by exact HO_11.out) hb)
            have n2_:=ζa (blk_below (g:=gb555) (o:=.cells #[.string ((rd_T71 t551 x13_1).f0),.string ((rd_T71 t551 x13_1).f1)] 71 (0,0)) (by exact BK555.out) hb)
            have n3_:=ζa (δr (by exact HB.out) hb)
            have n4_:=ζa (hbox)
            have n5_:=ζa ((by rw [hg];exact (δs (by exact HB.out)):w.heap.size≤gb564))
            have n6_:=ζa ((by rw [hg];exact (δs (by exact HB.out)):w.heap.size≤gb564))
            have n7_:=ζa ((by rw [hg];exact Nat.ne_of_lt (blk_lt (g:=gb555) (o:=.cells #[.string ((rd_T71 t551 x13_1).f0),.string ((rd_T71 t551 x13_1).f1)] 71 (0,0)) (by exact BK555.out)):gb555≠gb564))
            have n8_:=ζa ((by rw [hg];exact Nat.ne_of_gt (blk_lt (g:=gb555) (o:=.cells #[.string ((rd_T71 t551 x13_1).f0),.string ((rd_T71 t551 x13_1).f1)] 71 (0,0)) (by exact BK555.out)):gb564≠gb555))
            clear HO_3
            clear HO_11
            clear BK555
            clear HB
            have HO_3:=n0_
            have HO_11:=n1_
            have BK555:=n2_
            have HB:=n3_
            have BK564:=n4_
            have GW564:=n5_
            have GE564:=n6_
            have NB555_564:=n7_
            have NB564_555:=n8_
            clear n0_ n1_ n2_ n3_ n4_ n5_ n6_ n7_ n8_
            clear hb hbox hg
            refine hK.out _ _ ⟨(δl BK555.out 0).trans rfl,(δl BK555.out 1).trans rfl⟩ (fun hHeld => ?_)
            clear hK K
            refine norm_ (a':=?_) ?_ ?_
            rotate_left
            ·
             show ζl _ (some 6) _=_
             simp only [ζl,δa,δb,δc,i64_w,i32_w];rfl
            exact norm_ (by simp only [putAll,ζl,δa,δb,δc]) (hCont (gb564) _ ⟨hHeld,(by exact HO_11.out),(by exact Kd.R_mono HO_3.out (fun _ hk=>hk.2)),(by exact BK555.out),(by exact BK564.out),GW564.out,GE564.out,NB555_564.out,NB564_555.out,(by exact HB.out)⟩)
           ·
            skip
            refine box_step ?hg (N:=6) ?hd (cs:=#[.string (⟨#[]⟩:ByteArray),.string (⟨#[]⟩:ByteArray),.int .i64 0,.int .i64 0,.int .i64 0,.bool φ]) (t:=42) ?hr ?_;(case hd=>rfl);(case hg=>rfl);(case hr=>(go_simp;done))
            intro gb564 hg w37 hbox hb
            have n0_:=ζa (ζh (Kd.R_elderB (by (with_reducible repeat (apply ζc));exact HO_3.out) gb564 (Nat.le_of_eq hg.symm)) hb)
            have n1_:=ζa (ζh (by (with_reducible repeat (apply ζc));exact HO_11.out) hb)
            have n2_:=ζa (blk_below (g:=gb555) (o:=.cells #[.string ((rd_T71 t551 x13_1).f0),.string ((rd_T71 t551 x13_1).f1)] 71 (0,0)) (by (with_reducible repeat (refine δn ?_ _));exact BK555.out) hb)
            have n3_:=ζa (δr (by repeat ((with_reducible first|exact HB.out|apply δi))) hb)
            have n4_:=ζa (hbox)
            have n5_:=ζa ((by rw [hg];exact (δs (by repeat ((with_reducible first|exact HB.out|apply δi)))):w.heap.size≤gb564))
            have n6_:=ζa ((by rw [hg];exact (δs (by repeat ((with_reducible first|exact HB.out|apply δi)))):w.heap.size≤gb564))
            have n7_:=ζa ((by rw [hg];exact Nat.ne_of_lt (blk_lt (g:=gb555) (o:=.cells #[.string ((rd_T71 t551 x13_1).f0),.string ((rd_T71 t551 x13_1).f1)] 71 (0,0)) (by (with_reducible repeat (refine δn ?_ _));exact BK555.out)):gb555≠gb564))
            have n8_:=ζa ((by rw [hg];exact Nat.ne_of_gt (blk_lt (g:=gb555) (o:=.cells #[.string ((rd_T71 t551 x13_1).f0),.string ((rd_T71 t551 x13_1).f1)] 71 (0,0)) (by (with_reducible repeat (refine δn ?_ _));exact BK555.out)):gb564≠gb555))
            clear HO_3
            clear HO_11
            clear BK555
            clear HB
            have HO_3:=n0_
            have HO_11:=n1_
            have BK555:=n2_
            have HB:=n3_
            have BK564:=n4_
            have GW564:=n5_
            have GE564:=n6_
            have NB555_564:=n7_
            have NB564_555:=n8_
            clear n0_ n1_ n2_ n3_ n4_ n5_ n6_ n7_ n8_
            clear hb hbox hg
            refine hK.out _ _ ⟨(δl BK555.out 0).trans rfl,(δl BK555.out 1).trans rfl⟩ (fun hHeld => ?_)
            clear hK K
            refine norm_ (a':=?_) ?_ ?_
            rotate_left
            ·
             show ζl _ (some 6) _=_
             simp only [ζl,δa,δb,δc,i64_w,i32_w];rfl
            refine one_ (i:=7) (N:=some 25) #[τ,τ,τ,τ,τ,τ,τ,τ,φ,φ,φ,τ,φ,φ] rfl rfl (one_of HT_.out (by kernel_rfl)) (by decide) (fun K hK => ?_)
            refine goes_ Tryd.func97 (by kernel_rfl) rfl #[.string (((rd_T71 t551 x13_1).f0).extract (t556.size) ((rd_T71 t551 x13_1).f0).size),.string ((rd_T71 t551 x13_1).f1)] (by rfl) rfl rfl (by (try simp only [δd,δe,δf]);rfl) ?_
            with_reducible refine (impl_orderOf.calls k1 (((rd_T71 t551 x13_1).f0).extract (t556.size) ((rd_T71 t551 x13_1).f0).size) ((rd_T71 t551 x13_1).f1) t557 t558 t559 t560 t561 t562 φ _ (HT0.out.below (by exact HB.out)) A14.out).mono ?_
            rintro e w38 ⟨rfl,hb⟩
            refine ⟨_,rfl,?_⟩
            have n0_:=ζa (ζh (by exact HO_3.out) hb)
            have n1_:=ζa (ζh (by exact HO_11.out) hb)
            have n2_:=ζa (blk_below (g:=gb555) (o:=.cells #[.string ((rd_T71 t551 x13_1).f0),.string ((rd_T71 t551 x13_1).f1)] 71 (0,0)) (by exact BK555.out) hb)
            have n3_:=ζa (blk_below (g:=gb564) (o:=.cells #[.string (⟨#[]⟩:ByteArray),.string (⟨#[]⟩:ByteArray),.int .i64 0,.int .i64 0,.int .i64 0,.bool φ] 42 (0,0)) (by exact BK564.out) hb)
            have n4_:=ζa (δr (by exact HB.out) hb)
            clear HO_3
            clear HO_11
            clear BK555
            clear BK564
            clear HB
            have HO_3:=n0_
            have HO_11:=n1_
            have BK555:=n2_
            have BK564:=n3_
            have HB:=n4_
            clear n0_ n1_ n2_ n3_ n4_
            (try clear hb)
            (try clear hb2)
            (try clear hk)
            (try clear hi)
            refine hK.out _ _ ⟨(δl BK555.out 0).trans rfl,(δl BK555.out 1).trans rfl⟩ (fun hHeld => ?_)
            clear hK K
            refine norm_ (a':=?_) ?_ ?_
            rotate_left
            ·
             show ζl _ (some 25) _=_
             simp only [ζl,δa,δb,δc,i64_w,i32_w];rfl
            refine ζk (i:=8) (N:=some 17) (v:=?_) (a':=?_) #[τ,τ,τ,τ,τ,τ,τ,τ,τ,φ,φ,τ,φ,φ] rfl rfl (ζj HT_.out (by kernel_rfl)) (fun _ _ _ h=>h) (Or.inl ⟨by rfl,?_⟩) ?_ ?_
            rotate_left
            · intro w';go_simp;with_reducible rfl
            rotate_left
            · simp only [ζl,δa,δb,δc,i64_w,i32_w];rfl
            refine ζk (i:=9) (N:=some 26) (v:=?_) (a':=?_) #[τ,τ,τ,τ,τ,τ,τ,τ,τ,τ,φ,τ,φ,φ] rfl rfl (ζj HT_.out (by kernel_rfl)) (fun _ _ _ h=>h) (Or.inl ⟨by rfl,?_⟩) ?_ ?_
            rotate_left
            · intro w';go_simp;with_reducible rfl
            rotate_left
            · simp only [ζl,δa,δb,δc,i64_w,i32_w];rfl
            refine ζk (i:=10) (N:=some 27) (v:=?_) (a':=?_) #[τ,τ,τ,τ,τ,τ,τ,τ,τ,τ,τ,τ,φ,φ] rfl rfl (ζj HT_.out (by kernel_rfl)) (fun _ _ _ h=>h) (Or.inl ⟨by rfl,?_⟩) ?_ ?_
            rotate_left
            · intro w';go_simp;with_reducible rfl
            rotate_left
            · simp only [ζl,δa,δb,δc,i64_w,i32_w];rfl
            exact norm_ (by simp only [putAll,ζl,δa,δb,δc]) (hCont (gb564) _ ⟨hHeld,(by exact HO_11.out),(by exact Kd.R_mono HO_3.out (fun _ hk=>hk.2)),(by exact BK555.out),(by exact BK564.out),GW564.out,GE564.out,NB555_564.out,NB564_555.out,(by exact HB.out)⟩)
          ·
           skip
           refine box_step ?hg (N:=6) ?hd (cs:=#[.string (⟨#[]⟩:ByteArray),.string (⟨#[]⟩:ByteArray),.int .i64 0,.int .i64 0,.int .i64 0,.bool φ]) (t:=42) ?hr ?_;(case hd=>rfl);(case hg=>rfl);(case hr=>(go_simp;done))
           intro gb564 hg w37 hbox hb
           have n0_:=ζa (ζh (Kd.R_elderB (by exact HO_3.out) gb564 (Nat.le_of_eq hg.symm)) hb)
           have n1_:=ζa (ζh (by exact HO_11.out) hb)
           have n2_:=ζa (blk_below (g:=gb555) (o:=.cells #[.string ((rd_T71 t551 x13_1).f0),.string ((rd_T71 t551 x13_1).f1)] 71 (0,0)) (by exact BK555.out) hb)
           have n3_:=ζa (δr (by exact HB.out) hb)
           have n4_:=ζa (hbox)
           have n5_:=ζa ((by rw [hg];exact (δs (by exact HB.out)):w.heap.size≤gb564))
           have n6_:=ζa ((by rw [hg];exact (δs (by exact HB.out)):w.heap.size≤gb564))
           have n7_:=ζa ((by rw [hg];exact Nat.ne_of_lt (blk_lt (g:=gb555) (o:=.cells #[.string ((rd_T71 t551 x13_1).f0),.string ((rd_T71 t551 x13_1).f1)] 71 (0,0)) (by exact BK555.out)):gb555≠gb564))
           have n8_:=ζa ((by rw [hg];exact Nat.ne_of_gt (blk_lt (g:=gb555) (o:=.cells #[.string ((rd_T71 t551 x13_1).f0),.string ((rd_T71 t551 x13_1).f1)] 71 (0,0)) (by exact BK555.out)):gb564≠gb555))
           clear HO_3
           clear HO_11
           clear BK555
           clear HB
           have HO_3:=n0_
           have HO_11:=n1_
           have BK555:=n2_
           have HB:=n3_
           have BK564:=n4_
           have GW564:=n5_
           have GE564:=n6_
           have NB555_564:=n7_
           have NB564_555:=n8_
           clear n0_ n1_ n2_ n3_ n4_ n5_ n6_ n7_ n8_
           clear hb hbox hg
           refine hK.out _ _ ⟨(δl BK555.out 0).trans rfl,(δl BK555.out 1).trans rfl⟩ (fun hHeld => ?_)
           clear hK K
           refine norm_ (a':=?_) ?_ ?_
           rotate_left
           ·
            show ζl _ (some 6) _=_
            simp only [ζl,δa,δb,δc,i64_w,i32_w];rfl
           refine one_ (i:=2) (N:=some 20) #[τ,τ,τ,φ,φ,τ,τ,φ,φ,φ,φ,τ,φ,φ] rfl rfl (one_of HT_.out (by kernel_rfl)) (by decide) (fun K hK => ?_)
           refine goes_ Tryd.func96 (by kernel_rfl) rfl #[.string (⟨#[]⟩:ByteArray)] (by rfl) rfl rfl (by (try simp only [δd,δe,δf]);rfl) ?_
           with_reducible refine (impl_orderKey.calls (⟨#[]⟩:ByteArray) t556 _ A11.out).mono ?_
           rintro e w' ⟨rfl,⟨nd,rfl⟩⟩
           refine ⟨_,rfl,?_⟩
           refine hK.out _ _ ⟨(δl BK555.out 0).trans rfl,(δl BK555.out 1).trans rfl⟩ (fun hHeld => ?_)
           clear hK K
           refine norm_ (a':=?_) ?_ ?_
           rotate_left
           ·
            show ζl _ (some 20) _=_
            simp only [ζl,δa,δb,δc,i64_w,i32_w];rfl
           refine ζk (i:=3) (N:=some 21) (v:=?_) (a':=?_) #[τ,τ,τ,τ,φ,τ,τ,φ,φ,φ,φ,τ,φ,φ] rfl rfl (ζj HT_.out (by kernel_rfl)) (fun _ _ _ h=>h) (Or.inl ⟨by rfl,?_⟩) ?_ ?_
           rotate_left
           · intro w';go_simp;with_reducible rfl
           rotate_left
           · simp only [ζl,δa,δb,δc,i64_w,i32_w];rfl
           refine ζk (i:=4) (N:=some 22) (v:=?_) (a':=?_) #[τ,τ,τ,τ,τ,τ,τ,φ,φ,φ,φ,τ,φ,φ] rfl rfl (ζj HT_.out (by kernel_rfl)) (fun _ _ _ h=>h) (Or.inl ⟨by rfl,?_⟩) ?_ ?_
           rotate_left
           · intro w';go_simp;with_reducible rfl
           rotate_left
           · simp only [ζl,δa,δb,δc,i64_w,i32_w];rfl
           refine one_ (i:=7) (N:=some 25) #[τ,τ,τ,τ,τ,τ,τ,τ,φ,φ,φ,τ,φ,φ] rfl rfl (one_of HT_.out (by kernel_rfl)) (by decide) (fun K hK => ?_)
           refine goes_ Tryd.func97 (by kernel_rfl) rfl #[.string (((rd_T71 t551 x13_1).f0).extract (t556.size) ((rd_T71 t551 x13_1).f0).size),.string ((rd_T71 t551 x13_1).f1)] (by rfl) rfl rfl (by (try simp only [δd,δe,δf]);rfl) ?_
           with_reducible refine (impl_orderOf.calls k1 (((rd_T71 t551 x13_1).f0).extract (t556.size) ((rd_T71 t551 x13_1).f0).size) ((rd_T71 t551 x13_1).f1) t557 t558 t559 t560 t561 t562 φ _ (HT0.out.below (by repeat ((with_reducible first|exact HB.out|apply δi)))) A14.out).mono ?_
           rintro e w38 ⟨rfl,hb⟩
           refine ⟨_,rfl,?_⟩
           have n0_:=ζa (ζh (by (with_reducible repeat (apply ζc));exact HO_3.out) hb)
           have n1_:=ζa (ζh (by (with_reducible repeat (apply ζc));exact HO_11.out) hb)
           have n2_:=ζa (blk_below (g:=gb555) (o:=.cells #[.string ((rd_T71 t551 x13_1).f0),.string ((rd_T71 t551 x13_1).f1)] 71 (0,0)) (by (with_reducible repeat (refine δn ?_ _));exact BK555.out) hb)
           have n3_:=ζa (blk_below (g:=gb564) (o:=.cells #[.string (⟨#[]⟩:ByteArray),.string (⟨#[]⟩:ByteArray),.int .i64 0,.int .i64 0,.int .i64 0,.bool φ] 42 (0,0)) (by (with_reducible repeat (refine δn ?_ _));exact BK564.out) hb)
           have n4_:=ζa (δr (by repeat ((with_reducible first|exact HB.out|apply δi))) hb)
           clear HO_3
           clear HO_11
           clear BK555
           clear BK564
           clear HB
           have HO_3:=n0_
           have HO_11:=n1_
           have BK555:=n2_
           have BK564:=n3_
           have HB:=n4_
           clear n0_ n1_ n2_ n3_ n4_
           (try clear hb)
           (try clear hb2)
           (try clear hk)
           (try clear hi)
           refine hK.out _ _ ⟨(δl BK555.out 0).trans rfl,(δl BK555.out 1).trans rfl⟩ (fun hHeld => ?_)
           clear hK K
           refine norm_ (a':=?_) ?_ ?_
           rotate_left
           ·
            show ζl _ (some 25) _=_
            simp only [ζl,δa,δb,δc,i64_w,i32_w];rfl
           refine ζk (i:=8) (N:=some 17) (v:=?_) (a':=?_) #[τ,τ,τ,τ,τ,τ,τ,τ,τ,φ,φ,τ,φ,φ] rfl rfl (ζj HT_.out (by kernel_rfl)) (fun _ _ _ h=>h) (Or.inl ⟨by rfl,?_⟩) ?_ ?_
           rotate_left
           · intro w';go_simp;with_reducible rfl
           rotate_left
           · simp only [ζl,δa,δb,δc,i64_w,i32_w];rfl
           refine ζk (i:=9) (N:=some 26) (v:=?_) (a':=?_) #[τ,τ,τ,τ,τ,τ,τ,τ,τ,τ,φ,τ,φ,φ] rfl rfl (ζj HT_.out (by kernel_rfl)) (fun _ _ _ h=>h) (Or.inl ⟨by rfl,?_⟩) ?_ ?_
           rotate_left
           · intro w';go_simp;with_reducible rfl
           rotate_left
           · simp only [ζl,δa,δb,δc,i64_w,i32_w];rfl
           refine ζk (i:=10) (N:=some 27) (v:=?_) (a':=?_) #[τ,τ,τ,τ,τ,τ,τ,τ,τ,τ,τ,τ,φ,φ] rfl rfl (ζj HT_.out (by kernel_rfl)) (fun _ _ _ h=>h) (Or.inl ⟨by rfl,?_⟩) ?_ ?_
           rotate_left
           · intro w';go_simp;with_reducible rfl
           rotate_left
           · simp only [ζl,δa,δb,δc,i64_w,i32_w];rfl
           exact norm_ (by simp only [putAll,ζl,δa,δb,δc]) (hCont (gb564) _ ⟨hHeld,(by exact HO_11.out),(by exact Kd.R_mono HO_3.out (fun _ hk=>hk.2)),(by exact BK555.out),(by exact BK564.out),GW564.out,GE564.out,NB555_564.out,NB564_555.out,(by exact HB.out)⟩)
         rintro gb564 w39 ⟨hS_,h0_,h1_,h2_,h3_,h4_,h5_,h6_,h7_,h8_⟩
         have n0_:Aside0 (Kd.R k71 71 w39 w.heap.size (fun k_=>k_≠gb555) (.slice (some ad554) t551.length co7) t551):=⟨h0_⟩
         have n1_:Aside0 (Kd.R k42 42 w39 w.heap.size (fun k_=>k_≠gb564) u3 x3_1):=⟨h1_⟩
         have n2_:Aside0 (w39.heap[gb555]? = some (.cells #[.string ((rd_T71 t551 x13_1).f0),.string ((rd_T71 t551 x13_1).f1)] 71 (0,0))):=⟨h2_⟩
         have n3_:Aside0 (w39.heap[gb564]? = some (.cells #[.string (⟨#[]⟩:ByteArray),.string (⟨#[]⟩:ByteArray),.int .i64 0,.int .i64 0,.int .i64 0,.bool φ] 42 (0,0))):=⟨h3_⟩
         have n4_:Aside0 (w.heap.size≤gb564):=⟨h4_⟩
         have n5_:Aside0 (w.heap.size≤gb564):=⟨h5_⟩
         have n6_:Aside0 (gb555≠gb564):=⟨h6_⟩
         have n7_:Aside0 (gb564≠gb555):=⟨h7_⟩
         have n8_:Aside0 (Below w.heap.size w w39):=⟨h8_⟩
         clear HO_3
         clear HO_11
         clear BK555
         clear HB
         clear h0_ h1_ h2_ h3_ h4_ h5_ h6_ h7_ h8_
         have HO_11:=n0_
         have HO_3:=n1_
         have BK555:=n2_
         have BK564:=n3_
         have GW564:=n4_
         have GE564:=n5_
         have NB555_564:=n6_
         have NB564_555:=n7_
         have HB:=n8_
         clear n0_ n1_ n2_ n3_ n4_ n5_ n6_ n7_ n8_
         have hHeld:w39.cell? ⟨gb555,0,none⟩=some (.string ((rd_T71 t551 x13_1).f0))∧w39.cell? ⟨gb555,1,none⟩=some (.string ((rd_T71 t551 x13_1).f1)):=hS_
         refine norm_ (a':=?_) ?_ ?_
         rotate_left
         · simp only [putAll,ζl,δa,δb,δc];rfl
         refine one_ (i:=12) (N:=none) #[τ,τ,τ,τ,τ,τ,τ,τ,τ,τ,τ,τ,τ,φ] rfl rfl (one_of HT_.out (by kernel_rfl)) (by decide) (fun K hK => ?_)
         have hs40:w39.cell? ⟨gb564,0,none⟩=some (.string (⟨#[]⟩:ByteArray)):=(δl BK564.out 0).trans rfl
         have hfs40:=δm BK564.out 0
         have hns40_0:=NB555_564.out
         have hms40_0:=NB564_555.out
         have hs41:w39.cell? ⟨gb564,1,none⟩=some (.string (⟨#[]⟩:ByteArray)):=(δl BK564.out 1).trans rfl
         have hfs41:=δm BK564.out 1
         have hns41_0:=NB555_564.out
         have hms41_0:=NB564_555.out
         have hs42:w39.cell? ⟨gb564,2,none⟩=some (.int .i64 0):=(δl BK564.out 2).trans rfl
         have hfs42:=δm BK564.out 2
         have hns42_0:=NB555_564.out
         have hms42_0:=NB564_555.out
         have hs43:w39.cell? ⟨gb564,3,none⟩=some (.int .i64 0):=(δl BK564.out 3).trans rfl
         have hfs43:=δm BK564.out 3
         have hns43_0:=NB555_564.out
         have hms43_0:=NB564_555.out
         have hs44:w39.cell? ⟨gb564,4,none⟩=some (.int .i64 0):=(δl BK564.out 4).trans rfl
         have hfs44:=δm BK564.out 4
         have hns44_0:=NB555_564.out
         have hms44_0:=NB564_555.out
         have hs45:w39.cell? ⟨gb564,5,none⟩=some (.bool φ):=(δl BK564.out 5).trans rfl
         have hfs45:=δm BK564.out 5
         have hns45_0:=NB555_564.out
         have hms45_0:=NB564_555.out
         refine skip_ (w1:=?_) (by rfl) rfl ?_ ?_
         rotate_left
         ·
          go_simp
          rfl
         refine hK.out _ _ ⟨((δt (p:=⟨gb564,_,none⟩) NB555_564.out _).trans (((δt (p:=⟨gb564,_,none⟩) NB555_564.out _).trans (((δt (p:=⟨gb564,_,none⟩) NB555_564.out _).trans (((δt (p:=⟨gb564,_,none⟩) NB555_564.out _).trans (((δt (p:=⟨gb564,_,none⟩) NB555_564.out _).trans (((δt (p:=⟨gb564,_,none⟩) NB555_564.out _).trans (hHeld.1)))))))))))),((δt (p:=⟨gb564,_,none⟩) NB555_564.out _).trans (((δt (p:=⟨gb564,_,none⟩) NB555_564.out _).trans (((δt (p:=⟨gb564,_,none⟩) NB555_564.out _).trans (((δt (p:=⟨gb564,_,none⟩) NB555_564.out _).trans (((δt (p:=⟨gb564,_,none⟩) NB555_564.out _).trans (((δt (p:=⟨gb564,_,none⟩) NB555_564.out _).trans (hHeld.2))))))))))))⟩ (fun hHeld => ?_)
         clear hK K
         refine ζk (i:=13) (N:=some 7) (v:=?_) (a':=?_) #[τ,τ,τ,τ,τ,τ,τ,τ,τ,τ,τ,τ,τ,τ] rfl rfl (ζj HT_.out (by kernel_rfl)) (fun _ _ _ h=>h) (Or.inl ⟨by rfl,?_⟩) ?_ ?_
         rotate_left
         · intro w';go_simp;with_reducible rfl
         rotate_left
         · simp only [ζl,δa,δb,δc,i64_w,i32_w];rfl
         refine done_ (done_of HT_.out (by kernel_rfl)) ?_
         try go_wp2
         go_roundg k1
         case measure=>have:=HK1.out;omega
         case rel=>exact ⟨(x3_1),(ζm (x13_1+1)),(by rfl),H',⟨by have:=HK1.out;omega⟩,⟨by exact Kd.R_mono (ζi (p:=⟨gb564,5,none⟩) (ζi (p:=⟨gb564,4,none⟩) (ζi (p:=⟨gb564,3,none⟩) (ζi (p:=⟨gb564,2,none⟩) (ζi (p:=⟨gb564,1,none⟩) (ζi (p:=⟨gb564,0,none⟩) (Kd.R_mono HO_3.out (fun k_ hk=>(⟨hk,hk⟩:_∧k_≠gb564))) (fun _ hk=>hk.2) (.string t557)) (fun _ hk=>hk.2) (.string t558)) (fun _ hk=>hk.2) (.int .i64 t559)) (fun _ hk=>hk.2) (.int .i64 t560)) (fun _ hk=>hk.2) (.int .i64 t561)) (fun _ hk=>hk.2) (.bool t562)) (fun _ hk=>trivial)⟩,⟨by exact Kd.R_mono (ζi (p:=⟨gb564,5,none⟩) (ζi (p:=⟨gb564,4,none⟩) (ζi (p:=⟨gb564,3,none⟩) (ζi (p:=⟨gb564,2,none⟩) (ζi (p:=⟨gb564,1,none⟩) (ζi (p:=⟨gb564,0,none⟩) (Kd.R_types HO_11.out BK564.out (by decide)) (fun _ hk=>hk.2) (.string t557)) (fun _ hk=>hk.2) (.string t558)) (fun _ hk=>hk.2) (.int .i64 t559)) (fun _ hk=>hk.2) (.int .i64 t560)) (fun _ hk=>hk.2) (.int .i64 t561)) (fun _ hk=>hk.2) (.bool t562)) (fun _ hk=>trivial)⟩,⟨by repeat ((with_reducible first|exact HB.out|refine δq ?_ GE564.out))⟩⟩
       ·
        rw [if_neg c13] at H
        exact absurd H (by simp)
      ·
       rw [if_neg c12] at H
       exact absurd H (by simp)
     ·
      rw [if_neg c10] at H
      exact absurd H (by simp)
    ·
     rw [if_neg c9] at H
     exact absurd H (by simp)
   ·
    rw [if_neg c8] at H
    have c8b0:decide (x13_1<(t551.length:Int))=φ:=decide_eq_false c8
    clear c8
    obtain rfl:=Option.some.inj H
    go_wp2
    go_ret
    exact ⟨_,by rfl,by exact HO_3.out,by repeat ((with_reducible exact HB.out))⟩


open Go.Proofs.YteghpdmlpefnfaaDoorW.PrintWords renaming gate_callee → δv, below_step → δr, below_alloc → δk, pw_below_drewN → δi, below_drew1 → δj, below_size → δs
open Go.Proofs.YteghpdmlpefnfaaDoorW.PrintWords.Kd renaming R_alloc → ζd, R_drewN → ζc, R_drew → ζe

/-! ### impl_OrdersOf: function 27 -/
def impl_OrdersOf.f (k:Nat) (l0:List (S71)):Option ((List (S42)) × Int):=(impl_storeCode.f k l0 ([]:List ByteArray)).bind fun t568=>(if t568=0 then ((impl_ordersOf.f k l0).bind fun t569=>(some (t569,0))) else (some (([]:List (S42)),t568)))
set_option maxHeartbeats 8000000 in
set_option maxRecDepth 100000 in
theorem impl_OrdersOf.calls (k:Nat) (A0:Option Addr) (c0:Nat) (l0:List (S71)) (r1:List (S42)) (r2:Int) (w:World) (hr0:Kd.C k71 w A0 l0.length l0) (hc0:l0.length≤c0) (hT0:TabsOK w) (h:impl_OrdersOf.f k l0=some (r1,r2)) :
  Calls Tryd.prog 27 #[.slice A0 l0.length c0] w fun e w' => ∃ v0_:Value,e = .returned (.tuple #[v0_,.int .i64 r2])∧Kd.R k42 42 w' w.heap.size (fun _=>True) v0_ r1∧Below w.heap.size w w':=by
 have HT0:=ζa hT0
 clear hT0
 have HR0:=ζa hr0
 have HC0:=ζa hc0
 clear hr0 hc0
 have HB:=ζa (Below.refl w.heap.size w)
 have H:((impl_storeCode.f k l0 ([]:List ByteArray)).bind fun t568=>(if t568=0 then ((impl_ordersOf.f k l0).bind fun t569=>(some (t569,0))) else (some (([]:List (S42)),t568))))=some (r1,r2):=h
 clear h
 replace H:=Option.bind_eq_some_iff.mp H
 obtain ⟨t568,A20,H⟩:=H
 replace H:(if t568=0 then ((impl_ordersOf.f k l0).bind fun t569=>(some (t569,0))) else (some (([]:List (S42)),t568)))=some (r1,r2):=H
 have A2:=ζa A20
 clear A20
 by_cases c3:t568=0
 ·
  rw [if_pos c3] at H
  have c3b0:(t568 == 0)=τ:=beq_iff_eq.mpr c3
  have c3b1:(t568 != 0)=φ:=bne_eq_false_iff_eq.mpr c3
  clear c3
  replace H:=Option.bind_eq_some_iff.mp H
  obtain ⟨t569,A40,H⟩:=H
  replace H:(some (t569,0))=some (r1,r2):=H
  have A4:=ζa A40
  clear A40
  simp only [Option.some.injEq,Prod.mk.injEq] at H
  obtain ⟨rfl,rfl⟩:=H
  go_enter Tryd.func27,Tryd.ntmps27
  go_wp2_with (first|((with_reducible refine δv (f:=51) rfl ?_);refine goesL_ (some 6) rfl rfl Tryd.func51 (by kernel_rfl) rfl #[.slice A0 l0.length c0,.slice none 0 0] rfl (by (try simp only [δd,δe,δf]);first|done|rfl|(simp only [δg,δh];rfl)) ?_;(refine (impl_storeCode.calls k _ _ l0 _ _ ([]:List ByteArray) t568 _ ?side1 ?side2 ?side3 ?side4 A2.out).mono ?_);(case side1=>repeat (first|exact HR0.out|(with_reducible refine Kd.C_alloc ?_ _)|(with_reducible refine Kd.C_drewN ?_ _)|(with_reducible refine Kd.C_drew ?_)));(case side2=>exact HC0.out);(case side3=>exact Kd.C_nil _ _);(case side4=>exact Nat.le_refl _);rintro e w5 ⟨rfl,hb⟩;refine ⟨_,rfl,?_⟩;have n0_:=ζa (δr (by repeat (first|(with_reducible first|exact HB.out|apply δk|apply δi|apply δj)|exact HB.out)) hb);clear HB;have HB:=n0_;clear n0_;(try clear hb);(try clear hb2);(try clear hk);(try clear hi))|((with_reducible refine δv (f:=59) rfl ?_);refine goesL_ (some 11) rfl rfl Tryd.func59 (by kernel_rfl) rfl #[.slice A0 l0.length c0] rfl (by (try simp only [δd,δe,δf]);first|done|rfl|(simp only [δg,δh];rfl)) ?_;(with_reducible refine (impl_ordersOf.calls k _ _ l0 t569 _ ?side1 ?side2 (HT0.out.below (by repeat (first|(with_reducible first|exact HB.out|apply δk|apply δi|apply δj)|exact HB.out))) A4.out).mono ?_);(case side1=>repeat (first|exact (Kd.C_below HR0.out HB.out)|(with_reducible refine Kd.C_alloc ?_ _)|(with_reducible refine Kd.C_drewN ?_ _)|(with_reducible refine Kd.C_drew ?_)));(case side2=>exact HC0.out);rintro e w6 ⟨v570,rfl,ho0,hb⟩;refine ⟨_,rfl,?_⟩;have n0_:=ζa (Kd.R_lower ho0 (δs (by repeat (first|(with_reducible first|exact HB.out|apply δk|apply δi|apply δj)|exact HB.out))));have n1_:=ζa (δr (by repeat (first|(with_reducible first|exact HB.out|apply δk|apply δi|apply δj)|exact HB.out)) hb);clear HB;have HO571:=n0_;have HB:=n1_;clear n0_ n1_;(try clear hb);(try clear hb2);(try clear hk);(try clear hi);(try clear ho0)))
  go_ret2
  exact ⟨_,by first|rfl|(simp [errW_none,errW_some] <;> rfl)|(simp [*,errW_none,errW_some] <;> rfl),by (with_reducible repeat (first|apply ζd|apply ζc|apply ζe));exact HO571.out,by repeat (first|(with_reducible first|exact HB.out|apply δk|apply δi|apply δj)|exact HB.out)⟩
 ·
  rw [if_neg c3] at H
  have c3b0:(t568 == 0)=φ:=beq_eq_false_iff_ne.mpr c3
  have c3b1:(t568 != 0)=τ:=bne_iff_ne.mpr c3
  simp only [Option.some.injEq,Prod.mk.injEq] at H
  obtain ⟨rfl,rfl⟩:=H
  go_enter Tryd.func27,Tryd.ntmps27
  go_wp2_with (first|((with_reducible refine δv (f:=51) rfl ?_);refine goesL_ (some 6) rfl rfl Tryd.func51 (by kernel_rfl) rfl #[.slice A0 l0.length c0,.slice none 0 0] rfl (by (try simp only [δd,δe,δf]);first|done|rfl|(simp only [δg,δh];rfl)) ?_;(refine (impl_storeCode.calls k _ _ l0 _ _ ([]:List ByteArray) t568 _ ?side1 ?side2 ?side3 ?side4 A2.out).mono ?_);(case side1=>repeat (first|exact HR0.out|(with_reducible refine Kd.C_alloc ?_ _)|(with_reducible refine Kd.C_drewN ?_ _)|(with_reducible refine Kd.C_drew ?_)));(case side2=>exact HC0.out);(case side3=>exact Kd.C_nil _ _);(case side4=>exact Nat.le_refl _);rintro e w7 ⟨rfl,hb⟩;refine ⟨_,rfl,?_⟩;have n0_:=ζa (δr (by repeat (first|(with_reducible first|exact HB.out|apply δk|apply δi|apply δj)|exact HB.out)) hb);clear HB;have HB:=n0_;clear n0_;(try clear hb);(try clear hb2);(try clear hk);(try clear hi)))
  go_ret2
  exact ⟨_,by first|rfl|(simp [errW_none,errW_some] <;> rfl)|(simp [*,errW_none,errW_some] <;> rfl),by first|exact Kd.R_nil _ _ _ _ _|exact Kd.N_nil _ _ _ _ _|exact Kd.V_nil _ _ _ _ _|exact Kd.Q_nil _ _ _ _ _|exact Kd.S_nil _ _ _ _ _,by repeat (first|(with_reducible first|exact HB.out|apply δk|apply δi|apply δj)|exact HB.out)⟩

end Go.Proofs.YteghpdmlpefnfaaDoor.Q
