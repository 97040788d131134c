/- Parts of the proof: what single Go functions compute, each with its walk, and plain laws over these. -/
import Derived.Test.YtjhhehjjnfnigaaGreatDoorVMac
import Derived.Test.YtjhhehjjnfnigaaGreatDoorM0
import Derived.Test.YtjhhehjjnfnigaaGreatDoorM2
import Derived.Test.YtjhhehjjnfnigaaGreatDoorM1
namespace Go.Proofs.YtjhhehjjnfnigaaGreatDoor.Q
open Go.RowKit Go.Proofs.YtjhhehjjnfnigaaGreatDoorW.PrintWords Go.Proofs.YtjhhehjjnfnigaaGreatDoorW.PrintLast Go.Proofs.YtjhhehjjnfnigaaGreatDoorW.PrintMore
open Go.Proofs.YtjhhehjjnfnigaaGreatDoorW.PrintWords.Aside0 renaming mk → ζa
open Go.Proofs.YtjhhehjjnfnigaaGreatDoorW.PrintWords renaming gate_dst → δx, below_step → δr, gate_callee → δv, below_size → δs, blk_cell → δl, blk_frozen → δm, blk_put → δw, below_set → δq, blk_drew → δp, below_drew1 → δj, cell_far → δt
open Go.Act renaming put → ζl
open List renaming setIfInBounds_toArray → δa, set_cons_zero → δb, set_cons_succ → δc
open Go.Proofs.YtjhhehjjnfnigaaGreatDoorW.PrintWords.Kd renaming R_drew → ζe, R_reads' → ζg, R_below → ζh, own_blk → ζb, R_ne → ζf, R_far → ζi
open Go.Proofs.YtjhhehjjnfnigaaGreatDoorW.PrintLast renaming pure_ → ζk, any_of → ζj
open Bool renaming true → τ, false → φ
attribute [local go_sem] max2_int min2_int max_two min_two max_three min_three max_four min_four   -- for this text's walks alone
set_option linter.unusedVariables false
set_option linter.unusedSimpArgs false
set_option maxHeartbeats 8000000
set_option maxRecDepth 100000

/-! ### impl_orderOf: function 60 -/
def impl_orderOf.j0:Nat→ByteArray→ByteArray→List ByteArray→Bool→Option (ByteArray × ByteArray × Int × Int × Int × Bool × Bool)
 | 0,_,_,_,_=>none
 | k+1,x0,x1,x6,x20=>if x20=τ then (some ((⟨#[]⟩:ByteArray),(⟨#[]⟩:ByteArray),0,0,0,φ,φ)) else (if 0<(x6.length:Int) then (if 4<(x6.length:Int) then (if 1<(x6.length:Int) then ((impl_readAmount.f (rdOf ByteArray.empty x6 1)).bind fun bt347=>(if 2<(x6.length:Int) then ((impl_readAmount.f (rdOf ByteArray.empty x6 2)).bind fun bt350=>(if 3<(x6.length:Int) then ((impl_readAmount.f (rdOf ByteArray.empty x6 3)).bind fun bt353=>((impl_OrderOK.f k x0 (rdOf ByteArray.empty x6 0) bt347.1 bt350.1 bt353.1 ((rdOf ByteArray.empty x6 4).toList == ([111,112,101,110]:List UInt8))).bind fun t355=>(if t355=τ then ((impl_Order_value.f k x0 (rdOf ByteArray.empty x6 0) bt347.1 bt350.1 bt353.1 ((rdOf ByteArray.empty x6 4).toList == ([111,112,101,110]:List UInt8))).bind fun t356=>(some (x0,rdOf ByteArray.empty x6 0,bt347.1,bt350.1,bt353.1,((rdOf ByteArray.empty x6 4).toList == ([111,112,101,110]:List UInt8)),(t356.toList == x1.toList)))) else (some (x0,rdOf ByteArray.empty x6 0,bt347.1,bt350.1,bt353.1,((rdOf ByteArray.empty x6 4).toList == ([111,112,101,110]:List UInt8)),φ))))) else (none))) else (none))) else (none)) else (none)) else (none))
def impl_orderOf.f (k:Nat) (a0:ByteArray) (a1:ByteArray):Option (ByteArray × ByteArray × Int × Int × Int × Bool × Bool):=(impl_readFields.f k a1).bind fun bt339=>(if bt339.2=τ then (impl_orderOf.j0 k a0 a1 bt339.1 ((bt339.1.length:Int) != 5)) else (impl_orderOf.j0 k a0 a1 bt339.1 τ))
def impl_orderOf.T4:Bool × List (List Nat × List Nat):=(τ,[([],[]),([],[]),([1],[1]),([2],[2]),([],[]),([4],[4]),([5],[5]),([6],[6]),([0,3,7],[0,3,7]),([],[]),([9,8,0,1,2,3,4,5,6,7,8,9],[8,9])])
def impl_orderOf.B4:List Nat:=[0,0,2,6,0,16,48,112,255,0,1023]
theorem impl_orderOf.tab4:rtab .any (opsOf Tryz.f60 4)=impl_orderOf.T4:=by kernel_rfl
theorem impl_orderOf.bits4:waitsOk impl_orderOf.T4.2 impl_orderOf.B4=τ:=by kernel_rfl
def impl_orderOf.T8:Bool × List (List Nat × List Nat):=(τ,[([],[]),([],[]),([1],[1]),([2,2],[2]),([3],[3]),([4,3,3],[3,4]),([3],[3]),([5,6,3],[3,5,6]),([3,7],[3,7]),([0,5,0],[0]),([8,9,0,1,2,3,4,5,6,7,8,9],[8])])
def impl_orderOf.B8:List Nat:=[0,0,2,6,14,30,14,126,254,63,1023]
theorem impl_orderOf.tab8:rtab .any (opsOf Tryz.f60 8)=impl_orderOf.T8:=by kernel_rfl
theorem impl_orderOf.bits8:waitsOk impl_orderOf.T8.2 impl_orderOf.B8=τ:=by kernel_rfl
theorem impl_orderOf.calls (k:Nat) (a0:ByteArray) (a1:ByteArray) (r1:ByteArray) (r2:ByteArray) (r3:Int) (r4:Int) (r5:Int) (r6:Bool) (r7:Bool) (w:World) (hT0:TabsOK w) (h:impl_orderOf.f k a0 a1=some (r1,r2,r3,r4,r5,r6,r7)) :
  Calls Tryz.prog 60 #[.string a0,.string a1] w fun e w'=>e = .returned (.tuple #[.agg #[.string r1,.string r2,.int .i64 r3,.int .i64 r4,.int .i64 r5,.bool r6],.bool r7])∧Below w.heap.size w w':=by
 have HT0:=ζa hT0
 clear hT0
 have hu46:=Tryz.underlying46
 have HB:=ζa (Below.refl w.heap.size w)
 have H:((impl_readFields.f k a1).bind fun bt339=>(if bt339.2=τ then (impl_orderOf.j0 k a0 a1 bt339.1 ((bt339.1.length:Int) != 5)) else (impl_orderOf.j0 k a0 a1 bt339.1 τ)))=some (r1,r2,r3,r4,r5,r6,r7):=h
 clear h
 obtain ⟨⟨t339,t340⟩,A3,H⟩:=bsm H
 dsimp only at H
 have HC4:=ζa H
 clear H
 go_enter Tryz.func60,Tryz.ntmps60
 go_upto_region 2 with (first|((with_reducible refine δx (N:=4) rfl ?_);(try (refine gate_guard (by rfl) ?_;dsimp only));refine bev 4 #[.string (⟨#[]⟩:ByteArray),.string (⟨#[]⟩:ByteArray),.int .i64 0,.int .i64 0,.int .i64 0,.bool φ] 46 ?_;intro gb338 hg w5 hbox hb;have BK338:=ζa (hbox);have GW338:=ζa (gbw hg (by exact HB.out));have GE338:=ζa (gbw hg (by exact HB.out));replace HB:=ζa (δr (by exact HB.out) hb);clear hb hbox hg)|((with_reducible refine δv (f:=55) rfl ?_);refine gl 11 Tryz.func55 #[.string a1] ?_;(with_reducible refine (impl_readFields.calls k a1 t339 t340 _ A3.out).mono ?_);rintro e w6 ⟨v341,rfl,ho0,hb⟩;refine ⟨_,rfl,?_⟩;have HO342:=ζa (Kd.R_lower ho0 (δs (by exact HB.out)));replace BK338:=ζa (blk_below (g:=gb338) (o:=.cells #[.string (⟨#[]⟩:ByteArray),.string (⟨#[]⟩:ByteArray),.int .i64 0,.int .i64 0,.int .i64 0,.bool φ] 46 (0,0)) (by exact BK338.out) hb);replace HB:=ζa (δr (by exact HB.out) hb);(try clear hb);(try clear hb2);(try clear hk);(try clear hi);(try clear ho0)))
 (try simp only [ζl,δa,δb,δc])
 go_cut [20] (fun v20 wc => ∃ (kq:Nat) (x20_3:Bool),v20 = .bool x20_3∧Aside0 (impl_orderOf.j0 kq a0 a1 t339 x20_3=some (r1,r2,r3,r4,r5,r6,r7))∧Aside0 (kq≤k)∧Aside0 (Kd.R Kd.string 9 wc w.heap.size (fun _=>True) v341 t339)∧Aside0 (wc.heap[gb338]? = some (.cells #[.string (⟨#[]⟩:ByteArray),.string (⟨#[]⟩:ByteArray),.int .i64 0,.int .i64 0,.int .i64 0,.bool φ] 46 (0,0)))∧Aside0 (Below w.heap.size w wc))
 case first =>
  have H:=HC4.out
  clear HC4
  by_cases c7:t340=τ
  ·
   subst c7
   rw [ifT] at H
   have H':=ζa H
   clear H
   obtain ⟨Ao8,co8,eo8⟩:=Kd.R_slice HO342.out
   subst eo8
   go_wp2
   go_meet
   case rel=>exact ⟨_,(((t339.length:Int) != 5)),(by rfl),H',⟨by omega⟩,⟨by exact HO342.out⟩,⟨by exact BK338.out⟩,⟨by repeat ((with_reducible exact HB.out))⟩⟩
  ·
   replace c7:=Bool.eq_false_iff.mpr c7
   subst c7
   rw [ifF] at H
   have H':=ζa H
   clear H
   go_wp2
   go_meet
   case rel=>exact ⟨_,(τ),(by rfl),H',⟨by omega⟩,⟨by exact HO342.out⟩,⟨by exact BK338.out⟩,⟨by repeat ((with_reducible exact HB.out))⟩⟩
 case rest =>
  clear HC4
  try clear p2
  try clear c5
  try clear c6
  try clear c7
  obtain ⟨kq,x20_3,rfl,HA,HJ3,HO_6,BK338,HB⟩:=hcut
  cases kq with
  | zero=>exact absurd HA.out (by simp [impl_orderOf.j0])
  | succ kj3 =>
   have H:=HA.out
   clear HA
   simp only [impl_orderOf.j0] at H
   by_cases c9:x20_3=τ
   ·
    subst c9
    rw [ifT] at H
    simp only [Option.some.injEq,Prod.mk.injEq] at H
    obtain ⟨rfl,rfl,rfl,rfl,rfl,rfl,rfl⟩:=H
    have hcz10_0:wc.cell? ⟨gb338,0,none⟩=some (.string (⟨#[]⟩:ByteArray)):=(δl BK338.out 0).trans rfl
    have hcz10_1:wc.cell? ⟨gb338,1,none⟩=some (.string (⟨#[]⟩:ByteArray)):=(δl BK338.out 1).trans rfl
    have hcz10_2:wc.cell? ⟨gb338,2,none⟩=some (.int .i64 0):=(δl BK338.out 2).trans rfl
    have hcz10_3:wc.cell? ⟨gb338,3,none⟩=some (.int .i64 0):=(δl BK338.out 3).trans rfl
    have hcz10_4:wc.cell? ⟨gb338,4,none⟩=some (.int .i64 0):=(δl BK338.out 4).trans rfl
    have hcz10_5:wc.cell? ⟨gb338,5,none⟩=some (.bool φ):=(δl BK338.out 5).trans rfl
    have hfz10_0:=δm BK338.out 0
    have hfz10_1:=δm BK338.out 1
    have hfz10_2:=δm BK338.out 2
    have hfz10_3:=δm BK338.out 3
    have hfz10_4:=δm BK338.out 4
    have hfz10_5:=δm BK338.out 5
    go_wp2
    refine bodyPost_ret (results_ct rfl _ _ gb338 46 #[.string (⟨#[]⟩:ByteArray),.string (⟨#[]⟩:ByteArray),.int .i64 0,.int .i64 0,.int .i64 0,.bool φ] (0,0) _ rfl (by refine δw (cs:=#[.string (⟨#[]⟩:ByteArray),.string (⟨#[]⟩:ByteArray),.int .i64 0,.int .i64 0,.int .i64 0,.bool φ]) ?_ 5 _ rfl;refine δw (cs:=#[.string (⟨#[]⟩:ByteArray),.string (⟨#[]⟩:ByteArray),.int .i64 0,.int .i64 0,.int .i64 0,.bool φ]) ?_ 4 _ rfl;refine δw (cs:=#[.string (⟨#[]⟩:ByteArray),.string (⟨#[]⟩:ByteArray),.int .i64 0,.int .i64 0,.int .i64 0,.bool φ]) ?_ 3 _ rfl;refine δw (cs:=#[.string (⟨#[]⟩:ByteArray),.string (⟨#[]⟩:ByteArray),.int .i64 0,.int .i64 0,.int .i64 0,.bool φ]) ?_ 2 _ rfl;refine δw (cs:=#[.string (⟨#[]⟩:ByteArray),.string (⟨#[]⟩:ByteArray),.int .i64 0,.int .i64 0,.int .i64 0,.bool φ]) ?_ 1 _ rfl;refine δw (cs:=#[.string (⟨#[]⟩:ByteArray),.string (⟨#[]⟩:ByteArray),.int .i64 0,.int .i64 0,.int .i64 0,.bool φ]) ?_ 0 _ rfl;exact BK338.out) Tryz.underlying46 rfl (by kernel_rfl)) rfl ?_
    exact ⟨by rfl,by repeat ((with_reducible first|exact HB.out|refine δq ?_ GE338.out))⟩
   ·
    replace c9:=Bool.eq_false_iff.mpr c9
    subst c9
    rw [ifF] at H
    by_cases c11:0<(t339.length:Int)
    ·
     rw [if_pos c11] at H
     have c11b0:=decide_eq_true c11
     have c11b1:decide (0<t339.length)=τ:=decide_eq_true (by omega)
     clear c11
     by_cases c12:4<(t339.length:Int)
     ·
      rw [if_pos c12] at H
      have c12b0:=decide_eq_true c12
      have c12b1:decide (4<t339.length)=τ:=decide_eq_true (by omega)
      clear c12
      by_cases c13:1<(t339.length:Int)
      ·
       rw [if_pos c13] at H
       have c13b0:=decide_eq_true c13
       have c13b1:decide (1<t339.length)=τ:=decide_eq_true (by omega)
       clear c13
       obtain ⟨⟨t347,t348⟩,A14,H⟩:=bsm H
       dsimp only at H
       by_cases c15:2<(t339.length:Int)
       ·
        rw [if_pos c15] at H
        have c15b0:=decide_eq_true c15
        have c15b1:decide (2<t339.length)=τ:=decide_eq_true (by omega)
        clear c15
        obtain ⟨⟨t350,t351⟩,A16,H⟩:=bsm H
        dsimp only at H
        by_cases c17:3<(t339.length:Int)
        ·
         rw [if_pos c17] at H
         have c17b0:=decide_eq_true c17
         have c17b1:decide (3<t339.length)=τ:=decide_eq_true (by omega)
         clear c17
         obtain ⟨⟨t353,t354⟩,A18,H⟩:=bsm H
         dsimp only at H
         obtain ⟨t355,A19,H⟩:=bsm H
         by_cases c20:t355=τ
         ·
          subst c20
          rw [ifT] at H
          obtain ⟨t356,A21,H⟩:=bsm H
          simp only [Option.some.injEq,Prod.mk.injEq] at H
          obtain ⟨rfl,rfl,rfl,rfl,rfl,rfl,rfl⟩:=H
          try go_wp2
          replace HO_6:=ζa (ζe HO_6.out)
          replace BK338:=ζa (δp BK338.out)
          replace HB:=ζa (δj HB.out)
          obtain ⟨Ao23,co23,eo23⟩:=Kd.R_slice HO_6.out
          (subst eo23)
          have p343:0≤(0:Int):=(by omega)
          have q343:0<(t339.length:Int):=of_decide_eq_true (by (with_reducible assumption))
          obtain ⟨ad343,e343,hx343_0⟩:=Kd.at_string (ζg HO_6.out).2.2 0 p343 q343
          cases e343
          have qi343:(0<t339.length)=True:=eq_true (by omega)
          (try rw [show ((0:Int)).toNat=0 from rfl] at hx343_0)
          (try rw [Addr.add_zero'] at hx343_0)
          replace p343:=eq_true p343
          replace q343:=eq_true q343
          have p344:0≤(4:Int):=(by omega)
          have q344:4<(t339.length:Int):=of_decide_eq_true (by (with_reducible assumption))
          obtain ⟨ad344,e344,hx344_0⟩:=Kd.at_string (ζg HO_6.out).2.2 4 p344 q344
          obtain rfl:ad343=ad344:=(by injection e344)
          (try simp only [show (4:Int).toNat=4 from rfl,Nat.reduceMul,Nat.reduceEqDiff,Go.Addr.add,↓reduceIte] at hx344_0)
          have qi344:(4<t339.length)=True:=eq_true (by omega)
          (try rw [show ((4:Int)).toNat=4 from rfl] at hx344_0)
          replace p344:=eq_true p344
          replace q344:=eq_true q344
          refine sta 11 (fun w'=>w'.cell? ad343=some (.string (rdOf ByteArray.empty t339 0))∧w'.cell? ⟨ad343.block,ad343.off+4,none⟩=some (.string (rdOf ByteArray.empty t339 4))) [] impl_orderOf.tab4 impl_orderOf.bits4 ⟨hx343_0,hx344_0⟩ (fun hHeld HT_ HW_ => ?_)
          generalize wc.drew=w22 at HO_6 BK338 HB hx343_0 hx344_0 hHeld ⊢
          refine pu 0 22 ?_
          refine pu 1 23 ?_
          refine pu 2 24 ?_
          refine pu 4 26 ?_
          refine pu 5 27 ?_
          refine ta 3 25 ?_
          refine ta 6 28 ?_
          refine pu 7 29 ?_
          refine pu 8 30 ?_
          refine on 9 8 (fun K hK => ?_)
          refine box_step ?hg (N:=8) ?hd (cs:=#[.string (⟨#[]⟩:ByteArray),.string (⟨#[]⟩:ByteArray),.int .i64 0,.int .i64 0,.int .i64 0,.bool φ]) (t:=46) ?hr ?_;(case hd=>rfl);(case hg=>rfl);(case hr=>(go_simp;done))
          intro gb345 hg w24 hbox hb
          have HS0_:=(hb.cell (World.block_lt_of_cell? _ _ (hHeld.1))).trans (hHeld.1)
          have HS1_:=(hb.cell (World.block_lt_of_cell? _ _ (hHeld.2))).trans (hHeld.2)
          replace HO_6:=ζa (ζh (by exact HO_6.out) hb)
          have BK345:=ζa (hbox)
          have GW345:=ζa (gbw hg (by exact HB.out))
          have GE345:=ζa (gbw hg (by exact HB.out))
          replace HB:=ζa (δr (by exact HB.out) hb)
          have NB338_345:=ζa ((by rw [hg];exact Nat.ne_of_lt (blk_lt (g:=gb338) (o:=.cells #[.string (⟨#[]⟩:ByteArray),.string (⟨#[]⟩:ByteArray),.int .i64 0,.int .i64 0,.int .i64 0,.bool φ] 46 (0,0)) (by exact BK338.out)):gb338≠gb345))
          have NB345_338:=ζa ((by rw [hg];exact Nat.ne_of_gt (blk_lt (g:=gb338) (o:=.cells #[.string (⟨#[]⟩:ByteArray),.string (⟨#[]⟩:ByteArray),.int .i64 0,.int .i64 0,.int .i64 0,.bool φ] 46 (0,0)) (by exact BK338.out)):gb345≠gb338))
          replace BK338:=ζa (blk_below (g:=gb338) (o:=.cells #[.string (⟨#[]⟩:ByteArray),.string (⟨#[]⟩:ByteArray),.int .i64 0,.int .i64 0,.int .i64 0,.bool φ] 46 (0,0)) (by exact BK338.out) hb)
          clear hb hbox hg
          refine hK.out _ _ ⟨HS0_,HS1_⟩ (fun hHeld => ?_)
          clear hK K
          refine nm 8 ?_
          refine one_ (i:=10) (N:=none) #[τ,τ,τ,τ,τ,τ,τ,τ,τ,τ,τ] rfl rfl (one_of HT_.out (by kernel_rfl)) (by decide) (fun K hK => ?_)
          have hs25:w24.cell? ⟨gb345,0,none⟩=some (.string (⟨#[]⟩:ByteArray)):=(δl BK345.out 0).trans rfl
          have hfs25:=δm BK345.out 0
          have hns25_0:=NB338_345.out
          have hms25_0:=NB345_338.out
          have hs26:w24.cell? ⟨gb345,1,none⟩=some (.string (⟨#[]⟩:ByteArray)):=(δl BK345.out 1).trans rfl
          have hfs26:=δm BK345.out 1
          have hns26_0:=NB338_345.out
          have hms26_0:=NB345_338.out
          have hs27:w24.cell? ⟨gb345,2,none⟩=some (.int .i64 0):=(δl BK345.out 2).trans rfl
          have hfs27:=δm BK345.out 2
          have hns27_0:=NB338_345.out
          have hms27_0:=NB345_338.out
          have hs28:w24.cell? ⟨gb345,3,none⟩=some (.int .i64 0):=(δl BK345.out 3).trans rfl
          have hfs28:=δm BK345.out 3
          have hns28_0:=NB338_345.out
          have hms28_0:=NB345_338.out
          have hs29:w24.cell? ⟨gb345,4,none⟩=some (.int .i64 0):=(δl BK345.out 4).trans rfl
          have hfs29:=δm BK345.out 4
          have hns29_0:=NB338_345.out
          have hms29_0:=NB345_338.out
          have hs30:w24.cell? ⟨gb345,5,none⟩=some (.bool φ):=(δl BK345.out 5).trans rfl
          have hfs30:=δm BK345.out 5
          have hns30_0:=NB338_345.out
          have hms30_0:=NB345_338.out
          refine skip_ (w1:=?_) (by rfl) rfl ?_ ?_
          rotate_left
          ·
           go_simp
           rfl
          refine hK.out _ _ ⟨((δt (p:=⟨gb345,_,none⟩) (by exact ζb (ζf HO_6.out BK345.out (by decide))) _).trans (((δt (p:=⟨gb345,_,none⟩) (by exact ζb (ζf HO_6.out BK345.out (by decide))) _).trans (((δt (p:=⟨gb345,_,none⟩) (by exact ζb (ζf HO_6.out BK345.out (by decide))) _).trans (((δt (p:=⟨gb345,_,none⟩) (by exact ζb (ζf HO_6.out BK345.out (by decide))) _).trans (((δt (p:=⟨gb345,_,none⟩) (by exact ζb (ζf HO_6.out BK345.out (by decide))) _).trans (((δt (p:=⟨gb345,_,none⟩) (by exact ζb (ζf HO_6.out BK345.out (by decide))) _).trans (hHeld.1)))))))))))),((δt (p:=⟨gb345,_,none⟩) (by (dsimp only;exact ζb (ζf HO_6.out BK345.out (by decide)))) _).trans (((δt (p:=⟨gb345,_,none⟩) (by (dsimp only;exact ζb (ζf HO_6.out BK345.out (by decide)))) _).trans (((δt (p:=⟨gb345,_,none⟩) (by (dsimp only;exact ζb (ζf HO_6.out BK345.out (by decide)))) _).trans (((δt (p:=⟨gb345,_,none⟩) (by (dsimp only;exact ζb (ζf HO_6.out BK345.out (by decide)))) _).trans (((δt (p:=⟨gb345,_,none⟩) (by (dsimp only;exact ζb (ζf HO_6.out BK345.out (by decide)))) _).trans (((δt (p:=⟨gb345,_,none⟩) (by (dsimp only;exact ζb (ζf HO_6.out BK345.out (by decide)))) _).trans (hHeld.2))))))))))))⟩ (fun hHeld => ?_)
          clear hK K
          refine done_ (done_of HT_.out (by kernel_rfl)) ?_
          have p346:0≤(1:Int):=(by omega)
          have q346:1<(t339.length:Int):=of_decide_eq_true (by (with_reducible assumption))
          obtain ⟨ad346,e346,hx346_0⟩:=Kd.at_string (ζg HO_6.out).2.2 1 p346 q346
          obtain rfl:ad343=ad346:=(by injection e346)
          (try simp only [show (1:Int).toNat=1 from rfl,Nat.reduceMul,Nat.reduceEqDiff,Go.Addr.add,↓reduceIte] at hx346_0)
          have qi346:(1<t339.length)=True:=eq_true (by omega)
          (try rw [show ((1:Int)).toNat=1 from rfl] at hx346_0)
          have hn346_0:ad343.block≠gb345:=ζb (ζf HO_6.out BK345.out (by decide))
          have hn346_1:ad343.block≠gb345:=ζb (ζf HO_6.out BK345.out (by decide))
          have hn346_2:ad343.block≠gb345:=ζb (ζf HO_6.out BK345.out (by decide))
          have hn346_3:ad343.block≠gb345:=ζb (ζf HO_6.out BK345.out (by decide))
          have hn346_4:ad343.block≠gb345:=ζb (ζf HO_6.out BK345.out (by decide))
          have hn346_5:ad343.block≠gb345:=ζb (ζf HO_6.out BK345.out (by decide))
          replace hx346_0:=(δt (p:=⟨gb345,0,none⟩) (by exact hn346_0) (.string a0)).trans hx346_0
          replace hx346_0:=(δt (p:=⟨gb345,1,none⟩) (by exact hn346_1) (.string (rdOf ByteArray.empty t339 0))).trans hx346_0
          replace hx346_0:=(δt (p:=⟨gb345,2,none⟩) (by exact hn346_2) (.int .i64 0)).trans hx346_0
          replace hx346_0:=(δt (p:=⟨gb345,3,none⟩) (by exact hn346_3) (.int .i64 0)).trans hx346_0
          replace hx346_0:=(δt (p:=⟨gb345,4,none⟩) (by exact hn346_4) (.int .i64 0)).trans hx346_0
          replace hx346_0:=(δt (p:=⟨gb345,5,none⟩) (by exact hn346_5) (.bool ((rdOf ByteArray.empty t339 4).toList == ([111,112,101,110]:List UInt8)))).trans hx346_0
          clear hn346_0
          clear hn346_1
          clear hn346_2
          clear hn346_3
          clear hn346_4
          clear hn346_5
          replace p346:=eq_true p346
          replace q346:=eq_true q346
          try go_wp2_with (first|((with_reducible refine δv (f:=56) rfl ?_);refine gl 35 Tryz.func56 #[.string (rdOf ByteArray.empty t339 1)] ?_;(with_reducible refine (impl_readAmount.calls (rdOf ByteArray.empty t339 1) t347 t348 _ (HT0.out.below (by repeat ((with_reducible first|exact HB.out|refine δq ?_ GE345.out)))) A14.out).mono ?_);rintro e w31 ⟨rfl,hb⟩;refine ⟨_,rfl,?_⟩;replace HO_6:=ζa (ζh (by exact (Kd.R_mono (ζi (p:=⟨gb345,5,none⟩) (ζi (p:=⟨gb345,4,none⟩) (ζi (p:=⟨gb345,3,none⟩) (ζi (p:=⟨gb345,2,none⟩) (ζi (p:=⟨gb345,1,none⟩) (ζi (p:=⟨gb345,0,none⟩) (Kd.R_types HO_6.out BK345.out (by decide)) (fun _ hk=>hk.2) (.string a0)) (fun _ hk=>hk.2) (.string (rdOf ByteArray.empty t339 0))) (fun _ hk=>hk.2) (.int .i64 0)) (fun _ hk=>hk.2) (.int .i64 0)) (fun _ hk=>hk.2) (.int .i64 0)) (fun _ hk=>hk.2) (.bool ((rdOf ByteArray.empty t339 4).toList == ([111,112,101,110]:List UInt8)))) (fun _ h_=>h_.1))) hb);replace BK338:=ζa (blk_below (g:=gb338) (o:=.cells #[.string (⟨#[]⟩:ByteArray),.string (⟨#[]⟩:ByteArray),.int .i64 0,.int .i64 0,.int .i64 0,.bool φ] 46 (0,0)) (by refine blk_far ?_ NB338_345.out _;refine blk_far ?_ NB338_345.out _;refine blk_far ?_ NB338_345.out _;refine blk_far ?_ NB338_345.out _;refine blk_far ?_ NB338_345.out _;refine blk_far ?_ NB338_345.out _;exact BK338.out) hb);replace BK345:=ζa (blk_below (g:=gb345) (o:=.cells #[.string a0,.string (rdOf ByteArray.empty t339 0),.int .i64 0,.int .i64 0,.int .i64 0,.bool ((rdOf ByteArray.empty t339 4).toList == ([111,112,101,110]:List UInt8))] 46 (0,0)) (by refine δw (cs:=#[.string a0,.string (rdOf ByteArray.empty t339 0),.int .i64 0,.int .i64 0,.int .i64 0,.bool φ]) ?_ 5 _ rfl;refine δw (cs:=#[.string a0,.string (rdOf ByteArray.empty t339 0),.int .i64 0,.int .i64 0,.int .i64 0,.bool φ]) ?_ 4 _ rfl;refine δw (cs:=#[.string a0,.string (rdOf ByteArray.empty t339 0),.int .i64 0,.int .i64 0,.int .i64 0,.bool φ]) ?_ 3 _ rfl;refine δw (cs:=#[.string a0,.string (rdOf ByteArray.empty t339 0),.int .i64 0,.int .i64 0,.int .i64 0,.bool φ]) ?_ 2 _ rfl;refine δw (cs:=#[.string a0,.string (⟨#[]⟩:ByteArray),.int .i64 0,.int .i64 0,.int .i64 0,.bool φ]) ?_ 1 _ rfl;refine δw (cs:=#[.string (⟨#[]⟩:ByteArray),.string (⟨#[]⟩:ByteArray),.int .i64 0,.int .i64 0,.int .i64 0,.bool φ]) ?_ 0 _ rfl;exact BK345.out) hb);replace HB:=ζa (δr (by repeat ((with_reducible first|exact HB.out|refine δq ?_ GE345.out))) hb);(try clear hb);(try clear hb2);(try clear hk);(try clear hi);have hnb32:=NB345_338.out;have hnc32:=NB338_345.out;have hcz33_0:w31.cell? ⟨gb345,0,none⟩=some (.string a0):=(δl BK345.out 0).trans rfl;have hcz33_1:w31.cell? ⟨gb345,1,none⟩=some (.string (rdOf ByteArray.empty t339 0)):=(δl BK345.out 1).trans rfl;have hcz33_2:w31.cell? ⟨gb345,2,none⟩=some (.int .i64 0):=(δl BK345.out 2).trans rfl;have hcz33_3:w31.cell? ⟨gb345,3,none⟩=some (.int .i64 0):=(δl BK345.out 3).trans rfl;have hcz33_4:w31.cell? ⟨gb345,4,none⟩=some (.int .i64 0):=(δl BK345.out 4).trans rfl;have hcz33_5:w31.cell? ⟨gb345,5,none⟩=some (.bool ((rdOf ByteArray.empty t339 4).toList == ([111,112,101,110]:List UInt8))):=(δl BK345.out 5).trans rfl;have hfz33_0:=δm BK345.out 0;have hfz33_1:=δm BK345.out 1;have hfz33_2:=δm BK345.out 2;have hfz33_3:=δm BK345.out 3;have hfz33_4:=δm BK345.out 4;have hfz33_5:=δm BK345.out 5;have p349:0≤(2:Int):=(by omega);have q349:2<(t339.length:Int):=of_decide_eq_true (by (with_reducible assumption));obtain ⟨ad349,e349,hx349_0⟩:=Kd.at_string (ζg HO_6.out).2.2 2 p349 q349;obtain rfl:ad343=ad349:=(by injection e349);(try simp only [show (2:Int).toNat=2 from rfl,Nat.reduceMul,Nat.reduceEqDiff,Go.Addr.add,↓reduceIte] at hx349_0);have qi349:(2<t339.length)=True:=eq_true (by omega);(try rw [show ((2:Int)).toNat=2 from rfl] at hx349_0);have hn349_0:ad343.block≠gb345:=ζb (ζf HO_6.out BK345.out (by decide));replace hx349_0:=(δt (p:=⟨gb345,2,none⟩) (by exact hn349_0) (.int .i64 t347)).trans hx349_0;clear hn349_0;replace p349:=eq_true p349;replace q349:=eq_true q349)|((with_reducible refine δv (f:=56) rfl ?_);refine gl 43 Tryz.func56 #[.string (rdOf ByteArray.empty t339 2)] ?_;(with_reducible refine (impl_readAmount.calls (rdOf ByteArray.empty t339 2) t350 t351 _ (HT0.out.below (by repeat ((with_reducible first|exact HB.out|refine δq ?_ GE345.out)))) A16.out).mono ?_);rintro e w34 ⟨rfl,hb⟩;refine ⟨_,rfl,?_⟩;replace HO_6:=ζa (ζh (by exact (Kd.R_mono (ζi (p:=⟨gb345,2,none⟩) (Kd.R_types HO_6.out BK345.out (by decide)) (fun _ hk=>hk.2) (.int .i64 t347)) (fun _ h_=>h_.1))) hb);replace BK338:=ζa (blk_below (g:=gb338) (o:=.cells #[.string (⟨#[]⟩:ByteArray),.string (⟨#[]⟩:ByteArray),.int .i64 0,.int .i64 0,.int .i64 0,.bool φ] 46 (0,0)) (by refine blk_far ?_ NB338_345.out _;exact BK338.out) hb);replace BK345:=ζa (blk_below (g:=gb345) (o:=.cells #[.string a0,.string (rdOf ByteArray.empty t339 0),.int .i64 t347,.int .i64 0,.int .i64 0,.bool ((rdOf ByteArray.empty t339 4).toList == ([111,112,101,110]:List UInt8))] 46 (0,0)) (by refine δw (cs:=#[.string a0,.string (rdOf ByteArray.empty t339 0),.int .i64 0,.int .i64 0,.int .i64 0,.bool ((rdOf ByteArray.empty t339 4).toList == ([111,112,101,110]:List UInt8))]) ?_ 2 _ rfl;exact BK345.out) hb);replace HB:=ζa (δr (by repeat ((with_reducible first|exact HB.out|refine δq ?_ GE345.out))) hb);(try clear hb);(try clear hb2);(try clear hk);(try clear hi);have hcz35_0:w34.cell? ⟨gb345,0,none⟩=some (.string a0):=(δl BK345.out 0).trans rfl;have hcz35_1:w34.cell? ⟨gb345,1,none⟩=some (.string (rdOf ByteArray.empty t339 0)):=(δl BK345.out 1).trans rfl;have hcz35_2:w34.cell? ⟨gb345,2,none⟩=some (.int .i64 t347):=(δl BK345.out 2).trans rfl;have hcz35_3:w34.cell? ⟨gb345,3,none⟩=some (.int .i64 0):=(δl BK345.out 3).trans rfl;have hcz35_4:w34.cell? ⟨gb345,4,none⟩=some (.int .i64 0):=(δl BK345.out 4).trans rfl;have hcz35_5:w34.cell? ⟨gb345,5,none⟩=some (.bool ((rdOf ByteArray.empty t339 4).toList == ([111,112,101,110]:List UInt8))):=(δl BK345.out 5).trans rfl;have hfz35_0:=δm BK345.out 0;have hfz35_1:=δm BK345.out 1;have hfz35_2:=δm BK345.out 2;have hfz35_3:=δm BK345.out 3;have hfz35_4:=δm BK345.out 4;have hfz35_5:=δm BK345.out 5;have p352:0≤(3:Int):=(by omega);have q352:3<(t339.length:Int):=of_decide_eq_true (by (with_reducible assumption));obtain ⟨ad352,e352,hx352_0⟩:=Kd.at_string (ζg HO_6.out).2.2 3 p352 q352;obtain rfl:ad343=ad352:=(by injection e352);(try simp only [show (3:Int).toNat=3 from rfl,Nat.reduceMul,Nat.reduceEqDiff,Go.Addr.add,↓reduceIte] at hx352_0);have qi352:(3<t339.length)=True:=eq_true (by omega);(try rw [show ((3:Int)).toNat=3 from rfl] at hx352_0);have hn352_0:ad343.block≠gb345:=ζb (ζf HO_6.out BK345.out (by decide));replace hx352_0:=(δt (p:=⟨gb345,3,none⟩) (by exact hn352_0) (.int .i64 t350)).trans hx352_0;clear hn352_0;replace p352:=eq_true p352;replace q352:=eq_true q352)|((with_reducible refine δv (f:=56) rfl ?_);refine gl 51 Tryz.func56 #[.string (rdOf ByteArray.empty t339 3)] ?_;(with_reducible refine (impl_readAmount.calls (rdOf ByteArray.empty t339 3) t353 t354 _ (HT0.out.below (by repeat ((with_reducible first|exact HB.out|refine δq ?_ GE345.out)))) A18.out).mono ?_);rintro e w36 ⟨rfl,hb⟩;refine ⟨_,rfl,?_⟩;replace HO_6:=ζa (ζh (by exact (Kd.R_mono (ζi (p:=⟨gb345,3,none⟩) (Kd.R_types HO_6.out BK345.out (by decide)) (fun _ hk=>hk.2) (.int .i64 t350)) (fun _ h_=>h_.1))) hb);replace BK338:=ζa (blk_below (g:=gb338) (o:=.cells #[.string (⟨#[]⟩:ByteArray),.string (⟨#[]⟩:ByteArray),.int .i64 0,.int .i64 0,.int .i64 0,.bool φ] 46 (0,0)) (by refine blk_far ?_ NB338_345.out _;exact BK338.out) hb);replace BK345:=ζa (blk_below (g:=gb345) (o:=.cells #[.string a0,.string (rdOf ByteArray.empty t339 0),.int .i64 t347,.int .i64 t350,.int .i64 0,.bool ((rdOf ByteArray.empty t339 4).toList == ([111,112,101,110]:List UInt8))] 46 (0,0)) (by refine δw (cs:=#[.string a0,.string (rdOf ByteArray.empty t339 0),.int .i64 t347,.int .i64 0,.int .i64 0,.bool ((rdOf ByteArray.empty t339 4).toList == ([111,112,101,110]:List UInt8))]) ?_ 3 _ rfl;exact BK345.out) hb);replace HB:=ζa (δr (by repeat ((with_reducible first|exact HB.out|refine δq ?_ GE345.out))) hb);(try clear hb);(try clear hb2);(try clear hk);(try clear hi);have hcz37_0:w36.cell? ⟨gb345,0,none⟩=some (.string a0):=(δl BK345.out 0).trans rfl;have hcz37_1:w36.cell? ⟨gb345,1,none⟩=some (.string (rdOf ByteArray.empty t339 0)):=(δl BK345.out 1).trans rfl;have hcz37_2:w36.cell? ⟨gb345,2,none⟩=some (.int .i64 t347):=(δl BK345.out 2).trans rfl;have hcz37_3:w36.cell? ⟨gb345,3,none⟩=some (.int .i64 t350):=(δl BK345.out 3).trans rfl;have hcz37_4:w36.cell? ⟨gb345,4,none⟩=some (.int .i64 0):=(δl BK345.out 4).trans rfl;have hcz37_5:w36.cell? ⟨gb345,5,none⟩=some (.bool ((rdOf ByteArray.empty t339 4).toList == ([111,112,101,110]:List UInt8))):=(δl BK345.out 5).trans rfl;have hfz37_0:=δm BK345.out 0;have hfz37_1:=δm BK345.out 1;have hfz37_2:=δm BK345.out 2;have hfz37_3:=δm BK345.out 3;have hfz37_4:=δm BK345.out 4;have hfz37_5:=δm BK345.out 5))
          have n0_:Aside0 (Kd.R Kd.string 9 (w36.setCell ⟨gb345,4,none⟩ (.int .i64 t353)) w.heap.size (fun _=>True) (.slice (some ad343) t339.length co23) t339):=⟨by exact Kd.R_mono (ζi (p:=⟨gb345,4,none⟩) (Kd.R_types HO_6.out BK345.out (by decide)) (fun _ hk=>hk.2) (.int .i64 t353)) (fun _ hk=>trivial)⟩
          have n1_:Aside0 ((w36.setCell ⟨gb345,4,none⟩ (.int .i64 t353)).heap[gb338]? = some (.cells #[.string (⟨#[]⟩:ByteArray),.string (⟨#[]⟩:ByteArray),.int .i64 0,.int .i64 0,.int .i64 0,.bool φ] 46 (0,0))):=⟨by refine blk_far ?_ NB338_345.out _;exact BK338.out⟩
          have n2_:Aside0 ((w36.setCell ⟨gb345,4,none⟩ (.int .i64 t353)).heap[gb345]? = some (.cells #[.string a0,.string (rdOf ByteArray.empty t339 0),.int .i64 t347,.int .i64 t350,.int .i64 t353,.bool ((rdOf ByteArray.empty t339 4).toList == ([111,112,101,110]:List UInt8))] 46 (0,0))):=⟨by refine δw (cs:=#[.string a0,.string (rdOf ByteArray.empty t339 0),.int .i64 t347,.int .i64 t350,.int .i64 0,.bool ((rdOf ByteArray.empty t339 4).toList == ([111,112,101,110]:List UInt8))]) ?_ 4 _ rfl;exact BK345.out⟩
          have n3_:Aside0 (Below w.heap.size w (w36.setCell ⟨gb345,4,none⟩ (.int .i64 t353))):=⟨by repeat ((with_reducible first|exact HB.out|refine δq ?_ GE345.out))⟩
          (try clear HO_6)
          (try clear BK338)
          (try clear BK345)
          (try clear HB)
          generalize (w36.setCell ⟨gb345,4,none⟩ (.int .i64 t353))=w38 at n0_ n1_ n2_ n3_ ⊢
          have HO_6:=n0_
          have BK338:=n1_
          have BK345:=n2_
          have HB:=n3_
          clear n0_ n1_ n2_ n3_
          replace HO_6:=ζa (ζe HO_6.out)
          replace BK338:=ζa (δp BK338.out)
          replace BK345:=ζa (δp BK345.out)
          replace HB:=ζa (δj HB.out)
          refine sta 11 (fun w'=>w'.cell? ⟨gb345,0,none⟩=some (.string a0)∧w'.cell? ⟨gb345,1,none⟩=some (.string (rdOf ByteArray.empty t339 0))∧w'.cell? ⟨gb345,2,none⟩=some (.int .i64 t347)∧w'.cell? ⟨gb345,3,none⟩=some (.int .i64 t350)∧w'.cell? ⟨gb345,4,none⟩=some (.int .i64 t353)∧w'.cell? ⟨gb345,5,none⟩=some (.bool ((rdOf ByteArray.empty t339 4).toList == ([111,112,101,110]:List UInt8)))) [] impl_orderOf.tab8 impl_orderOf.bits8 ⟨(δl BK345.out 0).trans rfl,(δl BK345.out 1).trans rfl,(δl BK345.out 2).trans rfl,(δl BK345.out 3).trans rfl,(δl BK345.out 4).trans rfl,(δl BK345.out 5).trans rfl⟩ (fun hHeld HT_ HW_ => ?_)
          generalize w38.drew=w39 at HO_6 BK338 BK345 HB hHeld ⊢
          refine ta 0 55 ?_
          refine ta 1 56 ?_
          refine on 2 57 (fun K hK => ?_)
          refine gs Tryz.func89 #[.agg #[.string a0,.string (rdOf ByteArray.empty t339 0),.int .i64 t347,.int .i64 t350,.int .i64 t353,.bool ((rdOf ByteArray.empty t339 4).toList == ([111,112,101,110]:List UInt8))]] ?_
          with_reducible refine (impl_OrderOK.calls kj3 a0 (rdOf ByteArray.empty t339 0) t347 t350 t353 ((rdOf ByteArray.empty t339 4).toList == ([111,112,101,110]:List UInt8)) τ _ A19.out).mono ?_
          rintro e w40 ⟨rfl,hb⟩
          refine ⟨_,rfl,?_⟩
          replace HO_6:=ζa (ζh (by exact HO_6.out) hb)
          replace BK338:=ζa (blk_below (g:=gb338) (o:=.cells #[.string (⟨#[]⟩:ByteArray),.string (⟨#[]⟩:ByteArray),.int .i64 0,.int .i64 0,.int .i64 0,.bool φ] 46 (0,0)) (by exact BK338.out) hb)
          replace BK345:=ζa (blk_below (g:=gb345) (o:=.cells #[.string a0,.string (rdOf ByteArray.empty t339 0),.int .i64 t347,.int .i64 t350,.int .i64 t353,.bool ((rdOf ByteArray.empty t339 4).toList == ([111,112,101,110]:List UInt8))] 46 (0,0)) (by exact BK345.out) hb)
          replace HB:=ζa (δr (by exact HB.out) hb)
          (try clear hb)
          (try clear hb2)
          (try clear hk)
          (try clear hi)
          refine hK.out _ _ ⟨(δl BK345.out 0).trans rfl,(δl BK345.out 1).trans rfl,(δl BK345.out 2).trans rfl,(δl BK345.out 3).trans rfl,(δl BK345.out 4).trans rfl,(δl BK345.out 5).trans rfl⟩ (fun hHeld => ?_)
          clear hK K
          refine nm 57 ?_
          refine pu 3 58 ?_
          refine pu 6 61 ?_
          refine ta 4 59 ?_
          refine on 5 60 (fun K hK => ?_)
          refine gs Tryz.func72 #[.agg #[.string a0,.string (rdOf ByteArray.empty t339 0),.int .i64 t347,.int .i64 t350,.int .i64 t353,.bool ((rdOf ByteArray.empty t339 4).toList == ([111,112,101,110]:List UInt8))]] ?_
          with_reducible refine (impl_Order_value.calls kj3 a0 (rdOf ByteArray.empty t339 0) t347 t350 t353 ((rdOf ByteArray.empty t339 4).toList == ([111,112,101,110]:List UInt8)) t356 _ (HT0.out.below (by exact HB.out)) A21.out).mono ?_
          rintro e w41 ⟨rfl,hb⟩
          refine ⟨_,rfl,?_⟩
          replace HO_6:=ζa (ζh (by exact HO_6.out) hb)
          replace BK338:=ζa (blk_below (g:=gb338) (o:=.cells #[.string (⟨#[]⟩:ByteArray),.string (⟨#[]⟩:ByteArray),.int .i64 0,.int .i64 0,.int .i64 0,.bool φ] 46 (0,0)) (by exact BK338.out) hb)
          replace BK345:=ζa (blk_below (g:=gb345) (o:=.cells #[.string a0,.string (rdOf ByteArray.empty t339 0),.int .i64 t347,.int .i64 t350,.int .i64 t353,.bool ((rdOf ByteArray.empty t339 4).toList == ([111,112,101,110]:List UInt8))] 46 (0,0)) (by exact BK345.out) hb)
          replace HB:=ζa (δr (by exact HB.out) hb)
          (try clear hb)
          (try clear hb2)
          (try clear hk)
          (try clear hi)
          refine hK.out _ _ ⟨(δl BK345.out 0).trans rfl,(δl BK345.out 1).trans rfl,(δl BK345.out 2).trans rfl,(δl BK345.out 3).trans rfl,(δl BK345.out 4).trans rfl,(δl BK345.out 5).trans rfl⟩ (fun hHeld => ?_)
          clear hK K
          refine nm 60 ?_
          refine pu 7 62 ?_
          refine pu 8 63 ?_
          refine one_ (i:=9) (N:=none) #[τ,τ,τ,τ,τ,τ,τ,τ,τ,τ,φ] rfl rfl (one_of HT_.out (by kernel_rfl)) (by decide) (fun K hK => ?_)
          have hs42:w41.cell? ⟨gb338,0,none⟩=some (.string (⟨#[]⟩:ByteArray)):=(δl BK338.out 0).trans rfl
          have hfs42:=δm BK338.out 0
          have hns42_1:=NB345_338.out
          have hms42_1:=NB338_345.out
          have hs43:w41.cell? ⟨gb338,1,none⟩=some (.string (⟨#[]⟩:ByteArray)):=(δl BK338.out 1).trans rfl
          have hfs43:=δm BK338.out 1
          have hns43_1:=NB345_338.out
          have hms43_1:=NB338_345.out
          have hs44:w41.cell? ⟨gb338,2,none⟩=some (.int .i64 0):=(δl BK338.out 2).trans rfl
          have hfs44:=δm BK338.out 2
          have hns44_1:=NB345_338.out
          have hms44_1:=NB338_345.out
          have hs45:w41.cell? ⟨gb338,3,none⟩=some (.int .i64 0):=(δl BK338.out 3).trans rfl
          have hfs45:=δm BK338.out 3
          have hns45_1:=NB345_338.out
          have hms45_1:=NB338_345.out
          have hs46:w41.cell? ⟨gb338,4,none⟩=some (.int .i64 0):=(δl BK338.out 4).trans rfl
          have hfs46:=δm BK338.out 4
          have hns46_1:=NB345_338.out
          have hms46_1:=NB338_345.out
          have hs47:w41.cell? ⟨gb338,5,none⟩=some (.bool φ):=(δl BK338.out 5).trans rfl
          have hfs47:=δm BK338.out 5
          have hns47_1:=NB345_338.out
          have hms47_1:=NB338_345.out
          refine skip_ (w1:=?_) (by rfl) rfl ?_ ?_
          rotate_left
          ·
           go_simp
           rfl
          refine hK.out _ _ ⟨((δt (p:=⟨gb338,_,none⟩) NB345_338.out _).trans (((δt (p:=⟨gb338,_,none⟩) NB345_338.out _).trans (((δt (p:=⟨gb338,_,none⟩) NB345_338.out _).trans (((δt (p:=⟨gb338,_,none⟩) NB345_338.out _).trans (((δt (p:=⟨gb338,_,none⟩) NB345_338.out _).trans (((δt (p:=⟨gb338,_,none⟩) NB345_338.out _).trans (hHeld.1)))))))))))),((δt (p:=⟨gb338,_,none⟩) NB345_338.out _).trans (((δt (p:=⟨gb338,_,none⟩) NB345_338.out _).trans (((δt (p:=⟨gb338,_,none⟩) NB345_338.out _).trans (((δt (p:=⟨gb338,_,none⟩) NB345_338.out _).trans (((δt (p:=⟨gb338,_,none⟩) NB345_338.out _).trans (((δt (p:=⟨gb338,_,none⟩) NB345_338.out _).trans (hHeld.2.1)))))))))))),((δt (p:=⟨gb338,_,none⟩) NB345_338.out _).trans (((δt (p:=⟨gb338,_,none⟩) NB345_338.out _).trans (((δt (p:=⟨gb338,_,none⟩) NB345_338.out _).trans (((δt (p:=⟨gb338,_,none⟩) NB345_338.out _).trans (((δt (p:=⟨gb338,_,none⟩) NB345_338.out _).trans (((δt (p:=⟨gb338,_,none⟩) NB345_338.out _).trans (hHeld.2.2.1)))))))))))),((δt (p:=⟨gb338,_,none⟩) NB345_338.out _).trans (((δt (p:=⟨gb338,_,none⟩) NB345_338.out _).trans (((δt (p:=⟨gb338,_,none⟩) NB345_338.out _).trans (((δt (p:=⟨gb338,_,none⟩) NB345_338.out _).trans (((δt (p:=⟨gb338,_,none⟩) NB345_338.out _).trans (((δt (p:=⟨gb338,_,none⟩) NB345_338.out _).trans (hHeld.2.2.2.1)))))))))))),((δt (p:=⟨gb338,_,none⟩) NB345_338.out _).trans (((δt (p:=⟨gb338,_,none⟩) NB345_338.out _).trans (((δt (p:=⟨gb338,_,none⟩) NB345_338.out _).trans (((δt (p:=⟨gb338,_,none⟩) NB345_338.out _).trans (((δt (p:=⟨gb338,_,none⟩) NB345_338.out _).trans (((δt (p:=⟨gb338,_,none⟩) NB345_338.out _).trans (hHeld.2.2.2.2.1)))))))))))),((δt (p:=⟨gb338,_,none⟩) NB345_338.out _).trans (((δt (p:=⟨gb338,_,none⟩) NB345_338.out _).trans (((δt (p:=⟨gb338,_,none⟩) NB345_338.out _).trans (((δt (p:=⟨gb338,_,none⟩) NB345_338.out _).trans (((δt (p:=⟨gb338,_,none⟩) NB345_338.out _).trans (((δt (p:=⟨gb338,_,none⟩) NB345_338.out _).trans (hHeld.2.2.2.2.2))))))))))))⟩ (fun hHeld => ?_)
          clear hK K
          refine pu 10 5 ?_
          refine done_ (done_of HT_.out (by kernel_rfl)) ?_
          try go_wp2
          refine bodyPost_ret (results_ct rfl _ _ gb338 46 #[.string a0,.string (rdOf ByteArray.empty t339 0),.int .i64 t347,.int .i64 t350,.int .i64 t353,.bool ((rdOf ByteArray.empty t339 4).toList == ([111,112,101,110]:List UInt8))] (0,0) _ rfl (by refine δw (cs:=#[.string a0,.string (rdOf ByteArray.empty t339 0),.int .i64 t347,.int .i64 t350,.int .i64 t353,.bool φ]) ?_ 5 _ rfl;refine δw (cs:=#[.string a0,.string (rdOf ByteArray.empty t339 0),.int .i64 t347,.int .i64 t350,.int .i64 0,.bool φ]) ?_ 4 _ rfl;refine δw (cs:=#[.string a0,.string (rdOf ByteArray.empty t339 0),.int .i64 t347,.int .i64 0,.int .i64 0,.bool φ]) ?_ 3 _ rfl;refine δw (cs:=#[.string a0,.string (rdOf ByteArray.empty t339 0),.int .i64 0,.int .i64 0,.int .i64 0,.bool φ]) ?_ 2 _ rfl;refine δw (cs:=#[.string a0,.string (⟨#[]⟩:ByteArray),.int .i64 0,.int .i64 0,.int .i64 0,.bool φ]) ?_ 1 _ rfl;refine δw (cs:=#[.string (⟨#[]⟩:ByteArray),.string (⟨#[]⟩:ByteArray),.int .i64 0,.int .i64 0,.int .i64 0,.bool φ]) ?_ 0 _ rfl;exact BK338.out) Tryz.underlying46 rfl (by kernel_rfl)) rfl ?_
          exact ⟨by rfl,by repeat ((with_reducible first|exact HB.out|refine δq ?_ GE338.out))⟩
         ·
          replace c20:=Bool.eq_false_iff.mpr c20
          subst c20
          rw [ifF] at H
          simp only [Option.some.injEq,Prod.mk.injEq] at H
          obtain ⟨rfl,rfl,rfl,rfl,rfl,rfl,rfl⟩:=H
          try go_wp2
          replace HO_6:=ζa (ζe HO_6.out)
          replace BK338:=ζa (δp BK338.out)
          replace HB:=ζa (δj HB.out)
          obtain ⟨Ao49,co49,eo49⟩:=Kd.R_slice HO_6.out
          (subst eo49)
          have p343:0≤(0:Int):=(by omega)
          have q343:0<(t339.length:Int):=of_decide_eq_true (by (with_reducible assumption))
          obtain ⟨ad343,e343,hx343_0⟩:=Kd.at_string (ζg HO_6.out).2.2 0 p343 q343
          cases e343
          have qi343:(0<t339.length)=True:=eq_true (by omega)
          (try rw [show ((0:Int)).toNat=0 from rfl] at hx343_0)
          (try rw [Addr.add_zero'] at hx343_0)
          replace p343:=eq_true p343
          replace q343:=eq_true q343
          have p344:0≤(4:Int):=(by omega)
          have q344:4<(t339.length:Int):=of_decide_eq_true (by (with_reducible assumption))
          obtain ⟨ad344,e344,hx344_0⟩:=Kd.at_string (ζg HO_6.out).2.2 4 p344 q344
          obtain rfl:ad343=ad344:=(by injection e344)
          (try simp only [show (4:Int).toNat=4 from rfl,Nat.reduceMul,Nat.reduceEqDiff,Go.Addr.add,↓reduceIte] at hx344_0)
          have qi344:(4<t339.length)=True:=eq_true (by omega)
          (try rw [show ((4:Int)).toNat=4 from rfl] at hx344_0)
          replace p344:=eq_true p344
          replace q344:=eq_true q344
          refine sta 11 (fun w'=>w'.cell? ad343=some (.string (rdOf ByteArray.empty t339 0))∧w'.cell? ⟨ad343.block,ad343.off+4,none⟩=some (.string (rdOf ByteArray.empty t339 4))) [] impl_orderOf.tab4 impl_orderOf.bits4 ⟨hx343_0,hx344_0⟩ (fun hHeld HT_ HW_ => ?_)
          generalize wc.drew=w48 at HO_6 BK338 HB hx343_0 hx344_0 hHeld ⊢
          refine pu 0 22 ?_
          refine pu 1 23 ?_
          refine pu 2 24 ?_
          refine pu 4 26 ?_
          refine pu 5 27 ?_
          refine ta 3 25 ?_
          refine ta 6 28 ?_
          refine pu 7 29 ?_
          refine pu 8 30 ?_
          refine on 9 8 (fun K hK => ?_)
          refine box_step ?hg (N:=8) ?hd (cs:=#[.string (⟨#[]⟩:ByteArray),.string (⟨#[]⟩:ByteArray),.int .i64 0,.int .i64 0,.int .i64 0,.bool φ]) (t:=46) ?hr ?_;(case hd=>rfl);(case hg=>rfl);(case hr=>(go_simp;done))
          intro gb345 hg w50 hbox hb
          have HS0_:=(hb.cell (World.block_lt_of_cell? _ _ (hHeld.1))).trans (hHeld.1)
          have HS1_:=(hb.cell (World.block_lt_of_cell? _ _ (hHeld.2))).trans (hHeld.2)
          replace HO_6:=ζa (ζh (by exact HO_6.out) hb)
          have BK345:=ζa (hbox)
          have GW345:=ζa (gbw hg (by exact HB.out))
          have GE345:=ζa (gbw hg (by exact HB.out))
          replace HB:=ζa (δr (by exact HB.out) hb)
          have NB338_345:=ζa ((by rw [hg];exact Nat.ne_of_lt (blk_lt (g:=gb338) (o:=.cells #[.string (⟨#[]⟩:ByteArray),.string (⟨#[]⟩:ByteArray),.int .i64 0,.int .i64 0,.int .i64 0,.bool φ] 46 (0,0)) (by exact BK338.out)):gb338≠gb345))
          have NB345_338:=ζa ((by rw [hg];exact Nat.ne_of_gt (blk_lt (g:=gb338) (o:=.cells #[.string (⟨#[]⟩:ByteArray),.string (⟨#[]⟩:ByteArray),.int .i64 0,.int .i64 0,.int .i64 0,.bool φ] 46 (0,0)) (by exact BK338.out)):gb345≠gb338))
          replace BK338:=ζa (blk_below (g:=gb338) (o:=.cells #[.string (⟨#[]⟩:ByteArray),.string (⟨#[]⟩:ByteArray),.int .i64 0,.int .i64 0,.int .i64 0,.bool φ] 46 (0,0)) (by exact BK338.out) hb)
          clear hb hbox hg
          refine hK.out _ _ ⟨HS0_,HS1_⟩ (fun hHeld => ?_)
          clear hK K
          refine nm 8 ?_
          refine one_ (i:=10) (N:=none) #[τ,τ,τ,τ,τ,τ,τ,τ,τ,τ,τ] rfl rfl (one_of HT_.out (by kernel_rfl)) (by decide) (fun K hK => ?_)
          have hs51:w50.cell? ⟨gb345,0,none⟩=some (.string (⟨#[]⟩:ByteArray)):=(δl BK345.out 0).trans rfl
          have hfs51:=δm BK345.out 0
          have hns51_0:=NB338_345.out
          have hms51_0:=NB345_338.out
          have hs52:w50.cell? ⟨gb345,1,none⟩=some (.string (⟨#[]⟩:ByteArray)):=(δl BK345.out 1).trans rfl
          have hfs52:=δm BK345.out 1
          have hns52_0:=NB338_345.out
          have hms52_0:=NB345_338.out
          have hs53:w50.cell? ⟨gb345,2,none⟩=some (.int .i64 0):=(δl BK345.out 2).trans rfl
          have hfs53:=δm BK345.out 2
          have hns53_0:=NB338_345.out
          have hms53_0:=NB345_338.out
          have hs54:w50.cell? ⟨gb345,3,none⟩=some (.int .i64 0):=(δl BK345.out 3).trans rfl
          have hfs54:=δm BK345.out 3
          have hns54_0:=NB338_345.out
          have hms54_0:=NB345_338.out
          have hs55:w50.cell? ⟨gb345,4,none⟩=some (.int .i64 0):=(δl BK345.out 4).trans rfl
          have hfs55:=δm BK345.out 4
          have hns55_0:=NB338_345.out
          have hms55_0:=NB345_338.out
          have hs56:w50.cell? ⟨gb345,5,none⟩=some (.bool φ):=(δl BK345.out 5).trans rfl
          have hfs56:=δm BK345.out 5
          have hns56_0:=NB338_345.out
          have hms56_0:=NB345_338.out
          refine skip_ (w1:=?_) (by rfl) rfl ?_ ?_
          rotate_left
          ·
           go_simp
           rfl
          refine hK.out _ _ ⟨((δt (p:=⟨gb345,_,none⟩) (by exact ζb (ζf HO_6.out BK345.out (by decide))) _).trans (((δt (p:=⟨gb345,_,none⟩) (by exact ζb (ζf HO_6.out BK345.out (by decide))) _).trans (((δt (p:=⟨gb345,_,none⟩) (by exact ζb (ζf HO_6.out BK345.out (by decide))) _).trans (((δt (p:=⟨gb345,_,none⟩) (by exact ζb (ζf HO_6.out BK345.out (by decide))) _).trans (((δt (p:=⟨gb345,_,none⟩) (by exact ζb (ζf HO_6.out BK345.out (by decide))) _).trans (((δt (p:=⟨gb345,_,none⟩) (by exact ζb (ζf HO_6.out BK345.out (by decide))) _).trans (hHeld.1)))))))))))),((δt (p:=⟨gb345,_,none⟩) (by (dsimp only;exact ζb (ζf HO_6.out BK345.out (by decide)))) _).trans (((δt (p:=⟨gb345,_,none⟩) (by (dsimp only;exact ζb (ζf HO_6.out BK345.out (by decide)))) _).trans (((δt (p:=⟨gb345,_,none⟩) (by (dsimp only;exact ζb (ζf HO_6.out BK345.out (by decide)))) _).trans (((δt (p:=⟨gb345,_,none⟩) (by (dsimp only;exact ζb (ζf HO_6.out BK345.out (by decide)))) _).trans (((δt (p:=⟨gb345,_,none⟩) (by (dsimp only;exact ζb (ζf HO_6.out BK345.out (by decide)))) _).trans (((δt (p:=⟨gb345,_,none⟩) (by (dsimp only;exact ζb (ζf HO_6.out BK345.out (by decide)))) _).trans (hHeld.2))))))))))))⟩ (fun hHeld => ?_)
          clear hK K
          refine done_ (done_of HT_.out (by kernel_rfl)) ?_
          have p346:0≤(1:Int):=(by omega)
          have q346:1<(t339.length:Int):=of_decide_eq_true (by (with_reducible assumption))
          obtain ⟨ad346,e346,hx346_0⟩:=Kd.at_string (ζg HO_6.out).2.2 1 p346 q346
          obtain rfl:ad343=ad346:=(by injection e346)
          (try simp only [show (1:Int).toNat=1 from rfl,Nat.reduceMul,Nat.reduceEqDiff,Go.Addr.add,↓reduceIte] at hx346_0)
          have qi346:(1<t339.length)=True:=eq_true (by omega)
          (try rw [show ((1:Int)).toNat=1 from rfl] at hx346_0)
          have hn346_0:ad343.block≠gb345:=ζb (ζf HO_6.out BK345.out (by decide))
          have hn346_1:ad343.block≠gb345:=ζb (ζf HO_6.out BK345.out (by decide))
          have hn346_2:ad343.block≠gb345:=ζb (ζf HO_6.out BK345.out (by decide))
          have hn346_3:ad343.block≠gb345:=ζb (ζf HO_6.out BK345.out (by decide))
          have hn346_4:ad343.block≠gb345:=ζb (ζf HO_6.out BK345.out (by decide))
          have hn346_5:ad343.block≠gb345:=ζb (ζf HO_6.out BK345.out (by decide))
          replace hx346_0:=(δt (p:=⟨gb345,0,none⟩) (by exact hn346_0) (.string a0)).trans hx346_0
          replace hx346_0:=(δt (p:=⟨gb345,1,none⟩) (by exact hn346_1) (.string (rdOf ByteArray.empty t339 0))).trans hx346_0
          replace hx346_0:=(δt (p:=⟨gb345,2,none⟩) (by exact hn346_2) (.int .i64 0)).trans hx346_0
          replace hx346_0:=(δt (p:=⟨gb345,3,none⟩) (by exact hn346_3) (.int .i64 0)).trans hx346_0
          replace hx346_0:=(δt (p:=⟨gb345,4,none⟩) (by exact hn346_4) (.int .i64 0)).trans hx346_0
          replace hx346_0:=(δt (p:=⟨gb345,5,none⟩) (by exact hn346_5) (.bool ((rdOf ByteArray.empty t339 4).toList == ([111,112,101,110]:List UInt8)))).trans hx346_0
          clear hn346_0
          clear hn346_1
          clear hn346_2
          clear hn346_3
          clear hn346_4
          clear hn346_5
          replace p346:=eq_true p346
          replace q346:=eq_true q346
          try go_wp2_with (first|((with_reducible refine δv (f:=56) rfl ?_);refine gl 35 Tryz.func56 #[.string (rdOf ByteArray.empty t339 1)] ?_;(with_reducible refine (impl_readAmount.calls (rdOf ByteArray.empty t339 1) t347 t348 _ (HT0.out.below (by repeat ((with_reducible first|exact HB.out|refine δq ?_ GE345.out)))) A14.out).mono ?_);rintro e w57 ⟨rfl,hb⟩;refine ⟨_,rfl,?_⟩;replace HO_6:=ζa (ζh (by exact (Kd.R_mono (ζi (p:=⟨gb345,5,none⟩) (ζi (p:=⟨gb345,4,none⟩) (ζi (p:=⟨gb345,3,none⟩) (ζi (p:=⟨gb345,2,none⟩) (ζi (p:=⟨gb345,1,none⟩) (ζi (p:=⟨gb345,0,none⟩) (Kd.R_types HO_6.out BK345.out (by decide)) (fun _ hk=>hk.2) (.string a0)) (fun _ hk=>hk.2) (.string (rdOf ByteArray.empty t339 0))) (fun _ hk=>hk.2) (.int .i64 0)) (fun _ hk=>hk.2) (.int .i64 0)) (fun _ hk=>hk.2) (.int .i64 0)) (fun _ hk=>hk.2) (.bool ((rdOf ByteArray.empty t339 4).toList == ([111,112,101,110]:List UInt8)))) (fun _ h_=>h_.1))) hb);replace BK338:=ζa (blk_below (g:=gb338) (o:=.cells #[.string (⟨#[]⟩:ByteArray),.string (⟨#[]⟩:ByteArray),.int .i64 0,.int .i64 0,.int .i64 0,.bool φ] 46 (0,0)) (by refine blk_far ?_ NB338_345.out _;refine blk_far ?_ NB338_345.out _;refine blk_far ?_ NB338_345.out _;refine blk_far ?_ NB338_345.out _;refine blk_far ?_ NB338_345.out _;refine blk_far ?_ NB338_345.out _;exact BK338.out) hb);replace BK345:=ζa (blk_below (g:=gb345) (o:=.cells #[.string a0,.string (rdOf ByteArray.empty t339 0),.int .i64 0,.int .i64 0,.int .i64 0,.bool ((rdOf ByteArray.empty t339 4).toList == ([111,112,101,110]:List UInt8))] 46 (0,0)) (by refine δw (cs:=#[.string a0,.string (rdOf ByteArray.empty t339 0),.int .i64 0,.int .i64 0,.int .i64 0,.bool φ]) ?_ 5 _ rfl;refine δw (cs:=#[.string a0,.string (rdOf ByteArray.empty t339 0),.int .i64 0,.int .i64 0,.int .i64 0,.bool φ]) ?_ 4 _ rfl;refine δw (cs:=#[.string a0,.string (rdOf ByteArray.empty t339 0),.int .i64 0,.int .i64 0,.int .i64 0,.bool φ]) ?_ 3 _ rfl;refine δw (cs:=#[.string a0,.string (rdOf ByteArray.empty t339 0),.int .i64 0,.int .i64 0,.int .i64 0,.bool φ]) ?_ 2 _ rfl;refine δw (cs:=#[.string a0,.string (⟨#[]⟩:ByteArray),.int .i64 0,.int .i64 0,.int .i64 0,.bool φ]) ?_ 1 _ rfl;refine δw (cs:=#[.string (⟨#[]⟩:ByteArray),.string (⟨#[]⟩:ByteArray),.int .i64 0,.int .i64 0,.int .i64 0,.bool φ]) ?_ 0 _ rfl;exact BK345.out) hb);replace HB:=ζa (δr (by repeat ((with_reducible first|exact HB.out|refine δq ?_ GE345.out))) hb);(try clear hb);(try clear hb2);(try clear hk);(try clear hi);have hnb58:=NB345_338.out;have hnc58:=NB338_345.out;have hcz59_0:w57.cell? ⟨gb345,0,none⟩=some (.string a0):=(δl BK345.out 0).trans rfl;have hcz59_1:w57.cell? ⟨gb345,1,none⟩=some (.string (rdOf ByteArray.empty t339 0)):=(δl BK345.out 1).trans rfl;have hcz59_2:w57.cell? ⟨gb345,2,none⟩=some (.int .i64 0):=(δl BK345.out 2).trans rfl;have hcz59_3:w57.cell? ⟨gb345,3,none⟩=some (.int .i64 0):=(δl BK345.out 3).trans rfl;have hcz59_4:w57.cell? ⟨gb345,4,none⟩=some (.int .i64 0):=(δl BK345.out 4).trans rfl;have hcz59_5:w57.cell? ⟨gb345,5,none⟩=some (.bool ((rdOf ByteArray.empty t339 4).toList == ([111,112,101,110]:List UInt8))):=(δl BK345.out 5).trans rfl;have hfz59_0:=δm BK345.out 0;have hfz59_1:=δm BK345.out 1;have hfz59_2:=δm BK345.out 2;have hfz59_3:=δm BK345.out 3;have hfz59_4:=δm BK345.out 4;have hfz59_5:=δm BK345.out 5;have p349:0≤(2:Int):=(by omega);have q349:2<(t339.length:Int):=of_decide_eq_true (by (with_reducible assumption));obtain ⟨ad349,e349,hx349_0⟩:=Kd.at_string (ζg HO_6.out).2.2 2 p349 q349;obtain rfl:ad343=ad349:=(by injection e349);(try simp only [show (2:Int).toNat=2 from rfl,Nat.reduceMul,Nat.reduceEqDiff,Go.Addr.add,↓reduceIte] at hx349_0);have qi349:(2<t339.length)=True:=eq_true (by omega);(try rw [show ((2:Int)).toNat=2 from rfl] at hx349_0);have hn349_0:ad343.block≠gb345:=ζb (ζf HO_6.out BK345.out (by decide));replace hx349_0:=(δt (p:=⟨gb345,2,none⟩) (by exact hn349_0) (.int .i64 t347)).trans hx349_0;clear hn349_0;replace p349:=eq_true p349;replace q349:=eq_true q349)|((with_reducible refine δv (f:=56) rfl ?_);refine gl 43 Tryz.func56 #[.string (rdOf ByteArray.empty t339 2)] ?_;(with_reducible refine (impl_readAmount.calls (rdOf ByteArray.empty t339 2) t350 t351 _ (HT0.out.below (by repeat ((with_reducible first|exact HB.out|refine δq ?_ GE345.out)))) A16.out).mono ?_);rintro e w60 ⟨rfl,hb⟩;refine ⟨_,rfl,?_⟩;replace HO_6:=ζa (ζh (by exact (Kd.R_mono (ζi (p:=⟨gb345,2,none⟩) (Kd.R_types HO_6.out BK345.out (by decide)) (fun _ hk=>hk.2) (.int .i64 t347)) (fun _ h_=>h_.1))) hb);replace BK338:=ζa (blk_below (g:=gb338) (o:=.cells #[.string (⟨#[]⟩:ByteArray),.string (⟨#[]⟩:ByteArray),.int .i64 0,.int .i64 0,.int .i64 0,.bool φ] 46 (0,0)) (by refine blk_far ?_ NB338_345.out _;exact BK338.out) hb);replace BK345:=ζa (blk_below (g:=gb345) (o:=.cells #[.string a0,.string (rdOf ByteArray.empty t339 0),.int .i64 t347,.int .i64 0,.int .i64 0,.bool ((rdOf ByteArray.empty t339 4).toList == ([111,112,101,110]:List UInt8))] 46 (0,0)) (by refine δw (cs:=#[.string a0,.string (rdOf ByteArray.empty t339 0),.int .i64 0,.int .i64 0,.int .i64 0,.bool ((rdOf ByteArray.empty t339 4).toList == ([111,112,101,110]:List UInt8))]) ?_ 2 _ rfl;exact BK345.out) hb);replace HB:=ζa (δr (by repeat ((with_reducible first|exact HB.out|refine δq ?_ GE345.out))) hb);(try clear hb);(try clear hb2);(try clear hk);(try clear hi);have hcz61_0:w60.cell? ⟨gb345,0,none⟩=some (.string a0):=(δl BK345.out 0).trans rfl;have hcz61_1:w60.cell? ⟨gb345,1,none⟩=some (.string (rdOf ByteArray.empty t339 0)):=(δl BK345.out 1).trans rfl;have hcz61_2:w60.cell? ⟨gb345,2,none⟩=some (.int .i64 t347):=(δl BK345.out 2).trans rfl;have hcz61_3:w60.cell? ⟨gb345,3,none⟩=some (.int .i64 0):=(δl BK345.out 3).trans rfl;have hcz61_4:w60.cell? ⟨gb345,4,none⟩=some (.int .i64 0):=(δl BK345.out 4).trans rfl;have hcz61_5:w60.cell? ⟨gb345,5,none⟩=some (.bool ((rdOf ByteArray.empty t339 4).toList == ([111,112,101,110]:List UInt8))):=(δl BK345.out 5).trans rfl;have hfz61_0:=δm BK345.out 0;have hfz61_1:=δm BK345.out 1;have hfz61_2:=δm BK345.out 2;have hfz61_3:=δm BK345.out 3;have hfz61_4:=δm BK345.out 4;have hfz61_5:=δm BK345.out 5;have p352:0≤(3:Int):=(by omega);have q352:3<(t339.length:Int):=of_decide_eq_true (by (with_reducible assumption));obtain ⟨ad352,e352,hx352_0⟩:=Kd.at_string (ζg HO_6.out).2.2 3 p352 q352;obtain rfl:ad343=ad352:=(by injection e352);(try simp only [show (3:Int).toNat=3 from rfl,Nat.reduceMul,Nat.reduceEqDiff,Go.Addr.add,↓reduceIte] at hx352_0);have qi352:(3<t339.length)=True:=eq_true (by omega);(try rw [show ((3:Int)).toNat=3 from rfl] at hx352_0);have hn352_0:ad343.block≠gb345:=ζb (ζf HO_6.out BK345.out (by decide));replace hx352_0:=(δt (p:=⟨gb345,3,none⟩) (by exact hn352_0) (.int .i64 t350)).trans hx352_0;clear hn352_0;replace p352:=eq_true p352;replace q352:=eq_true q352)|((with_reducible refine δv (f:=56) rfl ?_);refine gl 51 Tryz.func56 #[.string (rdOf ByteArray.empty t339 3)] ?_;(with_reducible refine (impl_readAmount.calls (rdOf ByteArray.empty t339 3) t353 t354 _ (HT0.out.below (by repeat ((with_reducible first|exact HB.out|refine δq ?_ GE345.out)))) A18.out).mono ?_);rintro e w62 ⟨rfl,hb⟩;refine ⟨_,rfl,?_⟩;replace HO_6:=ζa (ζh (by exact (Kd.R_mono (ζi (p:=⟨gb345,3,none⟩) (Kd.R_types HO_6.out BK345.out (by decide)) (fun _ hk=>hk.2) (.int .i64 t350)) (fun _ h_=>h_.1))) hb);replace BK338:=ζa (blk_below (g:=gb338) (o:=.cells #[.string (⟨#[]⟩:ByteArray),.string (⟨#[]⟩:ByteArray),.int .i64 0,.int .i64 0,.int .i64 0,.bool φ] 46 (0,0)) (by refine blk_far ?_ NB338_345.out _;exact BK338.out) hb);replace BK345:=ζa (blk_below (g:=gb345) (o:=.cells #[.string a0,.string (rdOf ByteArray.empty t339 0),.int .i64 t347,.int .i64 t350,.int .i64 0,.bool ((rdOf ByteArray.empty t339 4).toList == ([111,112,101,110]:List UInt8))] 46 (0,0)) (by refine δw (cs:=#[.string a0,.string (rdOf ByteArray.empty t339 0),.int .i64 t347,.int .i64 0,.int .i64 0,.bool ((rdOf ByteArray.empty t339 4).toList == ([111,112,101,110]:List UInt8))]) ?_ 3 _ rfl;exact BK345.out) hb);replace HB:=ζa (δr (by repeat ((with_reducible first|exact HB.out|refine δq ?_ GE345.out))) hb);(try clear hb);(try clear hb2);(try clear hk);(try clear hi);have hcz63_0:w62.cell? ⟨gb345,0,none⟩=some (.string a0):=(δl BK345.out 0).trans rfl;have hcz63_1:w62.cell? ⟨gb345,1,none⟩=some (.string (rdOf ByteArray.empty t339 0)):=(δl BK345.out 1).trans rfl;have hcz63_2:w62.cell? ⟨gb345,2,none⟩=some (.int .i64 t347):=(δl BK345.out 2).trans rfl;have hcz63_3:w62.cell? ⟨gb345,3,none⟩=some (.int .i64 t350):=(δl BK345.out 3).trans rfl;have hcz63_4:w62.cell? ⟨gb345,4,none⟩=some (.int .i64 0):=(δl BK345.out 4).trans rfl;have hcz63_5:w62.cell? ⟨gb345,5,none⟩=some (.bool ((rdOf ByteArray.empty t339 4).toList == ([111,112,101,110]:List UInt8))):=(δl BK345.out 5).trans rfl;have hfz63_0:=δm BK345.out 0;have hfz63_1:=δm BK345.out 1;have hfz63_2:=δm BK345.out 2;have hfz63_3:=δm BK345.out 3;have hfz63_4:=δm BK345.out 4;have hfz63_5:=δm BK345.out 5))
          have n0_:Aside0 (Kd.R Kd.string 9 (w62.setCell ⟨gb345,4,none⟩ (.int .i64 t353)) w.heap.size (fun _=>True) (.slice (some ad343) t339.length co49) t339):=⟨by exact Kd.R_mono (ζi (p:=⟨gb345,4,none⟩) (Kd.R_types HO_6.out BK345.out (by decide)) (fun _ hk=>hk.2) (.int .i64 t353)) (fun _ hk=>trivial)⟩
          have n1_:Aside0 ((w62.setCell ⟨gb345,4,none⟩ (.int .i64 t353)).heap[gb338]? = some (.cells #[.string (⟨#[]⟩:ByteArray),.string (⟨#[]⟩:ByteArray),.int .i64 0,.int .i64 0,.int .i64 0,.bool φ] 46 (0,0))):=⟨by refine blk_far ?_ NB338_345.out _;exact BK338.out⟩
          have n2_:Aside0 ((w62.setCell ⟨gb345,4,none⟩ (.int .i64 t353)).heap[gb345]? = some (.cells #[.string a0,.string (rdOf ByteArray.empty t339 0),.int .i64 t347,.int .i64 t350,.int .i64 t353,.bool ((rdOf ByteArray.empty t339 4).toList == ([111,112,101,110]:List UInt8))] 46 (0,0))):=⟨by refine δw (cs:=#[.string a0,.string (rdOf ByteArray.empty t339 0),.int .i64 t347,.int .i64 t350,.int .i64 0,.bool ((rdOf ByteArray.empty t339 4).toList == ([111,112,101,110]:List UInt8))]) ?_ 4 _ rfl;exact BK345.out⟩
          have n3_:Aside0 (Below w.heap.size w (w62.setCell ⟨gb345,4,none⟩ (.int .i64 t353))):=⟨by repeat ((with_reducible first|exact HB.out|refine δq ?_ GE345.out))⟩
          (try clear HO_6)
          (try clear BK338)
          (try clear BK345)
          (try clear HB)
          generalize (w62.setCell ⟨gb345,4,none⟩ (.int .i64 t353))=w64 at n0_ n1_ n2_ n3_ ⊢
          have HO_6:=n0_
          have BK338:=n1_
          have BK345:=n2_
          have HB:=n3_
          clear n0_ n1_ n2_ n3_
          replace HO_6:=ζa (ζe HO_6.out)
          replace BK338:=ζa (δp BK338.out)
          replace BK345:=ζa (δp BK345.out)
          replace HB:=ζa (δj HB.out)
          refine sta 11 (fun w'=>w'.cell? ⟨gb345,0,none⟩=some (.string a0)∧w'.cell? ⟨gb345,1,none⟩=some (.string (rdOf ByteArray.empty t339 0))∧w'.cell? ⟨gb345,2,none⟩=some (.int .i64 t347)∧w'.cell? ⟨gb345,3,none⟩=some (.int .i64 t350)∧w'.cell? ⟨gb345,4,none⟩=some (.int .i64 t353)∧w'.cell? ⟨gb345,5,none⟩=some (.bool ((rdOf ByteArray.empty t339 4).toList == ([111,112,101,110]:List UInt8)))) [] impl_orderOf.tab8 impl_orderOf.bits8 ⟨(δl BK345.out 0).trans rfl,(δl BK345.out 1).trans rfl,(δl BK345.out 2).trans rfl,(δl BK345.out 3).trans rfl,(δl BK345.out 4).trans rfl,(δl BK345.out 5).trans rfl⟩ (fun hHeld HT_ HW_ => ?_)
          generalize w64.drew=w65 at HO_6 BK338 BK345 HB hHeld ⊢
          refine ta 0 55 ?_
          refine ta 1 56 ?_
          refine on 2 57 (fun K hK => ?_)
          refine gs Tryz.func89 #[.agg #[.string a0,.string (rdOf ByteArray.empty t339 0),.int .i64 t347,.int .i64 t350,.int .i64 t353,.bool ((rdOf ByteArray.empty t339 4).toList == ([111,112,101,110]:List UInt8))]] ?_
          with_reducible refine (impl_OrderOK.calls kj3 a0 (rdOf ByteArray.empty t339 0) t347 t350 t353 ((rdOf ByteArray.empty t339 4).toList == ([111,112,101,110]:List UInt8)) φ _ A19.out).mono ?_
          rintro e w66 ⟨rfl,hb⟩
          refine ⟨_,rfl,?_⟩
          replace HO_6:=ζa (ζh (by exact HO_6.out) hb)
          replace BK338:=ζa (blk_below (g:=gb338) (o:=.cells #[.string (⟨#[]⟩:ByteArray),.string (⟨#[]⟩:ByteArray),.int .i64 0,.int .i64 0,.int .i64 0,.bool φ] 46 (0,0)) (by exact BK338.out) hb)
          replace BK345:=ζa (blk_below (g:=gb345) (o:=.cells #[.string a0,.string (rdOf ByteArray.empty t339 0),.int .i64 t347,.int .i64 t350,.int .i64 t353,.bool ((rdOf ByteArray.empty t339 4).toList == ([111,112,101,110]:List UInt8))] 46 (0,0)) (by exact BK345.out) hb)
          replace HB:=ζa (δr (by exact HB.out) hb)
          (try clear hb)
          (try clear hb2)
          (try clear hk)
          (try clear hi)
          refine hK.out _ _ ⟨(δl BK345.out 0).trans rfl,(δl BK345.out 1).trans rfl,(δl BK345.out 2).trans rfl,(δl BK345.out 3).trans rfl,(δl BK345.out 4).trans rfl,(δl BK345.out 5).trans rfl⟩ (fun hHeld => ?_)
          clear hK K
          refine nm 57 ?_
          refine pu 3 58 ?_
          refine ζk (i:=4) (N:=some 59) (v:=undef) (a':=?_) #[τ,τ,τ,τ,τ,φ,φ,φ,φ,φ,φ] rfl rfl (ζj HT_.out (by kernel_rfl)) (fun _ _ _ h=>h) (Or.inr ⟨by rfl,rfl⟩) ?_ ?_
          rotate_left
          · simp only [ζl,δa,δb,δc,i64_w,i32_w];rfl
          refine ζk (i:=5) (N:=some 60) (v:=undef) (a':=?_) #[τ,τ,τ,τ,τ,τ,φ,φ,φ,φ,φ] rfl rfl (ζj HT_.out (by kernel_rfl)) (fun _ _ _ h=>h) (Or.inr ⟨by rfl,rfl⟩) ?_ ?_
          rotate_left
          · simp only [ζl,δa,δb,δc,i64_w,i32_w];rfl
          refine ζk (i:=6) (N:=some 61) (v:=undef) (a':=?_) #[τ,τ,τ,τ,τ,τ,τ,φ,φ,φ,φ] rfl rfl (ζj HT_.out (by kernel_rfl)) (fun _ _ _ h=>h) (Or.inr ⟨by rfl,rfl⟩) ?_ ?_
          rotate_left
          · simp only [ζl,δa,δb,δc,i64_w,i32_w];rfl
          refine ζk (i:=7) (N:=some 62) (v:=undef) (a':=?_) #[τ,τ,τ,τ,τ,τ,τ,τ,φ,φ,φ] rfl rfl (ζj HT_.out (by kernel_rfl)) (fun _ _ _ h=>h) (Or.inr ⟨by rfl,rfl⟩) ?_ ?_
          rotate_left
          · simp only [ζl,δa,δb,δc,i64_w,i32_w];rfl
          refine pu 8 63 ?_
          refine one_ (i:=9) (N:=none) #[τ,τ,τ,τ,τ,τ,τ,τ,τ,τ,φ] rfl rfl (one_of HT_.out (by kernel_rfl)) (by decide) (fun K hK => ?_)
          have hs67:w66.cell? ⟨gb338,0,none⟩=some (.string (⟨#[]⟩:ByteArray)):=(δl BK338.out 0).trans rfl
          have hfs67:=δm BK338.out 0
          have hns67_1:=NB345_338.out
          have hms67_1:=NB338_345.out
          have hs68:w66.cell? ⟨gb338,1,none⟩=some (.string (⟨#[]⟩:ByteArray)):=(δl BK338.out 1).trans rfl
          have hfs68:=δm BK338.out 1
          have hns68_1:=NB345_338.out
          have hms68_1:=NB338_345.out
          have hs69:w66.cell? ⟨gb338,2,none⟩=some (.int .i64 0):=(δl BK338.out 2).trans rfl
          have hfs69:=δm BK338.out 2
          have hns69_1:=NB345_338.out
          have hms69_1:=NB338_345.out
          have hs70:w66.cell? ⟨gb338,3,none⟩=some (.int .i64 0):=(δl BK338.out 3).trans rfl
          have hfs70:=δm BK338.out 3
          have hns70_1:=NB345_338.out
          have hms70_1:=NB338_345.out
          have hs71:w66.cell? ⟨gb338,4,none⟩=some (.int .i64 0):=(δl BK338.out 4).trans rfl
          have hfs71:=δm BK338.out 4
          have hns71_1:=NB345_338.out
          have hms71_1:=NB338_345.out
          have hs72:w66.cell? ⟨gb338,5,none⟩=some (.bool φ):=(δl BK338.out 5).trans rfl
          have hfs72:=δm BK338.out 5
          have hns72_1:=NB345_338.out
          have hms72_1:=NB338_345.out
          refine skip_ (w1:=?_) (by rfl) rfl ?_ ?_
          rotate_left
          ·
           go_simp
           rfl
          refine hK.out _ _ ⟨((δt (p:=⟨gb338,_,none⟩) NB345_338.out _).trans (((δt (p:=⟨gb338,_,none⟩) NB345_338.out _).trans (((δt (p:=⟨gb338,_,none⟩) NB345_338.out _).trans (((δt (p:=⟨gb338,_,none⟩) NB345_338.out _).trans (((δt (p:=⟨gb338,_,none⟩) NB345_338.out _).trans (((δt (p:=⟨gb338,_,none⟩) NB345_338.out _).trans (hHeld.1)))))))))))),((δt (p:=⟨gb338,_,none⟩) NB345_338.out _).trans (((δt (p:=⟨gb338,_,none⟩) NB345_338.out _).trans (((δt (p:=⟨gb338,_,none⟩) NB345_338.out _).trans (((δt (p:=⟨gb338,_,none⟩) NB345_338.out _).trans (((δt (p:=⟨gb338,_,none⟩) NB345_338.out _).trans (((δt (p:=⟨gb338,_,none⟩) NB345_338.out _).trans (hHeld.2.1)))))))))))),((δt (p:=⟨gb338,_,none⟩) NB345_338.out _).trans (((δt (p:=⟨gb338,_,none⟩) NB345_338.out _).trans (((δt (p:=⟨gb338,_,none⟩) NB345_338.out _).trans (((δt (p:=⟨gb338,_,none⟩) NB345_338.out _).trans (((δt (p:=⟨gb338,_,none⟩) NB345_338.out _).trans (((δt (p:=⟨gb338,_,none⟩) NB345_338.out _).trans (hHeld.2.2.1)))))))))))),((δt (p:=⟨gb338,_,none⟩) NB345_338.out _).trans (((δt (p:=⟨gb338,_,none⟩) NB345_338.out _).trans (((δt (p:=⟨gb338,_,none⟩) NB345_338.out _).trans (((δt (p:=⟨gb338,_,none⟩) NB345_338.out _).trans (((δt (p:=⟨gb338,_,none⟩) NB345_338.out _).trans (((δt (p:=⟨gb338,_,none⟩) NB345_338.out _).trans (hHeld.2.2.2.1)))))))))))),((δt (p:=⟨gb338,_,none⟩) NB345_338.out _).trans (((δt (p:=⟨gb338,_,none⟩) NB345_338.out _).trans (((δt (p:=⟨gb338,_,none⟩) NB345_338.out _).trans (((δt (p:=⟨gb338,_,none⟩) NB345_338.out _).trans (((δt (p:=⟨gb338,_,none⟩) NB345_338.out _).trans (((δt (p:=⟨gb338,_,none⟩) NB345_338.out _).trans (hHeld.2.2.2.2.1)))))))))))),((δt (p:=⟨gb338,_,none⟩) NB345_338.out _).trans (((δt (p:=⟨gb338,_,none⟩) NB345_338.out _).trans (((δt (p:=⟨gb338,_,none⟩) NB345_338.out _).trans (((δt (p:=⟨gb338,_,none⟩) NB345_338.out _).trans (((δt (p:=⟨gb338,_,none⟩) NB345_338.out _).trans (((δt (p:=⟨gb338,_,none⟩) NB345_338.out _).trans (hHeld.2.2.2.2.2))))))))))))⟩ (fun hHeld => ?_)
          clear hK K
          refine pu 10 5 ?_
          refine done_ (done_of HT_.out (by kernel_rfl)) ?_
          try go_wp2
          refine bodyPost_ret (results_ct rfl _ _ gb338 46 #[.string a0,.string (rdOf ByteArray.empty t339 0),.int .i64 t347,.int .i64 t350,.int .i64 t353,.bool ((rdOf ByteArray.empty t339 4).toList == ([111,112,101,110]:List UInt8))] (0,0) _ rfl (by refine δw (cs:=#[.string a0,.string (rdOf ByteArray.empty t339 0),.int .i64 t347,.int .i64 t350,.int .i64 t353,.bool φ]) ?_ 5 _ rfl;refine δw (cs:=#[.string a0,.string (rdOf ByteArray.empty t339 0),.int .i64 t347,.int .i64 t350,.int .i64 0,.bool φ]) ?_ 4 _ rfl;refine δw (cs:=#[.string a0,.string (rdOf ByteArray.empty t339 0),.int .i64 t347,.int .i64 0,.int .i64 0,.bool φ]) ?_ 3 _ rfl;refine δw (cs:=#[.string a0,.string (rdOf ByteArray.empty t339 0),.int .i64 0,.int .i64 0,.int .i64 0,.bool φ]) ?_ 2 _ rfl;refine δw (cs:=#[.string a0,.string (⟨#[]⟩:ByteArray),.int .i64 0,.int .i64 0,.int .i64 0,.bool φ]) ?_ 1 _ rfl;refine δw (cs:=#[.string (⟨#[]⟩:ByteArray),.string (⟨#[]⟩:ByteArray),.int .i64 0,.int .i64 0,.int .i64 0,.bool φ]) ?_ 0 _ rfl;exact BK338.out) Tryz.underlying46 rfl (by kernel_rfl)) rfl ?_
          exact ⟨by rfl,by repeat ((with_reducible first|exact HB.out|refine δq ?_ GE338.out))⟩
        ·
         rw [if_neg c17] at H
         exact absurd H (by simp)
       ·
        rw [if_neg c15] at H
        exact absurd H (by simp)
      ·
       rw [if_neg c13] at H
       exact absurd H (by simp)
     ·
      rw [if_neg c12] at H
      exact absurd H (by simp)
    ·
     rw [if_neg c11] at H
     exact absurd H (by simp)


open Go.Proofs.YtjhhehjjnfnigaaGreatDoorW.PrintWords renaming gate_dst → δx, below_step → δr, gate_callee → δv, blk_drewN → δn, pw_below_drewN → δi, blk_cell → δl, blk_frozen → δm, blk_put → δw, below_set → δq
set_option maxHeartbeats 8000000
set_option maxRecDepth 100000

/-! ### impl_orderAt: function 32 -/
def impl_orderAt.f (k:Nat) (l0:List (S37)) (a1:ByteArray):Option (ByteArray × ByteArray × Int × Int × Int × Bool × Bool):=(impl_orderKey.f a1).bind fun t358=>((impl_get.f k l0 t358).bind fun bt359=>((impl_orderOf.f k a1 bt359.1).bind fun bt361=>(if bt359.2=τ then (some (bt361.1,bt361.2.1,bt361.2.2.1,bt361.2.2.2.1,bt361.2.2.2.2.1,bt361.2.2.2.2.2.1,bt361.2.2.2.2.2.2)) else (some (bt361.1,bt361.2.1,bt361.2.2.1,bt361.2.2.2.1,bt361.2.2.2.2.1,bt361.2.2.2.2.2.1,φ)))))
theorem impl_orderAt.calls (k:Nat) (A0:Option Addr) (c0:Nat) (l0:List (S37)) (a1:ByteArray) (r1:ByteArray) (r2:ByteArray) (r3:Int) (r4:Int) (r5:Int) (r6:Bool) (r7:Bool) (w:World) (hr0:Kd.C k37 w A0 l0.length l0) (hc0:l0.length≤c0) (hT0:TabsOK w) (h:impl_orderAt.f k l0 a1=some (r1,r2,r3,r4,r5,r6,r7)) :
  Calls Tryz.prog 32 #[.slice A0 l0.length c0,.string a1] w fun e w'=>e = .returned (.tuple #[.agg #[.string r1,.string r2,.int .i64 r3,.int .i64 r4,.int .i64 r5,.bool r6],.bool r7])∧Below w.heap.size w w':=by
 have HT0:=ζa hT0
 clear hT0
 have hu46:=Tryz.underlying46
 have HR0:=ζa hr0
 have HC0:=ζa hc0
 clear hr0 hc0
 have HB:=ζa (Below.refl w.heap.size w)
 have H:((impl_orderKey.f a1).bind fun t358=>((impl_get.f k l0 t358).bind fun bt359=>((impl_orderOf.f k a1 bt359.1).bind fun bt361=>(if bt359.2=τ then (some (bt361.1,bt361.2.1,bt361.2.2.1,bt361.2.2.2.1,bt361.2.2.2.2.1,bt361.2.2.2.2.2.1,bt361.2.2.2.2.2.2)) else (some (bt361.1,bt361.2.1,bt361.2.2.1,bt361.2.2.2.1,bt361.2.2.2.2.1,bt361.2.2.2.2.2.1,φ))))))=some (r1,r2,r3,r4,r5,r6,r7):=h
 clear h
 obtain ⟨t358,A3,H⟩:=bsm H
 obtain ⟨⟨t359,t360⟩,A4,H⟩:=bsm H
 dsimp only at H
 obtain ⟨⟨t361,t362,t363,t364,t365,t366,t367⟩,A5,H⟩:=bsm H
 dsimp only at H
 by_cases c6:t360=τ
 ·
  subst c6
  rw [ifT] at H
  simp only [Option.some.injEq,Prod.mk.injEq] at H
  obtain ⟨rfl,rfl,rfl,rfl,rfl,rfl,rfl⟩:=H
  go_enter Tryz.func32,Tryz.ntmps32
  go_wp2_with (first|((with_reducible refine δx (N:=4) rfl ?_);refine bev 4 #[.string (⟨#[]⟩:ByteArray),.string (⟨#[]⟩:ByteArray),.int .i64 0,.int .i64 0,.int .i64 0,.bool φ] 46 ?_;intro gb357 hg w7 hbox hb;have BK357:=ζa (hbox);have GW357:=ζa (gbw hg (by exact HB.out));have GE357:=ζa (gbw hg (by exact HB.out));replace HB:=ζa (δr (by exact HB.out) hb);clear hb hbox hg)|((with_reducible refine δv (f:=59) rfl ?_);refine gl 13 Tryz.func59 #[.string a1] ?_;(with_reducible refine (impl_orderKey.calls a1 t358 _ A3.out).mono ?_);rintro e w' ⟨rfl,⟨nd,rfl⟩⟩;refine ⟨_,rfl,?_⟩;(try (rw [drewN_self w7];generalize hq_:World.drewN w7 _=w7;have n0_:Aside0 (w7.heap[gb357]? = some (.cells #[.string (⟨#[]⟩:ByteArray),.string (⟨#[]⟩:ByteArray),.int .i64 0,.int .i64 0,.int .i64 0,.bool φ] 46 (0,0))):=⟨by rw [← hq_];exact (by (with_reducible repeat (refine δn ?_ _));exact BK357.out)⟩;have n1_:Aside0 (Below w.heap.size w w7):=⟨by rw [← hq_];exact (by repeat ((with_reducible first|exact HB.out|apply δi)))⟩;clear BK357 HB hq_;have BK357:=n0_;have HB:=n1_;clear n0_ n1_)))|((with_reducible refine δv (f:=58) rfl ?_);refine gl 14 Tryz.func58 #[.slice A0 l0.length c0,.string t358] ?_;(with_reducible refine (impl_get.calls k _ _ l0 t358 t359 τ _ ?side1 ?side2 A4.out).mono ?_);(case side1=>repeat (exact (Kd.C_below HR0.out HB.out)));(case side2=>exact HC0.out);rintro e w8 ⟨rfl,hb⟩;refine ⟨_,rfl,?_⟩;replace BK357:=ζa (blk_below (g:=gb357) (o:=.cells #[.string (⟨#[]⟩:ByteArray),.string (⟨#[]⟩:ByteArray),.int .i64 0,.int .i64 0,.int .i64 0,.bool φ] 46 (0,0)) (by exact BK357.out) hb);replace HB:=ζa (δr (by exact HB.out) hb);(try clear hb);(try clear hb2);(try clear hk);(try clear hi))|((with_reducible refine δv (f:=60) rfl ?_);refine gl 20 Tryz.func60 #[.string a1,.string t359] ?_;(with_reducible refine (impl_orderOf.calls k a1 t359 t361 t362 t363 t364 t365 t366 t367 _ (HT0.out.below (by exact HB.out)) A5.out).mono ?_);rintro e w9 ⟨rfl,hb⟩;refine ⟨_,rfl,?_⟩;replace BK357:=ζa (blk_below (g:=gb357) (o:=.cells #[.string (⟨#[]⟩:ByteArray),.string (⟨#[]⟩:ByteArray),.int .i64 0,.int .i64 0,.int .i64 0,.bool φ] 46 (0,0)) (by exact BK357.out) hb);replace HB:=ζa (δr (by exact HB.out) hb);(try clear hb);(try clear hb2);(try clear hk);(try clear hi))|((with_reducible refine δx (N:=8) rfl ?_);refine bev 8 #[.string (⟨#[]⟩:ByteArray),.string (⟨#[]⟩:ByteArray),.int .i64 0,.int .i64 0,.int .i64 0,.bool φ] 46 ?_;intro gb368 hg w10 hbox hb;have BK368:=ζa (hbox);have GW368:=ζa (gbw hg (by exact HB.out));have GE368:=ζa (gbw hg (by exact HB.out));replace HB:=ζa (δr (by exact HB.out) hb);have NB357_368:=ζa ((by rw [hg];exact Nat.ne_of_lt (blk_lt (g:=gb357) (o:=.cells #[.string (⟨#[]⟩:ByteArray),.string (⟨#[]⟩:ByteArray),.int .i64 0,.int .i64 0,.int .i64 0,.bool φ] 46 (0,0)) (by exact BK357.out)):gb357≠gb368));have NB368_357:=ζa ((by rw [hg];exact Nat.ne_of_gt (blk_lt (g:=gb357) (o:=.cells #[.string (⟨#[]⟩:ByteArray),.string (⟨#[]⟩:ByteArray),.int .i64 0,.int .i64 0,.int .i64 0,.bool φ] 46 (0,0)) (by exact BK357.out)):gb368≠gb357));replace BK357:=ζa (blk_below (g:=gb357) (o:=.cells #[.string (⟨#[]⟩:ByteArray),.string (⟨#[]⟩:ByteArray),.int .i64 0,.int .i64 0,.int .i64 0,.bool φ] 46 (0,0)) (by exact BK357.out) hb);clear hb hbox hg;have hnb11:=NB368_357.out;have hnc11:=NB357_368.out;have hcz12_0:w10.cell? ⟨gb368,0,none⟩=some (.string (⟨#[]⟩:ByteArray)):=(δl BK368.out 0).trans rfl;have hcz12_1:w10.cell? ⟨gb368,1,none⟩=some (.string (⟨#[]⟩:ByteArray)):=(δl BK368.out 1).trans rfl;have hcz12_2:w10.cell? ⟨gb368,2,none⟩=some (.int .i64 0):=(δl BK368.out 2).trans rfl;have hcz12_3:w10.cell? ⟨gb368,3,none⟩=some (.int .i64 0):=(δl BK368.out 3).trans rfl;have hcz12_4:w10.cell? ⟨gb368,4,none⟩=some (.int .i64 0):=(δl BK368.out 4).trans rfl;have hcz12_5:w10.cell? ⟨gb368,5,none⟩=some (.bool φ):=(δl BK368.out 5).trans rfl;have hfz12_0:=δm BK368.out 0;have hfz12_1:=δm BK368.out 1;have hfz12_2:=δm BK368.out 2;have hfz12_3:=δm BK368.out 3;have hfz12_4:=δm BK368.out 4;have hfz12_5:=δm BK368.out 5;have hcz13_0:w10.cell? ⟨gb357,0,none⟩=some (.string (⟨#[]⟩:ByteArray)):=(δl BK357.out 0).trans rfl;have hcz13_1:w10.cell? ⟨gb357,1,none⟩=some (.string (⟨#[]⟩:ByteArray)):=(δl BK357.out 1).trans rfl;have hcz13_2:w10.cell? ⟨gb357,2,none⟩=some (.int .i64 0):=(δl BK357.out 2).trans rfl;have hcz13_3:w10.cell? ⟨gb357,3,none⟩=some (.int .i64 0):=(δl BK357.out 3).trans rfl;have hcz13_4:w10.cell? ⟨gb357,4,none⟩=some (.int .i64 0):=(δl BK357.out 4).trans rfl;have hcz13_5:w10.cell? ⟨gb357,5,none⟩=some (.bool φ):=(δl BK357.out 5).trans rfl;have hfz13_0:=δm BK357.out 0;have hfz13_1:=δm BK357.out 1;have hfz13_2:=δm BK357.out 2;have hfz13_3:=δm BK357.out 3;have hfz13_4:=δm BK357.out 4;have hfz13_5:=δm BK357.out 5))
  refine bodyPost_ret (results_ct rfl _ _ gb357 46 #[.string t361,.string t362,.int .i64 t363,.int .i64 t364,.int .i64 t365,.bool t366] (0,0) _ rfl (by refine δw (cs:=#[.string t361,.string t362,.int .i64 t363,.int .i64 t364,.int .i64 t365,.bool φ]) ?_ 5 _ rfl;refine δw (cs:=#[.string t361,.string t362,.int .i64 t363,.int .i64 t364,.int .i64 0,.bool φ]) ?_ 4 _ rfl;refine δw (cs:=#[.string t361,.string t362,.int .i64 t363,.int .i64 0,.int .i64 0,.bool φ]) ?_ 3 _ rfl;refine δw (cs:=#[.string t361,.string t362,.int .i64 0,.int .i64 0,.int .i64 0,.bool φ]) ?_ 2 _ rfl;refine δw (cs:=#[.string t361,.string (⟨#[]⟩:ByteArray),.int .i64 0,.int .i64 0,.int .i64 0,.bool φ]) ?_ 1 _ rfl;refine δw (cs:=#[.string (⟨#[]⟩:ByteArray),.string (⟨#[]⟩:ByteArray),.int .i64 0,.int .i64 0,.int .i64 0,.bool φ]) ?_ 0 _ rfl;refine blk_far ?_ NB357_368.out _;refine blk_far ?_ NB357_368.out _;refine blk_far ?_ NB357_368.out _;refine blk_far ?_ NB357_368.out _;refine blk_far ?_ NB357_368.out _;refine blk_far ?_ NB357_368.out _;exact BK357.out) Tryz.underlying46 rfl (by kernel_rfl)) rfl ?_
  exact ⟨by rfl,by repeat ((with_reducible first|exact HB.out|refine δq ?_ GE357.out|refine δq ?_ GE368.out))⟩
 ·
  replace c6:=Bool.eq_false_iff.mpr c6
  subst c6
  rw [ifF] at H
  simp only [Option.some.injEq,Prod.mk.injEq] at H
  obtain ⟨rfl,rfl,rfl,rfl,rfl,rfl,rfl⟩:=H
  go_enter Tryz.func32,Tryz.ntmps32
  go_wp2_with (first|((with_reducible refine δx (N:=4) rfl ?_);refine bev 4 #[.string (⟨#[]⟩:ByteArray),.string (⟨#[]⟩:ByteArray),.int .i64 0,.int .i64 0,.int .i64 0,.bool φ] 46 ?_;intro gb357 hg w14 hbox hb;have BK357:=ζa (hbox);have GW357:=ζa (gbw hg (by exact HB.out));have GE357:=ζa (gbw hg (by exact HB.out));replace HB:=ζa (δr (by exact HB.out) hb);clear hb hbox hg)|((with_reducible refine δv (f:=59) rfl ?_);refine gl 13 Tryz.func59 #[.string a1] ?_;(with_reducible refine (impl_orderKey.calls a1 t358 _ A3.out).mono ?_);rintro e w' ⟨rfl,⟨nd,rfl⟩⟩;refine ⟨_,rfl,?_⟩;(try (rw [drewN_self w14];generalize hq_:World.drewN w14 _=w14;have n0_:Aside0 (w14.heap[gb357]? = some (.cells #[.string (⟨#[]⟩:ByteArray),.string (⟨#[]⟩:ByteArray),.int .i64 0,.int .i64 0,.int .i64 0,.bool φ] 46 (0,0))):=⟨by rw [← hq_];exact (by (with_reducible repeat (refine δn ?_ _));exact BK357.out)⟩;have n1_:Aside0 (Below w.heap.size w w14):=⟨by rw [← hq_];exact (by repeat ((with_reducible first|exact HB.out|apply δi)))⟩;clear BK357 HB hq_;have BK357:=n0_;have HB:=n1_;clear n0_ n1_)))|((with_reducible refine δv (f:=58) rfl ?_);refine gl 14 Tryz.func58 #[.slice A0 l0.length c0,.string t358] ?_;(with_reducible refine (impl_get.calls k _ _ l0 t358 t359 φ _ ?side1 ?side2 A4.out).mono ?_);(case side1=>repeat (exact (Kd.C_below HR0.out HB.out)));(case side2=>exact HC0.out);rintro e w15 ⟨rfl,hb⟩;refine ⟨_,rfl,?_⟩;replace BK357:=ζa (blk_below (g:=gb357) (o:=.cells #[.string (⟨#[]⟩:ByteArray),.string (⟨#[]⟩:ByteArray),.int .i64 0,.int .i64 0,.int .i64 0,.bool φ] 46 (0,0)) (by exact BK357.out) hb);replace HB:=ζa (δr (by exact HB.out) hb);(try clear hb);(try clear hb2);(try clear hk);(try clear hi))|((with_reducible refine δv (f:=60) rfl ?_);refine gl 20 Tryz.func60 #[.string a1,.string t359] ?_;(with_reducible refine (impl_orderOf.calls k a1 t359 t361 t362 t363 t364 t365 t366 t367 _ (HT0.out.below (by exact HB.out)) A5.out).mono ?_);rintro e w16 ⟨rfl,hb⟩;refine ⟨_,rfl,?_⟩;replace BK357:=ζa (blk_below (g:=gb357) (o:=.cells #[.string (⟨#[]⟩:ByteArray),.string (⟨#[]⟩:ByteArray),.int .i64 0,.int .i64 0,.int .i64 0,.bool φ] 46 (0,0)) (by exact BK357.out) hb);replace HB:=ζa (δr (by exact HB.out) hb);(try clear hb);(try clear hb2);(try clear hk);(try clear hi))|((with_reducible refine δx (N:=8) rfl ?_);refine bev 8 #[.string (⟨#[]⟩:ByteArray),.string (⟨#[]⟩:ByteArray),.int .i64 0,.int .i64 0,.int .i64 0,.bool φ] 46 ?_;intro gb368 hg w17 hbox hb;have BK368:=ζa (hbox);have GW368:=ζa (gbw hg (by exact HB.out));have GE368:=ζa (gbw hg (by exact HB.out));replace HB:=ζa (δr (by exact HB.out) hb);have NB357_368:=ζa ((by rw [hg];exact Nat.ne_of_lt (blk_lt (g:=gb357) (o:=.cells #[.string (⟨#[]⟩:ByteArray),.string (⟨#[]⟩:ByteArray),.int .i64 0,.int .i64 0,.int .i64 0,.bool φ] 46 (0,0)) (by exact BK357.out)):gb357≠gb368));have NB368_357:=ζa ((by rw [hg];exact Nat.ne_of_gt (blk_lt (g:=gb357) (o:=.cells #[.string (⟨#[]⟩:ByteArray),.string (⟨#[]⟩:ByteArray),.int .i64 0,.int .i64 0,.int .i64 0,.bool φ] 46 (0,0)) (by exact BK357.out)):gb368≠gb357));replace BK357:=ζa (blk_below (g:=gb357) (o:=.cells #[.string (⟨#[]⟩:ByteArray),.string (⟨#[]⟩:ByteArray),.int .i64 0,.int .i64 0,.int .i64 0,.bool φ] 46 (0,0)) (by exact BK357.out) hb);clear hb hbox hg;have hnb18:=NB368_357.out;have hnc18:=NB357_368.out;have hcz19_0:w17.cell? ⟨gb368,0,none⟩=some (.string (⟨#[]⟩:ByteArray)):=(δl BK368.out 0).trans rfl;have hcz19_1:w17.cell? ⟨gb368,1,none⟩=some (.string (⟨#[]⟩:ByteArray)):=(δl BK368.out 1).trans rfl;have hcz19_2:w17.cell? ⟨gb368,2,none⟩=some (.int .i64 0):=(δl BK368.out 2).trans rfl;have hcz19_3:w17.cell? ⟨gb368,3,none⟩=some (.int .i64 0):=(δl BK368.out 3).trans rfl;have hcz19_4:w17.cell? ⟨gb368,4,none⟩=some (.int .i64 0):=(δl BK368.out 4).trans rfl;have hcz19_5:w17.cell? ⟨gb368,5,none⟩=some (.bool φ):=(δl BK368.out 5).trans rfl;have hfz19_0:=δm BK368.out 0;have hfz19_1:=δm BK368.out 1;have hfz19_2:=δm BK368.out 2;have hfz19_3:=δm BK368.out 3;have hfz19_4:=δm BK368.out 4;have hfz19_5:=δm BK368.out 5;have hcz20_0:w17.cell? ⟨gb357,0,none⟩=some (.string (⟨#[]⟩:ByteArray)):=(δl BK357.out 0).trans rfl;have hcz20_1:w17.cell? ⟨gb357,1,none⟩=some (.string (⟨#[]⟩:ByteArray)):=(δl BK357.out 1).trans rfl;have hcz20_2:w17.cell? ⟨gb357,2,none⟩=some (.int .i64 0):=(δl BK357.out 2).trans rfl;have hcz20_3:w17.cell? ⟨gb357,3,none⟩=some (.int .i64 0):=(δl BK357.out 3).trans rfl;have hcz20_4:w17.cell? ⟨gb357,4,none⟩=some (.int .i64 0):=(δl BK357.out 4).trans rfl;have hcz20_5:w17.cell? ⟨gb357,5,none⟩=some (.bool φ):=(δl BK357.out 5).trans rfl;have hfz20_0:=δm BK357.out 0;have hfz20_1:=δm BK357.out 1;have hfz20_2:=δm BK357.out 2;have hfz20_3:=δm BK357.out 3;have hfz20_4:=δm BK357.out 4;have hfz20_5:=δm BK357.out 5))
  refine bodyPost_ret (results_ct rfl _ _ gb357 46 #[.string t361,.string t362,.int .i64 t363,.int .i64 t364,.int .i64 t365,.bool t366] (0,0) _ rfl (by refine δw (cs:=#[.string t361,.string t362,.int .i64 t363,.int .i64 t364,.int .i64 t365,.bool φ]) ?_ 5 _ rfl;refine δw (cs:=#[.string t361,.string t362,.int .i64 t363,.int .i64 t364,.int .i64 0,.bool φ]) ?_ 4 _ rfl;refine δw (cs:=#[.string t361,.string t362,.int .i64 t363,.int .i64 0,.int .i64 0,.bool φ]) ?_ 3 _ rfl;refine δw (cs:=#[.string t361,.string t362,.int .i64 0,.int .i64 0,.int .i64 0,.bool φ]) ?_ 2 _ rfl;refine δw (cs:=#[.string t361,.string (⟨#[]⟩:ByteArray),.int .i64 0,.int .i64 0,.int .i64 0,.bool φ]) ?_ 1 _ rfl;refine δw (cs:=#[.string (⟨#[]⟩:ByteArray),.string (⟨#[]⟩:ByteArray),.int .i64 0,.int .i64 0,.int .i64 0,.bool φ]) ?_ 0 _ rfl;refine blk_far ?_ NB357_368.out _;refine blk_far ?_ NB357_368.out _;refine blk_far ?_ NB357_368.out _;refine blk_far ?_ NB357_368.out _;refine blk_far ?_ NB357_368.out _;refine blk_far ?_ NB357_368.out _;exact BK357.out) Tryz.underlying46 rfl (by kernel_rfl)) rfl ?_
  exact ⟨by rfl,by repeat ((with_reducible first|exact HB.out|refine δq ?_ GE357.out|refine δq ?_ GE368.out))⟩


open Go.Proofs.YtjhhehjjnfnigaaGreatDoorW.PrintWords renaming gate_dst → δx
set_option maxHeartbeats 8000000
set_option maxRecDepth 100000


/-! ### slices_Clone_impl_Pair_impl_Pair: function 33 -/
def slices_Clone_impl_Pair_impl_Pair.f (l0:List (S37)):Option (List (S37)):=if l0.length≤4398046511104 then some l0 else none
theorem slices_Clone_impl_Pair_impl_Pair.some_ (ad:Addr) (c0:Nat) (l0:List (S37)) (w:World) (hr0:Kd.C k37 w (some ad) l0.length l0) (hl:l0.length * 32≤140737488355328) :
  Calls Tryz.prog 33 #[.slice (some ad) l0.length c0] w fun e w' => ∃ v0_:Value,e = .returned (v0_)∧Kd.R k37 37 w' w.heap.size (fun _=>True) v0_ l0∧Below w.heap.size w w':=by
 have HR:=ζa hr0
 have HL:=ζa hl
 clear hr0 hl
 have q : ∀ (w:World),(binOp .eql 24 (.slice (some ad) l0.length c0) (.slice none 0 0)).run Tryz.prog w = .ok (.bool φ) w:=fun w=>Lib.run_eql_slice_nil w 24 37 (some ad) l0.length c0 0 0 Tryz.underlying24
 go_enter Tryz.func33,Tryz.ntmps33
 go_wp2_with (first
  | ((with_reducible refine δx (N:=5) rfl ?_);refine Kd.R_lit k37 _ 37 ?hg (N:=5) ?hd (xs:=([]:List S37)) (inner:=[]) (ok:=fun _=>True) (okp:=fun _=>True) ?hr ?hp (fun _ hk=>hk) trivial (Below.refl _ _) (Nat.le_refl _) (by simp) ?_;(case hd=>rfl);(case hg=>rfl);(case hr=>first|(go_simp;done)|(go_simp;rfl));(case hp=>exact (Reps.none _ _));intro v5 w5 ho5 hb5 hg_ hnew_;clear hg_ hnew_;have HO:=ζa ho5;have HB:=ζa hb5;clear ho5 hb5)
  | ((with_reducible refine δx (N:=7) rfl ?_);refine Kd.R_append_rows (w0:=w) (Rr:=k37.K w5) k37 w.heap.size ?hg (.tmp 5) (.tmp 6) 24 37 (.agg #[(.string ⟨#[]⟩),(.string ⟨#[]⟩)]) 32 rfl Tryz.underlying24 info37 rfl (by decide) (by decide) v5 [] l0 (some ad) l0.length c0 (fun _=>True) (fun _=>False) rfl rfl HO.out (Kd.C_below HR.out HB.out) (fun x cs h=>by rw [k37_open h];exact k37_mkM _ _ _ x) (fun _ h=>h.elim) (fun _ _=>trivial) HB.out HB.out.size (by have:=HL.out;simpa using this) ?_;(case hg=>rfl);intro v7 w7 ho7 hb7 hg_ hnew_;clear hg_ hnew_;have HO7:=ζa ho7;have HB7:=ζa hb7;clear ho7 hb7))
 go_ret
 exact ⟨_,rfl,HO7.out,HB7.out⟩
theorem slices_Clone_impl_Pair_impl_Pair.none_ (n c0:Nat) (w:World) :
  Calls Tryz.prog 33 #[.slice none n c0] w fun e w'=>e = .returned (.slice none 0 0)∧w=w':=by
 have q : ∀ (w:World),(binOp .eql 24 (.slice none n c0) (.slice none 0 0)).run Tryz.prog w = .ok (.bool τ) w:=fun w=>Lib.run_eql_slice_nil w 24 37 none n c0 0 0 Tryz.underlying24
 go_enter Tryz.func33,Tryz.ntmps33
 go_wp2
 go_ret
 exact ⟨rfl,rfl⟩
theorem slices_Clone_impl_Pair_impl_Pair.calls (A0:Option Addr) (c0:Nat) (l0:List (S37)) (r:List (S37)) (w:World) (hr0:Kd.C k37 w A0 l0.length l0) (hc0:l0.length≤c0) (h:slices_Clone_impl_Pair_impl_Pair.f l0=some r) :
  Calls Tryz.prog 33 #[.slice A0 l0.length c0] w fun e w' => ∃ v0_:Value,e = .returned (v0_)∧Kd.R k37 37 w' w.heap.size (fun _=>True) v0_ r∧Below w.heap.size w w':=by
 unfold slices_Clone_impl_Pair_impl_Pair.f at h
 by_cases hl:l0.length≤4398046511104
 ·
  rw [if_pos hl] at h
  obtain rfl:=Option.some.inj h
  cases A0 with
  | some ad=>exact slices_Clone_impl_Pair_impl_Pair.some_ ad c0 l0 w hr0 (by omega)
  | none =>
   have h0:l0.length=0:=by
    rcases Nat.eq_zero_or_pos l0.length with h0|h0
    · exact h0
    ·
     obtain ⟨ad,h,_⟩:=hr0.2.2 h0
     cases h
   obtain rfl:l0 = []:=List.eq_nil_of_length_eq_zero h0
   refine (slices_Clone_impl_Pair_impl_Pair.none_ _ c0 w).mono ?_
   rintro e w' ⟨rfl,rfl⟩
   exact ⟨_,rfl,Kd.R_nil _ _ _ _ _,Below.refl _ _⟩
 · rw [if_neg hl] at h;cases h




/-! ### bits_Mul64: function 90 -/
def bits_Mul64.f (a0 : Int) (a1 : Int) : Option (Int × Int) := if 0 ≤ a0 ∧ a0 < 18446744073709551616 ∧ 0 ≤ a1 ∧ a1 < 18446744073709551616 then some (a0 * a1 / 18446744073709551616, a0 * a1 % 18446744073709551616) else none
theorem bits_Mul64.calls (a0 : Int) (a1 : Int) (r1 : Int) (r2 : Int) (w : World) (h : bits_Mul64.f a0 a1 = some (r1, r2)) :
    Calls Tryz.prog 90 #[.int .u64 a0, .int .u64 a1] w fun e w' => e = .returned (.tuple #[.int .u64 r1, .int .u64 r2]) ∧ Drawn0 w w' := by
  unfold bits_Mul64.f at h
  split at h
  · rename_i hc
    obtain ⟨x, rfl⟩ := Int.eq_ofNat_of_zero_le hc.1
    obtain ⟨y, rfl⟩ := Int.eq_ofNat_of_zero_le hc.2.2.1
    simp only [Option.some.injEq, Prod.mk.injEq] at h
    obtain ⟨rfl, rfl⟩ := h
    refine (Tryz.bits_Mul64 x y (by omega) (by omega) w).mono ?_
    rintro e w' ⟨rfl, rfl⟩
    exact ⟨by rw [show ((x * y / 18446744073709551616 : Nat) : Int) = (x : Int) * y / 18446744073709551616 from by simp, show ((x * y % 18446744073709551616 : Nat) : Int) = (x : Int) * y % 18446744073709551616 from by simp], Drawn0.refl _⟩
  · cases h


open Go.RowKit renaming wrap64 → ζm
set_option maxHeartbeats 8000000
set_option maxRecDepth 100000


/-! ### bits_LeadingZeros64: function 109 -/
def bits_LeadingZeros64.f (a0:Int):Option Int:=if 0≤a0∧a0<18446744073709551616 then some (64 - (Lib.bitLen a0.toNat:Int)) else none
theorem bits_LeadingZeros64.calls (a0:Int) (r:Int) (w:World) (h:bits_LeadingZeros64.f a0=some r) :
  Calls Tryz.prog 109 #[.int .u64 a0] w fun e w'=>e = .returned (.int .i64 r)∧Drawn0 w w':=by
 unfold bits_LeadingZeros64.f at h
 split at h
 ·
  rename_i hc
  obtain rfl:=Option.some.inj h
  have hl:=Lib.bitLen_le a0.toNat 64 (Nat.le_refl _) (by omega)
  have HL:=ζa hc
  generalize hL:Lib.bitLen a0.toNat=L at hl
  have hL':=ζa hL
  have e1:ζm (64 - (L:Int))=64 - (L:Int):=IntWalk.wrap64_in _ (by omega)
  have e2:IntKind.i64.wrap (64 - (L:Int))=64 - (L:Int):=IntWalk.i64_in _ (by omega)
  clear hL hl h
  go_enter Tryz.func109,Tryz.ntmps109
  go_wp2_with (go_at_call 123;refine (Tryz.bits_Len64 a0 _ HL.out.1 (by have:=HL.out.2;omega)).mono ?_;rintro e w' ⟨rfl,rfl⟩;rw [hL'.out])
  go_ret
  exact ⟨by rfl,by repeat (exact Drawn0.refl _)⟩
 · cases h


set_option maxHeartbeats 8000000
set_option maxRecDepth 100000

/-! ### bits_Div64: function 91 -/
mutual
def bits_Div64.j2:Nat→Int→Int→Int→Int→Int→Int→Int→Int→Option (Int × Int)
 | 0,_,_,_,_,_,_,_,_=>none
 | k+1,x2,x8,x9,x10,x11,x13,x14,x15=>if x9=0 then (none) else (bits_Div64.l1 k x2 x8 x9 x10 x14 x15 (IntKind.u64.wrap ((IntKind.u64.wrap ((IntKind.u64.wrap ((IntKind.u64.wrap (x11 * 4294967296))+x13)) - (IntKind.u64.wrap (x15 * x2)))) - (IntKind.u64.wrap ((IntKind.u64.wrap (Int.tdiv (IntKind.u64.wrap ((IntKind.u64.wrap ((IntKind.u64.wrap (x11 * 4294967296))+x13)) - (IntKind.u64.wrap (x15 * x2)))) x9)) * x9)))) (IntKind.u64.wrap ((IntKind.u64.wrap ((IntKind.u64.wrap (x11 * 4294967296))+x13)) - (IntKind.u64.wrap (x15 * x2)))) (IntKind.u64.wrap (Int.tdiv (IntKind.u64.wrap ((IntKind.u64.wrap ((IntKind.u64.wrap (x11 * 4294967296))+x13)) - (IntKind.u64.wrap (x15 * x2)))) x9)))
def bits_Div64.l1:Nat→Int→Int→Int→Int→Int→Int→Int→Int→Int→Option (Int × Int)
 | 0,_,_,_,_,_,_,_,_,_=>none
 | k+1,x2,x8,x9,x10,x14,x15,x16,x17,x18=>if x18 ≥ 4294967296 then (bits_Div64.j4 k x2 x8 x9 x10 x14 x15 x16 x17 x18 τ) else (bits_Div64.j4 k x2 x8 x9 x10 x14 x15 x16 x17 x18 (decide ((IntKind.u64.wrap (x18 * x10)) > (IntKind.u64.wrap ((IntKind.u64.wrap (4294967296 * x16))+x14)))))
def bits_Div64.j4:Nat→Int→Int→Int→Int→Int→Int→Int→Int→Int→Bool→Option (Int × Int)
 | 0,_,_,_,_,_,_,_,_,_,_=>none
 | k+1,x2,x8,x9,x10,x14,x15,x16,x17,x18,x113=>if x113=τ then (if (IntKind.u64.wrap (x16+x9)) ≥ 4294967296 then (if 0≤x8 then (some (IntKind.u64.wrap ((IntKind.u64.wrap (x15 * 4294967296))+(IntKind.u64.wrap (x18 - 1))),shr .u64 (IntKind.u64.wrap ((IntKind.u64.wrap ((IntKind.u64.wrap (x17 * 4294967296))+x14)) - (IntKind.u64.wrap ((IntKind.u64.wrap (x18 - 1)) * x2)))) x8)) else (none)) else (bits_Div64.l1 k x2 x8 x9 x10 x14 x15 (IntKind.u64.wrap (x16+x9)) x17 (IntKind.u64.wrap (x18 - 1)))) else (if 0≤x8 then (some (IntKind.u64.wrap ((IntKind.u64.wrap (x15 * 4294967296))+x18),shr .u64 (IntKind.u64.wrap ((IntKind.u64.wrap ((IntKind.u64.wrap (x17 * 4294967296))+x14)) - (IntKind.u64.wrap (x18 * x2)))) x8)) else (none))
def bits_Div64.l0:Nat→Int→Int→Int→Int→Int→Int→Int→Int→Int→Option (Int × Int)
 | 0,_,_,_,_,_,_,_,_,_=>none
 | k+1,x2,x8,x9,x10,x11,x13,x14,x15,x16=>if x15 ≥ 4294967296 then (bits_Div64.j1 k x2 x8 x9 x10 x11 x13 x14 x15 x16 τ) else (bits_Div64.j1 k x2 x8 x9 x10 x11 x13 x14 x15 x16 (decide ((IntKind.u64.wrap (x15 * x10)) > (IntKind.u64.wrap ((IntKind.u64.wrap (4294967296 * x16))+x13)))))
def bits_Div64.j1:Nat→Int→Int→Int→Int→Int→Int→Int→Int→Int→Bool→Option (Int × Int)
 | 0,_,_,_,_,_,_,_,_,_,_=>none
 | k+1,x2,x8,x9,x10,x11,x13,x14,x15,x16,x78=>if x78=τ then (if (IntKind.u64.wrap (x16+x9)) ≥ 4294967296 then (bits_Div64.j2 k x2 x8 x9 x10 x11 x13 x14 (IntKind.u64.wrap (x15 - 1))) else (bits_Div64.l0 k x2 x8 x9 x10 x11 x13 x14 (IntKind.u64.wrap (x15 - 1)) (IntKind.u64.wrap (x16+x9)))) else (bits_Div64.j2 k x2 x8 x9 x10 x11 x13 x14 x15)
end
def bits_Div64.f (k:Nat) (a0:Int) (a1:Int) (a2:Int):Option (Int × Int):=if a2=0 then (none) else (if a2≤a0 then (none) else (if a0=0 then (some (IntKind.u64.wrap (Int.tdiv a1 a2),Int.tmod a1 a2)) else ((bits_LeadingZeros64.f a2).bind fun t369=>(if 0≤(IntKind.u64.wrap (t369)) then (if 0≤(IntKind.u64.wrap (64 - (IntKind.u64.wrap (t369)))) then (if ((shl .u64 a2 (IntKind.u64.wrap (t369))) / 4294967296)=0 then (none) else (bits_Div64.l0 k (shl .u64 a2 (IntKind.u64.wrap (t369))) (IntKind.u64.wrap (t369)) ((shl .u64 a2 (IntKind.u64.wrap (t369))) / 4294967296) (Go.bits .and .u64 (shl .u64 a2 (IntKind.u64.wrap (t369))) 4294967295) (Go.bits .or .u64 (shl .u64 a0 (IntKind.u64.wrap (t369))) (shr .u64 a1 (IntKind.u64.wrap (64 - (IntKind.u64.wrap (t369)))))) ((shl .u64 a1 (IntKind.u64.wrap (t369))) / 4294967296) (Go.bits .and .u64 (shl .u64 a1 (IntKind.u64.wrap (t369))) 4294967295) (IntKind.u64.wrap (Int.tdiv (Go.bits .or .u64 (shl .u64 a0 (IntKind.u64.wrap (t369))) (shr .u64 a1 (IntKind.u64.wrap (64 - (IntKind.u64.wrap (t369)))))) ((shl .u64 a2 (IntKind.u64.wrap (t369))) / 4294967296))) (IntKind.u64.wrap ((Go.bits .or .u64 (shl .u64 a0 (IntKind.u64.wrap (t369))) (shr .u64 a1 (IntKind.u64.wrap (64 - (IntKind.u64.wrap (t369)))))) - (IntKind.u64.wrap ((IntKind.u64.wrap (Int.tdiv (Go.bits .or .u64 (shl .u64 a0 (IntKind.u64.wrap (t369))) (shr .u64 a1 (IntKind.u64.wrap (64 - (IntKind.u64.wrap (t369)))))) ((shl .u64 a2 (IntKind.u64.wrap (t369))) / 4294967296))) * ((shl .u64 a2 (IntKind.u64.wrap (t369))) / 4294967296))))))) else (none)) else (none)))))
theorem bits_Div64.calls (k:Nat) (a0:Int) (a1:Int) (a2:Int) (r1:Int) (r2:Int) (w:World) (h:bits_Div64.f k a0 a1 a2=some (r1,r2)) :
  Calls Tryz.prog 91 #[.int .u64 a0,.int .u64 a1,.int .u64 a2] w fun e w'=>e = .returned (.tuple #[.int .u64 r1,.int .u64 r2])∧Drawn0 w w':=by
 have H:(if a2=0 then (none) else (if a2≤a0 then (none) else (if a0=0 then (some (IntKind.u64.wrap (Int.tdiv a1 a2),Int.tmod a1 a2)) else ((bits_LeadingZeros64.f a2).bind fun t369=>(if 0≤(IntKind.u64.wrap (t369)) then (if 0≤(IntKind.u64.wrap (64 - (IntKind.u64.wrap (t369)))) then (if ((shl .u64 a2 (IntKind.u64.wrap (t369))) / 4294967296)=0 then (none) else (bits_Div64.l0 k (shl .u64 a2 (IntKind.u64.wrap (t369))) (IntKind.u64.wrap (t369)) ((shl .u64 a2 (IntKind.u64.wrap (t369))) / 4294967296) (Go.bits .and .u64 (shl .u64 a2 (IntKind.u64.wrap (t369))) 4294967295) (Go.bits .or .u64 (shl .u64 a0 (IntKind.u64.wrap (t369))) (shr .u64 a1 (IntKind.u64.wrap (64 - (IntKind.u64.wrap (t369)))))) ((shl .u64 a1 (IntKind.u64.wrap (t369))) / 4294967296) (Go.bits .and .u64 (shl .u64 a1 (IntKind.u64.wrap (t369))) 4294967295) (IntKind.u64.wrap (Int.tdiv (Go.bits .or .u64 (shl .u64 a0 (IntKind.u64.wrap (t369))) (shr .u64 a1 (IntKind.u64.wrap (64 - (IntKind.u64.wrap (t369)))))) ((shl .u64 a2 (IntKind.u64.wrap (t369))) / 4294967296))) (IntKind.u64.wrap ((Go.bits .or .u64 (shl .u64 a0 (IntKind.u64.wrap (t369))) (shr .u64 a1 (IntKind.u64.wrap (64 - (IntKind.u64.wrap (t369)))))) - (IntKind.u64.wrap ((IntKind.u64.wrap (Int.tdiv (Go.bits .or .u64 (shl .u64 a0 (IntKind.u64.wrap (t369))) (shr .u64 a1 (IntKind.u64.wrap (64 - (IntKind.u64.wrap (t369)))))) ((shl .u64 a2 (IntKind.u64.wrap (t369))) / 4294967296))) * ((shl .u64 a2 (IntKind.u64.wrap (t369))) / 4294967296))))))) else (none)) else (none))))))=some (r1,r2):=h
 clear h
 by_cases c4:a2=0
 ·
  rw [if_pos c4] at H
  exact absurd H (by simp)
 ·
  rw [if_neg c4] at H
  have c4b0:=beq_eq_false_iff_ne.mpr c4
  have c4b1:=bne_iff_ne.mpr c4
  by_cases c5:a2≤a0
  ·
   rw [if_pos c5] at H
   exact absurd H (by simp)
  ·
   rw [if_neg c5] at H
   have c5b0:=decide_eq_false c5
   clear c5
   by_cases c6:a0=0
   ·
    rw [if_pos c6] at H
    have c6b0:=beq_iff_eq.mpr c6
    have c6b1:=bne_eq_false_iff_eq.mpr c6
    clear c6
    simp only [Option.some.injEq,Prod.mk.injEq] at H
    obtain ⟨rfl,rfl⟩:=H
    go_enter Tryz.func91,Tryz.ntmps91
    go_wp2
    repeat (go_quiet (fail);try go_wp2)
    go_ret2
    exact ⟨by rfl,by repeat (first|exact Drawn0.refl _|apply Drawn0.step)⟩
   ·
    rw [if_neg c6] at H
    have c6b0:=beq_eq_false_iff_ne.mpr c6
    have c6b1:=bne_iff_ne.mpr c6
    obtain ⟨t369,A7,H⟩:=bsm H
    obtain ⟨ji8,hji8⟩ : ∃ j_:Int,(IntKind.u64.wrap (t369))=j_:=⟨_,rfl⟩
    replace H:(if 0≤(ji8) then (if 0≤(IntKind.u64.wrap (64 - (ji8))) then (if ((shl .u64 a2 (ji8)) / 4294967296)=0 then (none) else (bits_Div64.l0 k (shl .u64 a2 (ji8)) ji8 ((shl .u64 a2 (ji8)) / 4294967296) (Go.bits .and .u64 (shl .u64 a2 (ji8)) 4294967295) (Go.bits .or .u64 (shl .u64 a0 (ji8)) (shr .u64 a1 (IntKind.u64.wrap (64 - (ji8))))) ((shl .u64 a1 (ji8)) / 4294967296) (Go.bits .and .u64 (shl .u64 a1 (ji8)) 4294967295) (IntKind.u64.wrap (Int.tdiv (Go.bits .or .u64 (shl .u64 a0 (ji8)) (shr .u64 a1 (IntKind.u64.wrap (64 - (ji8))))) ((shl .u64 a2 (ji8)) / 4294967296))) (IntKind.u64.wrap ((Go.bits .or .u64 (shl .u64 a0 (ji8)) (shr .u64 a1 (IntKind.u64.wrap (64 - (ji8))))) - (IntKind.u64.wrap ((IntKind.u64.wrap (Int.tdiv (Go.bits .or .u64 (shl .u64 a0 (ji8)) (shr .u64 a1 (IntKind.u64.wrap (64 - (ji8))))) ((shl .u64 a2 (ji8)) / 4294967296))) * ((shl .u64 a2 (ji8)) / 4294967296))))))) else (none)) else (none))=some (r1,r2):=by (rw [hji8] at H;exact H)
    (try rw [hji8] at A7)
    by_cases c9:0≤(ji8)
    ·
     rw [if_pos c9] at H
     have c9b0:=eq_true c9
     have c9b1:=decide_eq_true c9
     clear c9
     obtain ⟨ji10,hji10⟩ : ∃ j_:Int,(shl .u64 a2 (ji8))=j_:=⟨_,rfl⟩
     replace H:(if 0≤(IntKind.u64.wrap (64 - (ji8))) then (if ((ji10) / 4294967296)=0 then (none) else (bits_Div64.l0 k ji10 ji8 ((ji10) / 4294967296) (Go.bits .and .u64 (ji10) 4294967295) (Go.bits .or .u64 (shl .u64 a0 (ji8)) (shr .u64 a1 (IntKind.u64.wrap (64 - (ji8))))) ((shl .u64 a1 (ji8)) / 4294967296) (Go.bits .and .u64 (shl .u64 a1 (ji8)) 4294967295) (IntKind.u64.wrap (Int.tdiv (Go.bits .or .u64 (shl .u64 a0 (ji8)) (shr .u64 a1 (IntKind.u64.wrap (64 - (ji8))))) ((ji10) / 4294967296))) (IntKind.u64.wrap ((Go.bits .or .u64 (shl .u64 a0 (ji8)) (shr .u64 a1 (IntKind.u64.wrap (64 - (ji8))))) - (IntKind.u64.wrap ((IntKind.u64.wrap (Int.tdiv (Go.bits .or .u64 (shl .u64 a0 (ji8)) (shr .u64 a1 (IntKind.u64.wrap (64 - (ji8))))) ((ji10) / 4294967296))) * ((ji10) / 4294967296))))))) else (none))=some (r1,r2):=by (rw [hji10] at H;exact H)
     (try rw [hji10] at A7)
     have hji10_:(IntKind.u64.wrap (a2 * 2 ^ min (ji8).toNat 64))=ji10:=hji10
     have hji10z:(ji8)≤64→(IntKind.u64.wrap (a2 * 2 ^ (ji8).toNat))=ji10:=shl_small hji10
     have c11b0:=eq_true (of_decide_eq_true (by (with_reducible assumption)):0≤(ji8))
     obtain ⟨ji12,hji12⟩ : ∃ j_:Int,(shl .u64 a0 (ji8))=j_:=⟨_,rfl⟩
     replace H:(if 0≤(IntKind.u64.wrap (64 - (ji8))) then (if ((ji10) / 4294967296)=0 then (none) else (bits_Div64.l0 k ji10 ji8 ((ji10) / 4294967296) (Go.bits .and .u64 (ji10) 4294967295) (Go.bits .or .u64 (ji12) (shr .u64 a1 (IntKind.u64.wrap (64 - (ji8))))) ((shl .u64 a1 (ji8)) / 4294967296) (Go.bits .and .u64 (shl .u64 a1 (ji8)) 4294967295) (IntKind.u64.wrap (Int.tdiv (Go.bits .or .u64 (ji12) (shr .u64 a1 (IntKind.u64.wrap (64 - (ji8))))) ((ji10) / 4294967296))) (IntKind.u64.wrap ((Go.bits .or .u64 (ji12) (shr .u64 a1 (IntKind.u64.wrap (64 - (ji8))))) - (IntKind.u64.wrap ((IntKind.u64.wrap (Int.tdiv (Go.bits .or .u64 (ji12) (shr .u64 a1 (IntKind.u64.wrap (64 - (ji8))))) ((ji10) / 4294967296))) * ((ji10) / 4294967296))))))) else (none))=some (r1,r2):=by (rw [hji12] at H;exact H)
     (try rw [hji12] at A7)
     have hji12_:(IntKind.u64.wrap (a0 * 2 ^ min (ji8).toNat 64))=ji12:=hji12
     have hji12z:(ji8)≤64→(IntKind.u64.wrap (a0 * 2 ^ (ji8).toNat))=ji12:=shl_small hji12
     obtain ⟨ji13,hji13⟩ : ∃ j_:Int,(IntKind.u64.wrap (64 - (ji8)))=j_:=⟨_,rfl⟩
     replace H:(if 0≤(ji13) then (if ((ji10) / 4294967296)=0 then (none) else (bits_Div64.l0 k ji10 ji8 ((ji10) / 4294967296) (Go.bits .and .u64 (ji10) 4294967295) (Go.bits .or .u64 (ji12) (shr .u64 a1 (ji13))) ((shl .u64 a1 (ji8)) / 4294967296) (Go.bits .and .u64 (shl .u64 a1 (ji8)) 4294967295) (IntKind.u64.wrap (Int.tdiv (Go.bits .or .u64 (ji12) (shr .u64 a1 (ji13))) ((ji10) / 4294967296))) (IntKind.u64.wrap ((Go.bits .or .u64 (ji12) (shr .u64 a1 (ji13))) - (IntKind.u64.wrap ((IntKind.u64.wrap (Int.tdiv (Go.bits .or .u64 (ji12) (shr .u64 a1 (ji13))) ((ji10) / 4294967296))) * ((ji10) / 4294967296))))))) else (none))=some (r1,r2):=by (rw [hji13] at H;exact H)
     (try rw [hji13] at A7)
     by_cases c14:0≤(ji13)
     ·
      rw [if_pos c14] at H
      have c14b0:=eq_true c14
      have c14b1:=decide_eq_true c14
      clear c14
      obtain ⟨ji15,hji15⟩ : ∃ j_:Int,(shr .u64 a1 (ji13))=j_:=⟨_,rfl⟩
      replace H:(if ((ji10) / 4294967296)=0 then (none) else (bits_Div64.l0 k ji10 ji8 ((ji10) / 4294967296) (Go.bits .and .u64 (ji10) 4294967295) (Go.bits .or .u64 (ji12) (ji15)) ((shl .u64 a1 (ji8)) / 4294967296) (Go.bits .and .u64 (shl .u64 a1 (ji8)) 4294967295) (IntKind.u64.wrap (Int.tdiv (Go.bits .or .u64 (ji12) (ji15)) ((ji10) / 4294967296))) (IntKind.u64.wrap ((Go.bits .or .u64 (ji12) (ji15)) - (IntKind.u64.wrap ((IntKind.u64.wrap (Int.tdiv (Go.bits .or .u64 (ji12) (ji15)) ((ji10) / 4294967296))) * ((ji10) / 4294967296)))))))=some (r1,r2):=by (rw [hji15] at H;exact H)
      (try rw [hji15] at A7)
      have hji15_:(a1 / 2 ^ min (ji13).toNat 64)=ji15:=hji15
      have hji15z:(ji13)≤64→(a1 / 2 ^ (ji13).toNat)=ji15:=shr_small hji15
      have c16b0:=eq_true (of_decide_eq_true (by (with_reducible assumption)):0≤(ji8))
      obtain ⟨ji17,hji17⟩ : ∃ j_:Int,(shl .u64 a1 (ji8))=j_:=⟨_,rfl⟩
      replace H:(if ((ji10) / 4294967296)=0 then (none) else (bits_Div64.l0 k ji10 ji8 ((ji10) / 4294967296) (Go.bits .and .u64 (ji10) 4294967295) (Go.bits .or .u64 (ji12) (ji15)) ((ji17) / 4294967296) (Go.bits .and .u64 (ji17) 4294967295) (IntKind.u64.wrap (Int.tdiv (Go.bits .or .u64 (ji12) (ji15)) ((ji10) / 4294967296))) (IntKind.u64.wrap ((Go.bits .or .u64 (ji12) (ji15)) - (IntKind.u64.wrap ((IntKind.u64.wrap (Int.tdiv (Go.bits .or .u64 (ji12) (ji15)) ((ji10) / 4294967296))) * ((ji10) / 4294967296)))))))=some (r1,r2):=by (rw [hji17] at H;exact H)
      (try rw [hji17] at A7)
      have hji17_:(IntKind.u64.wrap (a1 * 2 ^ min (ji8).toNat 64))=ji17:=hji17
      have hji17z:(ji8)≤64→(IntKind.u64.wrap (a1 * 2 ^ (ji8).toNat))=ji17:=shl_small hji17
      by_cases c18:((ji10) / 4294967296)=0
      ·
       rw [if_pos c18] at H
       exact absurd H (by simp)
      ·
       rw [if_neg c18] at H
       have c18b0:=beq_eq_false_iff_ne.mpr c18
       have c18b1:=bne_iff_ne.mpr c18
       have HC19:=ζa H
       clear H
       go_enter Tryz.func91,Tryz.ntmps91
       go_upto_block 0 with ((go_at_call 109;(with_reducible refine (bits_LeadingZeros64.calls a2 t369 _ A7.out).mono ?_);rintro e w' ⟨rfl,⟨nd,rfl⟩⟩;(try fail)))
       repeat (go_quiet (fail);go_upto_block 0 with (fail))
       (try simp only [ζl,δa,δb,δc])
       go_cut [15] (fun v15 wc => ∃ (kq:Nat) (x15_18:Int),v15 = .int .u64 x15_18∧Aside0 (bits_Div64.j2 kq ji10 ji8 ((ji10) / 4294967296) (Go.bits .and .u64 (ji10) 4294967295) (Go.bits .or .u64 (ji12) (ji15)) ((ji17) / 4294967296) (Go.bits .and .u64 (ji17) 4294967295) x15_18=some (r1,r2))∧Aside0 (kq≤k)∧Drawn0 w wc)
       case first =>
        have H:=HC19.out
        clear HC19
        have H':=ζa H
        clear H
        go_wp2
        repeat (go_quiet (fail);try go_wp2)
        go_loopg [15,16] k (fun kq v15 v16 w' => ∃ (x15_1:Int) (x16_1:Int),v15 = .int .u64 x15_1∧v16 = .int .u64 x16_1∧Aside0 (bits_Div64.l0 kq ji10 ji8 ((ji10) / 4294967296) (Go.bits .and .u64 (ji10) 4294967295) (Go.bits .or .u64 (ji12) (ji15)) ((ji17) / 4294967296) (Go.bits .and .u64 (ji17) 4294967295) x15_1 x16_1=some (r1,r2))∧Aside0 (kq≤k)∧Drawn0 w w')
        case atStart=>exact ⟨(IntKind.u64.wrap (Int.tdiv (Go.bits .or .u64 (ji12) (ji15)) ((ji10) / 4294967296))),(IntKind.u64.wrap ((Go.bits .or .u64 (ji12) (ji15)) - (IntKind.u64.wrap ((IntKind.u64.wrap (Int.tdiv (Go.bits .or .u64 (ji12) (ji15)) ((ji10) / 4294967296))) * ((ji10) / 4294967296))))),(by rfl),(by rfl),H',⟨Nat.le_refl _⟩,by repeat (first|exact Drawn0.refl _|apply Drawn0.step)⟩
        case round =>
         clear H'
         try clear c1
         try clear p2
         try clear c4
         try clear c4b0
         try clear c4b1
         try clear c5
         try clear c5b0
         try clear c6
         try clear c6b0
         try clear c6b1
         try clear c9
         try clear c9b0
         try clear c9b1
         try clear c11
         try clear c11b0
         try clear c14
         try clear c14b0
         try clear c14b1
         try clear c16
         try clear c16b0
         try clear c18
         try clear c18b0
         try clear c18b1
         obtain ⟨x15_1,x16_1,rfl,rfl,HA,HK1,⟨m1,rfl⟩⟩:=hrel
         cases gk with
         | zero=>exact absurd HA.out (by simp [bits_Div64.l0])
         | succ k1 =>
          have H:=HA.out
          clear HA
          simp only [bits_Div64.l0] at H
          have HC20:=ζa H
          clear H
          go_upto_region 17 with (fail)
          repeat (go_quiet (fail);go_upto_region 17 with (fail))
          go_cut [78] (fun v78 wc => ∃ (kq:Nat) (x78_19:Bool),v78 = .bool x78_19∧Aside0 (bits_Div64.j1 kq ji10 ji8 ((ji10) / 4294967296) (Go.bits .and .u64 (ji10) 4294967295) (Go.bits .or .u64 (ji12) (ji15)) ((ji17) / 4294967296) (Go.bits .and .u64 (ji17) 4294967295) x15_1 x16_1 x78_19=some (r1,r2))∧Aside0 (kq≤k1)∧Drawn0 w wc)
          case first =>
           have H:=HC20.out
           clear HC20
           by_cases c21:x15_1 ≥ 4294967296
           ·
            rw [if_pos c21] at H
            have c21b0:decide (4294967296≤x15_1)=τ:=decide_eq_true c21
            clear c21
            have H':=ζa H
            clear H
            go_wp2
            repeat (go_quiet (fail);try go_wp2)
            go_meet
            case rel=>exact ⟨_,(τ),(by rfl),H',⟨by have:=HK1.out;omega⟩,by repeat (first|exact Drawn0.refl _|apply Drawn0.step)⟩
           ·
            rw [if_neg c21] at H
            have c21b0:decide (4294967296≤x15_1)=φ:=decide_eq_false c21
            clear c21
            have H':=ζa H
            clear H
            go_wp2
            repeat (go_quiet (fail);try go_wp2)
            go_meet
            case rel=>exact ⟨_,(decide ((IntKind.u64.wrap (x15_1 * (Go.bits .and .u64 (ji10) 4294967295))) > (IntKind.u64.wrap ((IntKind.u64.wrap (4294967296 * x16_1))+((ji17) / 4294967296))))),(by rfl),H',⟨by have:=HK1.out;omega⟩,by repeat (first|exact Drawn0.refl _|apply Drawn0.step)⟩
          case rest =>
           clear HC20
           try clear c1
           try clear c2
           try clear p2
           try clear c4
           try clear c4b0
           try clear c4b1
           try clear c5
           try clear c5b0
           try clear c6
           try clear c6b0
           try clear c6b1
           try clear c9
           try clear c9b0
           try clear c9b1
           try clear c11
           try clear c11b0
           try clear c14
           try clear c14b0
           try clear c14b1
           try clear c16
           try clear c16b0
           try clear c18
           try clear c18b0
           try clear c18b1
           try clear c21
           try clear c21b0
           try clear p2
           obtain ⟨kq,x78_19,rfl,HA,HJ19,⟨mc19,rfl⟩⟩:=hcut
           cases kq with
           | zero=>exact absurd HA.out (by simp [bits_Div64.j1])
           | succ kj19 =>
            have H:=HA.out
            clear HA
            simp only [bits_Div64.j1] at H
            by_cases c22:x78_19=τ
            ·
             subst c22
             rw [ifT] at H
             by_cases c23:(IntKind.u64.wrap (x16_1+((ji10) / 4294967296))) ≥ 4294967296
             ·
              rw [if_pos c23] at H
              have c23b0:decide (4294967296≤(IntKind.u64.wrap (x16_1+((ji10) / 4294967296))))=τ:=decide_eq_true c23
              clear c23
              have H':=ζa H
              clear H
              go_wp2
              repeat (go_quiet (fail);try go_wp2)
              go_meet
              case rel=>exact ⟨_,(IntKind.u64.wrap (x15_1 - 1)),(by rfl),H',⟨by have:=HK1.out;have:=HJ19.out;omega⟩,by repeat (first|exact Drawn0.refl _|apply Drawn0.step)⟩
             ·
              rw [if_neg c23] at H
              have c23b0:decide (4294967296≤(IntKind.u64.wrap (x16_1+((ji10) / 4294967296))))=φ:=decide_eq_false c23
              clear c23
              have H':=ζa H
              clear H
              go_wp2
              repeat (go_quiet (fail);try go_wp2)
              go_roundg kj19
              case measure=>have:=HK1.out;have:=HJ19.out;omega
              case rel=>exact ⟨(IntKind.u64.wrap (x15_1 - 1)),(IntKind.u64.wrap (x16_1+((ji10) / 4294967296))),(by rfl),(by rfl),H',⟨by have:=HK1.out;have:=HJ19.out;omega⟩,by repeat (first|exact Drawn0.refl _|apply Drawn0.step)⟩
            ·
             replace c22:=Bool.eq_false_iff.mpr c22
             subst c22
             rw [ifF] at H
             have H':=ζa H
             clear H
             go_wp2
             repeat (go_quiet (fail);try go_wp2)
             go_meet
             case rel=>exact ⟨_,(x15_1),(by rfl),H',⟨by have:=HK1.out;have:=HJ19.out;omega⟩,by repeat (first|exact Drawn0.refl _|apply Drawn0.step)⟩
       case rest =>
        clear HC19
        try clear c1
        try clear c2
        try clear p2
        try clear c4
        try clear c4b0
        try clear c4b1
        try clear c5
        try clear c5b0
        try clear c6
        try clear c6b0
        try clear c6b1
        try clear c9
        try clear c9b0
        try clear c9b1
        try clear c11
        try clear c11b0
        try clear c14
        try clear c14b0
        try clear c14b1
        try clear c16
        try clear c16b0
        try clear c18
        try clear c18b0
        try clear c18b1
        try clear c19
        try clear c21
        try clear c21b0
        try clear c22
        try clear c23
        try clear c23b0
        try clear p2
        obtain ⟨kq,x15_18,rfl,HA,HJ18,⟨mc18,rfl⟩⟩:=hcut
        cases kq with
        | zero=>exact absurd HA.out (by simp [bits_Div64.j2])
        | succ kj18 =>
         have H:=HA.out
         clear HA
         simp only [bits_Div64.j2] at H
         by_cases c24:((ji10) / 4294967296)=0
         ·
          rw [if_pos c24] at H
          exact absurd H (by simp)
         ·
          rw [if_neg c24] at H
          have c24b0:=beq_eq_false_iff_ne.mpr c24
          have c24b1:=bne_iff_ne.mpr c24
          have H':=ζa H
          clear H
          go_wp2
          repeat (go_quiet (fail);try go_wp2)
          go_loopg [16,18] kj18 (fun kq v16 v18 w' => ∃ (x16_2:Int) (x18_2:Int),v16 = .int .u64 x16_2∧v18 = .int .u64 x18_2∧Aside0 (bits_Div64.l1 kq ji10 ji8 ((ji10) / 4294967296) (Go.bits .and .u64 (ji10) 4294967295) (Go.bits .and .u64 (ji17) 4294967295) x15_18 x16_2 (IntKind.u64.wrap ((IntKind.u64.wrap ((IntKind.u64.wrap ((Go.bits .or .u64 (ji12) (ji15)) * 4294967296))+((ji17) / 4294967296))) - (IntKind.u64.wrap (x15_18 * ji10)))) x18_2=some (r1,r2))∧Aside0 (kq≤kj18)∧Drawn0 w w')
          case atStart=>exact ⟨(IntKind.u64.wrap ((IntKind.u64.wrap ((IntKind.u64.wrap ((IntKind.u64.wrap ((Go.bits .or .u64 (ji12) (ji15)) * 4294967296))+((ji17) / 4294967296))) - (IntKind.u64.wrap (x15_18 * ji10)))) - (IntKind.u64.wrap ((IntKind.u64.wrap (Int.tdiv (IntKind.u64.wrap ((IntKind.u64.wrap ((IntKind.u64.wrap ((Go.bits .or .u64 (ji12) (ji15)) * 4294967296))+((ji17) / 4294967296))) - (IntKind.u64.wrap (x15_18 * ji10)))) ((ji10) / 4294967296))) * ((ji10) / 4294967296))))),(IntKind.u64.wrap (Int.tdiv (IntKind.u64.wrap ((IntKind.u64.wrap ((IntKind.u64.wrap ((Go.bits .or .u64 (ji12) (ji15)) * 4294967296))+((ji17) / 4294967296))) - (IntKind.u64.wrap (x15_18 * ji10)))) ((ji10) / 4294967296))),(by rfl),(by rfl),H',⟨Nat.le_refl _⟩,by repeat (first|exact Drawn0.refl _|apply Drawn0.step)⟩
          case round =>
           clear H'
           try clear c1
           try clear c2
           try clear p2
           try clear c4
           try clear c4b0
           try clear c4b1
           try clear c5
           try clear c5b0
           try clear c6
           try clear c6b0
           try clear c6b1
           try clear c9
           try clear c9b0
           try clear c9b1
           try clear c11
           try clear c11b0
           try clear c14
           try clear c14b0
           try clear c14b1
           try clear c16
           try clear c16b0
           try clear c18
           try clear c18b0
           try clear c18b1
           try clear c19
           try clear c21
           try clear c21b0
           try clear c22
           try clear c23
           try clear c23b0
           try clear c24
           try clear c24b0
           try clear c24b1
           try clear p2
           obtain ⟨x16_2,x18_2,rfl,rfl,HA,HK2,⟨m2,rfl⟩⟩:=hrel
           cases gk with
           | zero=>exact absurd HA.out (by simp [bits_Div64.l1])
           | succ k2 =>
            have H:=HA.out
            clear HA
            simp only [bits_Div64.l1] at H
            have HC25:=ζa H
            clear H
            go_upto_region 24 with (fail)
            repeat (go_quiet (fail);go_upto_region 24 with (fail))
            go_cut [113] (fun v113 wc => ∃ (kq:Nat) (x113_24:Bool),v113 = .bool x113_24∧Aside0 (bits_Div64.j4 kq ji10 ji8 ((ji10) / 4294967296) (Go.bits .and .u64 (ji10) 4294967295) (Go.bits .and .u64 (ji17) 4294967295) x15_18 x16_2 (IntKind.u64.wrap ((IntKind.u64.wrap ((IntKind.u64.wrap ((Go.bits .or .u64 (ji12) (ji15)) * 4294967296))+((ji17) / 4294967296))) - (IntKind.u64.wrap (x15_18 * ji10)))) x18_2 x113_24=some (r1,r2))∧Aside0 (kq≤k2)∧Drawn0 w wc)
            case first =>
             have H:=HC25.out
             clear HC25
             by_cases c26:x18_2 ≥ 4294967296
             ·
              rw [if_pos c26] at H
              have c26b0:decide (4294967296≤x18_2)=τ:=decide_eq_true c26
              clear c26
              have H':=ζa H
              clear H
              go_wp2
              repeat (go_quiet (fail);try go_wp2)
              go_meet
              case rel=>exact ⟨_,(τ),(by rfl),H',⟨by have:=HJ18.out;have:=HK2.out;omega⟩,by repeat (first|exact Drawn0.refl _|apply Drawn0.step)⟩
             ·
              rw [if_neg c26] at H
              have c26b0:decide (4294967296≤x18_2)=φ:=decide_eq_false c26
              clear c26
              have H':=ζa H
              clear H
              go_wp2
              repeat (go_quiet (fail);try go_wp2)
              go_meet
              case rel=>exact ⟨_,(decide ((IntKind.u64.wrap (x18_2 * (Go.bits .and .u64 (ji10) 4294967295))) > (IntKind.u64.wrap ((IntKind.u64.wrap (4294967296 * x16_2))+(Go.bits .and .u64 (ji17) 4294967295))))),(by rfl),H',⟨by have:=HJ18.out;have:=HK2.out;omega⟩,by repeat (first|exact Drawn0.refl _|apply Drawn0.step)⟩
            case rest =>
             clear HC25
             try clear c1
             try clear c2
             try clear p2
             try clear c4
             try clear c4b0
             try clear c4b1
             try clear c5
             try clear c5b0
             try clear c6
             try clear c6b0
             try clear c6b1
             try clear c9
             try clear c9b0
             try clear c9b1
             try clear c11
             try clear c11b0
             try clear c14
             try clear c14b0
             try clear c14b1
             try clear c16
             try clear c16b0
             try clear c18
             try clear c18b0
             try clear c18b1
             try clear c19
             try clear c21
             try clear c21b0
             try clear c22
             try clear c23
             try clear c23b0
             try clear c24
             try clear c24b0
             try clear c24b1
             try clear c26
             try clear c26b0
             try clear p2
             obtain ⟨kq,x113_24,rfl,HA,HJ24,⟨mc24,rfl⟩⟩:=hcut
             cases kq with
             | zero=>exact absurd HA.out (by simp [bits_Div64.j4])
             | succ kj24 =>
              have H:=HA.out
              clear HA
              simp only [bits_Div64.j4] at H
              by_cases c27:x113_24=τ
              ·
               subst c27
               rw [ifT] at H
               by_cases c28:(IntKind.u64.wrap (x16_2+((ji10) / 4294967296))) ≥ 4294967296
               ·
                rw [if_pos c28] at H
                have c28b0:decide (4294967296≤(IntKind.u64.wrap (x16_2+((ji10) / 4294967296))))=τ:=decide_eq_true c28
                clear c28
                by_cases c29:0≤ji8
                ·
                 rw [if_pos c29] at H
                 have c29b0:=eq_true c29
                 have c29b1:=decide_eq_true c29
                 clear c29
                 obtain ⟨ji30,hji30⟩ : ∃ j_:Int,(shr .u64 (IntKind.u64.wrap ((IntKind.u64.wrap ((IntKind.u64.wrap ((IntKind.u64.wrap ((IntKind.u64.wrap ((IntKind.u64.wrap ((Go.bits .or .u64 (ji12) (ji15)) * 4294967296))+((ji17) / 4294967296))) - (IntKind.u64.wrap (x15_18 * ji10)))) * 4294967296))+(Go.bits .and .u64 (ji17) 4294967295))) - (IntKind.u64.wrap ((IntKind.u64.wrap (x18_2 - 1)) * ji10)))) ji8)=j_:=⟨_,rfl⟩
                 replace H:(some (IntKind.u64.wrap ((IntKind.u64.wrap (x15_18 * 4294967296))+(IntKind.u64.wrap (x18_2 - 1))),ji30))=some (r1,r2):=by (rw [hji30] at H;exact H)
                 have hji30_:((IntKind.u64.wrap ((IntKind.u64.wrap ((IntKind.u64.wrap ((IntKind.u64.wrap ((IntKind.u64.wrap ((IntKind.u64.wrap ((Go.bits .or .u64 (ji12) (ji15)) * 4294967296))+((ji17) / 4294967296))) - (IntKind.u64.wrap (x15_18 * ji10)))) * 4294967296))+(Go.bits .and .u64 (ji17) 4294967295))) - (IntKind.u64.wrap ((IntKind.u64.wrap (x18_2 - 1)) * ji10)))) / 2 ^ min ji8.toNat 64)=ji30:=hji30
                 have hji30z:ji8≤64→((IntKind.u64.wrap ((IntKind.u64.wrap ((IntKind.u64.wrap ((IntKind.u64.wrap ((IntKind.u64.wrap ((IntKind.u64.wrap ((Go.bits .or .u64 (ji12) (ji15)) * 4294967296))+((ji17) / 4294967296))) - (IntKind.u64.wrap (x15_18 * ji10)))) * 4294967296))+(Go.bits .and .u64 (ji17) 4294967295))) - (IntKind.u64.wrap ((IntKind.u64.wrap (x18_2 - 1)) * ji10)))) / 2 ^ ji8.toNat)=ji30:=shr_small hji30
                 simp only [Option.some.injEq,Prod.mk.injEq] at H
                 obtain ⟨rfl,rfl⟩:=H
                 go_wp2
                 repeat (go_quiet (fail);try go_wp2)
                 go_ret2
                 exact ⟨by rfl,by repeat (first|exact Drawn0.refl _|apply Drawn0.step)⟩
                ·
                 rw [if_neg c29] at H
                 exact absurd H (by simp)
               ·
                rw [if_neg c28] at H
                have c28b0:decide (4294967296≤(IntKind.u64.wrap (x16_2+((ji10) / 4294967296))))=φ:=decide_eq_false c28
                clear c28
                have H':=ζa H
                clear H
                go_wp2
                repeat (go_quiet (fail);try go_wp2)
                go_roundg kj24
                case measure=>have:=HJ18.out;have:=HK2.out;have:=HJ24.out;omega
                case rel=>exact ⟨(IntKind.u64.wrap (x16_2+((ji10) / 4294967296))),(IntKind.u64.wrap (x18_2 - 1)),(by rfl),(by rfl),H',⟨by have:=HJ18.out;have:=HK2.out;have:=HJ24.out;omega⟩,by repeat (first|exact Drawn0.refl _|apply Drawn0.step)⟩
              ·
               replace c27:=Bool.eq_false_iff.mpr c27
               subst c27
               rw [ifF] at H
               by_cases c31:0≤ji8
               ·
                rw [if_pos c31] at H
                have c31b0:=eq_true c31
                have c31b1:=decide_eq_true c31
                clear c31
                obtain ⟨ji32,hji32⟩ : ∃ j_:Int,(shr .u64 (IntKind.u64.wrap ((IntKind.u64.wrap ((IntKind.u64.wrap ((IntKind.u64.wrap ((IntKind.u64.wrap ((IntKind.u64.wrap ((Go.bits .or .u64 (ji12) (ji15)) * 4294967296))+((ji17) / 4294967296))) - (IntKind.u64.wrap (x15_18 * ji10)))) * 4294967296))+(Go.bits .and .u64 (ji17) 4294967295))) - (IntKind.u64.wrap (x18_2 * ji10)))) ji8)=j_:=⟨_,rfl⟩
                replace H:(some (IntKind.u64.wrap ((IntKind.u64.wrap (x15_18 * 4294967296))+x18_2),ji32))=some (r1,r2):=by (rw [hji32] at H;exact H)
                have hji32_:((IntKind.u64.wrap ((IntKind.u64.wrap ((IntKind.u64.wrap ((IntKind.u64.wrap ((IntKind.u64.wrap ((IntKind.u64.wrap ((Go.bits .or .u64 (ji12) (ji15)) * 4294967296))+((ji17) / 4294967296))) - (IntKind.u64.wrap (x15_18 * ji10)))) * 4294967296))+(Go.bits .and .u64 (ji17) 4294967295))) - (IntKind.u64.wrap (x18_2 * ji10)))) / 2 ^ min ji8.toNat 64)=ji32:=hji32
                have hji32z:ji8≤64→((IntKind.u64.wrap ((IntKind.u64.wrap ((IntKind.u64.wrap ((IntKind.u64.wrap ((IntKind.u64.wrap ((IntKind.u64.wrap ((Go.bits .or .u64 (ji12) (ji15)) * 4294967296))+((ji17) / 4294967296))) - (IntKind.u64.wrap (x15_18 * ji10)))) * 4294967296))+(Go.bits .and .u64 (ji17) 4294967295))) - (IntKind.u64.wrap (x18_2 * ji10)))) / 2 ^ ji8.toNat)=ji32:=shr_small hji32
                simp only [Option.some.injEq,Prod.mk.injEq] at H
                obtain ⟨rfl,rfl⟩:=H
                go_wp2
                repeat (go_quiet (fail);try go_wp2)
                go_ret2
                exact ⟨by rfl,by repeat (first|exact Drawn0.refl _|apply Drawn0.step)⟩
               ·
                rw [if_neg c31] at H
                exact absurd H (by simp)
     ·
      rw [if_neg c14] at H
      exact absurd H (by simp)
    ·
     rw [if_neg c9] at H
     exact absurd H (by simp)


open Go.Proofs.YtjhhehjjnfnigaaGreatDoorW.PrintWords renaming gate_callee → δv
set_option maxHeartbeats 8000000
set_option maxRecDepth 100000

/-! ### impl_MulDiv: function 62 -/
def impl_MulDiv.j0:Nat→Int→Int→Int→Bool→Option (Int × Int)
 | 0,_,_,_,_=>none
 | k+1,x0,x1,x2,x24=>if x24=τ then (some (0,4)) else ((bits_Mul64.f (IntKind.u64.wrap (x0)) (IntKind.u64.wrap (x1))).bind fun bt373=>(if bt373.1 ≥ (IntKind.u64.wrap (x2)) then (some (0,13)) else ((bits_Div64.f k bt373.1 bt373.2 (IntKind.u64.wrap (x2))).bind fun bt375=>(if bt375.1 > 1000000000000000000 then (some (0,13)) else (some (ζm (bt375.1),0))))))
def impl_MulDiv.f (k:Nat) (a0:Int) (a1:Int) (a2:Int):Option (Int × Int):=(impl_isAmount.f a0).bind fun t370=>(if t370=τ then ((impl_isAmount.f a1).bind fun t371=>(if t371=τ then ((impl_isSome.f a2).bind fun t372=>(impl_MulDiv.j0 k a0 a1 a2 (!t372))) else (impl_MulDiv.j0 k a0 a1 a2 τ))) else (impl_MulDiv.j0 k a0 a1 a2 τ))
theorem impl_MulDiv.calls (k:Nat) (a0:Int) (a1:Int) (a2:Int) (r1:Int) (r2:Int) (w:World) (h:impl_MulDiv.f k a0 a1 a2=some (r1,r2)) :
  Calls Tryz.prog 62 #[.int .i64 a0,.int .i64 a1,.int .i64 a2] w fun e w'=>e = .returned (.tuple #[.int .i64 r1,.int .i64 r2])∧Drawn0 w w':=by
 have H:((impl_isAmount.f a0).bind fun t370=>(if t370=τ then ((impl_isAmount.f a1).bind fun t371=>(if t371=τ then ((impl_isSome.f a2).bind fun t372=>(impl_MulDiv.j0 k a0 a1 a2 (!t372))) else (impl_MulDiv.j0 k a0 a1 a2 τ))) else (impl_MulDiv.j0 k a0 a1 a2 τ)))=some (r1,r2):=h
 clear h
 have HC4:=ζa H
 clear H
 go_enter Tryz.func62,Tryz.ntmps62
 go_upto_region 1 with (fail)
 go_cut [24] (fun v24 wc => ∃ (kq:Nat) (x24_3:Bool),v24 = .bool x24_3∧Aside0 (impl_MulDiv.j0 kq a0 a1 a2 x24_3=some (r1,r2))∧Aside0 (kq≤k)∧Drawn0 w wc)
 case first =>
  have H:=HC4.out
  clear HC4
  obtain ⟨t370,A5,H⟩:=bsm H
  by_cases c6:t370=τ
  ·
   subst c6
   rw [ifT] at H
   obtain ⟨t371,A7,H⟩:=bsm H
   by_cases c8:t371=τ
   ·
    subst c8
    rw [ifT] at H
    obtain ⟨t372,A9,H⟩:=bsm H
    have H':=ζa H
    clear H
    go_wp2_with (first|((with_reducible refine δv (f:=84) rfl ?_);refine gl 13 Tryz.func84 #[.int .i64 a0] ?_;(with_reducible refine (impl_isAmount.calls a0 τ _ A5.out).mono ?_);rintro e w' ⟨rfl,⟨nd,rfl⟩⟩;refine ⟨_,rfl,?_⟩)|(go_at_call 84;(with_reducible refine (impl_isAmount.calls a1 τ _ A7.out).mono ?_);rintro e w' ⟨rfl,⟨nd,rfl⟩⟩)|(go_at_call 61;(with_reducible refine (impl_isSome.calls a2 t372 _ A9.out).mono ?_);rintro e w' ⟨rfl,⟨nd,rfl⟩⟩))
    go_meet
    case rel=>exact ⟨_,(!t372),(by rfl),H',⟨by omega⟩,by repeat (first|exact Drawn0.refl _|apply Drawn0.step)⟩
   ·
    replace c8:=Bool.eq_false_iff.mpr c8
    subst c8
    rw [ifF] at H
    have H':=ζa H
    clear H
    go_wp2_with (first|((with_reducible refine δv (f:=84) rfl ?_);refine gl 13 Tryz.func84 #[.int .i64 a0] ?_;(with_reducible refine (impl_isAmount.calls a0 τ _ A5.out).mono ?_);rintro e w' ⟨rfl,⟨nd,rfl⟩⟩;refine ⟨_,rfl,?_⟩)|(go_at_call 84;(with_reducible refine (impl_isAmount.calls a1 φ _ A7.out).mono ?_);rintro e w' ⟨rfl,⟨nd,rfl⟩⟩))
    go_meet
    case rel=>exact ⟨_,(τ),(by rfl),H',⟨by omega⟩,by repeat (first|exact Drawn0.refl _|apply Drawn0.step)⟩
  ·
   replace c6:=Bool.eq_false_iff.mpr c6
   subst c6
   rw [ifF] at H
   have H':=ζa H
   clear H
   go_wp2_with (((with_reducible refine δv (f:=84) rfl ?_);refine gl 13 Tryz.func84 #[.int .i64 a0] ?_;(with_reducible refine (impl_isAmount.calls a0 φ _ A5.out).mono ?_);rintro e w' ⟨rfl,⟨nd,rfl⟩⟩;refine ⟨_,rfl,?_⟩))
   go_meet
   case rel=>exact ⟨_,(τ),(by rfl),H',⟨by omega⟩,by repeat (first|exact Drawn0.refl _|apply Drawn0.step)⟩
 case rest =>
  clear HC4
  try clear p2
  try clear c6
  try clear c8
  obtain ⟨kq,x24_3,rfl,HA,HJ3,⟨mc3,rfl⟩⟩:=hcut
  cases kq with
  | zero=>exact absurd HA.out (by simp [impl_MulDiv.j0])
  | succ kj3 =>
   have H:=HA.out
   clear HA
   simp only [impl_MulDiv.j0] at H
   by_cases c10:x24_3=τ
   ·
    subst c10
    rw [ifT] at H
    simp only [Option.some.injEq,Prod.mk.injEq] at H
    obtain ⟨rfl,rfl⟩:=H
    go_wp2
    go_ret2
    exact ⟨by rfl,by repeat (first|exact Drawn0.refl _|apply Drawn0.step)⟩
   ·
    replace c10:=Bool.eq_false_iff.mpr c10
    subst c10
    rw [ifF] at H
    obtain ⟨⟨t373,t374⟩,A11,H⟩:=bsm H
    dsimp only at H
    by_cases c12:t373 ≥ (IntKind.u64.wrap (a2))
    ·
     rw [if_pos c12] at H
     have c12b0:decide ((IntKind.u64.wrap (a2))≤t373)=τ:=decide_eq_true c12
     clear c12
     simp only [Option.some.injEq,Prod.mk.injEq] at H
     obtain ⟨rfl,rfl⟩:=H
     go_wp2_with (((with_reducible refine δv (f:=90) rfl ?_);refine gl 30 Tryz.func90 #[.int .u64 (IntKind.u64.wrap (a0)),.int .u64 (IntKind.u64.wrap (a1))] ?_;(with_reducible refine (bits_Mul64.calls (IntKind.u64.wrap (a0)) (IntKind.u64.wrap (a1)) t373 t374 _ A11.out).mono ?_);rintro e w' ⟨rfl,⟨nd,rfl⟩⟩;refine ⟨_,rfl,?_⟩))
     go_ret2
     exact ⟨by rfl,by repeat (first|exact Drawn0.refl _|apply Drawn0.step)⟩
    ·
     rw [if_neg c12] at H
     have c12b0:decide ((IntKind.u64.wrap (a2))≤t373)=φ:=decide_eq_false c12
     clear c12
     obtain ⟨⟨t375,t376⟩,A13,H⟩:=bsm H
     dsimp only at H
     by_cases c14:t375 > 1000000000000000000
     ·
      rw [if_pos c14] at H
      have c14b0:decide (1000000000000000000<t375)=τ:=decide_eq_true c14
      clear c14
      simp only [Option.some.injEq,Prod.mk.injEq] at H
      obtain ⟨rfl,rfl⟩:=H
      go_wp2_with (first|((with_reducible refine δv (f:=90) rfl ?_);refine gl 30 Tryz.func90 #[.int .u64 (IntKind.u64.wrap (a0)),.int .u64 (IntKind.u64.wrap (a1))] ?_;(with_reducible refine (bits_Mul64.calls (IntKind.u64.wrap (a0)) (IntKind.u64.wrap (a1)) t373 t374 _ A11.out).mono ?_);rintro e w' ⟨rfl,⟨nd,rfl⟩⟩;refine ⟨_,rfl,?_⟩)|((with_reducible refine δv (f:=91) rfl ?_);refine gl 42 Tryz.func91 #[.int .u64 t373,.int .u64 t374,.int .u64 (IntKind.u64.wrap (a2))] ?_;(with_reducible refine (bits_Div64.calls kj3 t373 t374 (IntKind.u64.wrap (a2)) t375 t376 _ A13.out).mono ?_);rintro e w' ⟨rfl,⟨nd,rfl⟩⟩;refine ⟨_,rfl,?_⟩))
      go_ret2
      exact ⟨by rfl,by repeat (first|exact Drawn0.refl _|apply Drawn0.step)⟩
     ·
      rw [if_neg c14] at H
      have c14b0:decide (1000000000000000000<t375)=φ:=decide_eq_false c14
      clear c14
      simp only [Option.some.injEq,Prod.mk.injEq] at H
      obtain ⟨rfl,rfl⟩:=H
      go_wp2_with (first|((with_reducible refine δv (f:=90) rfl ?_);refine gl 30 Tryz.func90 #[.int .u64 (IntKind.u64.wrap (a0)),.int .u64 (IntKind.u64.wrap (a1))] ?_;(with_reducible refine (bits_Mul64.calls (IntKind.u64.wrap (a0)) (IntKind.u64.wrap (a1)) t373 t374 _ A11.out).mono ?_);rintro e w' ⟨rfl,⟨nd,rfl⟩⟩;refine ⟨_,rfl,?_⟩)|((with_reducible refine δv (f:=91) rfl ?_);refine gl 42 Tryz.func91 #[.int .u64 t373,.int .u64 t374,.int .u64 (IntKind.u64.wrap (a2))] ?_;(with_reducible refine (bits_Div64.calls kj3 t373 t374 (IntKind.u64.wrap (a2)) t375 t376 _ A13.out).mono ?_);rintro e w' ⟨rfl,⟨nd,rfl⟩⟩;refine ⟨_,rfl,?_⟩))
      go_ret2
      exact ⟨by rfl,by repeat (first|exact Drawn0.refl _|apply Drawn0.step)⟩


open Go.Proofs.YtjhhehjjnfnigaaGreatDoorW.PrintWords renaming gate_dst → δx, below_step → δr, gate_callee → δv, blk_cell → δl, blk_frozen → δm, blk_drewN → δn, pw_below_drewN → δi
set_option maxHeartbeats 8000000
set_option maxRecDepth 100000

/-! ### impl_Order_fill: function 34 -/
def impl_Order_fill.j0:Nat→Int→Bool→Option (Int × Int)
 | 0,_,_=>none
 | k+1,x6,x23=>if x23=τ then (some (0,13)) else (if x6=0 then (some (0,17)) else (some (x6,0)))
def impl_Order_fill.f (k:Nat) (a0_0:ByteArray) (a0_1:ByteArray) (a0_2:Int) (a0_3:Int) (a0_4:Int) (a0_5:Bool) (a1:Int):Option (Int × Int):=(impl_isSome.f a1).bind fun t378=>(if t378=τ then (if a0_5=τ then ((impl_MulDiv.f k a1 a0_2 a0_3).bind fun bt379=>(if bt379.2=0 then (impl_Order_fill.j0 k bt379.1 (decide (bt379.1 > a0_4))) else (impl_Order_fill.j0 k bt379.1 τ))) else (some (0,16))) else (some (0,4)))
theorem impl_Order_fill.calls (k:Nat) (a0_0:ByteArray) (a0_1:ByteArray) (a0_2:Int) (a0_3:Int) (a0_4:Int) (a0_5:Bool) (a1:Int) (r1:Int) (r2:Int) (w:World) (h:impl_Order_fill.f k a0_0 a0_1 a0_2 a0_3 a0_4 a0_5 a1=some (r1,r2)) :
  Calls Tryz.prog 34 #[.agg #[.string a0_0,.string a0_1,.int .i64 a0_2,.int .i64 a0_3,.int .i64 a0_4,.bool a0_5],.int .i64 a1] w fun e w'=>e = .returned (.tuple #[.int .i64 r1,.int .i64 r2])∧Below w.heap.size w w':=by
 have hu46:=Tryz.underlying46
 have HB:=ζa (Below.refl w.heap.size w)
 have H:((impl_isSome.f a1).bind fun t378=>(if t378=τ then (if a0_5=τ then ((impl_MulDiv.f k a1 a0_2 a0_3).bind fun bt379=>(if bt379.2=0 then (impl_Order_fill.j0 k bt379.1 (decide (bt379.1 > a0_4))) else (impl_Order_fill.j0 k bt379.1 τ))) else (some (0,16))) else (some (0,4))))=some (r1,r2):=h
 clear h
 obtain ⟨t378,A3,H⟩:=bsm H
 by_cases c4:t378=τ
 ·
  subst c4
  rw [ifT] at H
  by_cases c5:a0_5=τ
  ·
   subst c5
   rw [ifT] at H
   obtain ⟨⟨t379,t380⟩,A6,H⟩:=bsm H
   dsimp only at H
   have HC7:=ζa H
   clear H
   go_enter Tryz.func34,Tryz.ntmps34
   go_upto_region 6 with (first|((with_reducible refine δx (N:=2) rfl ?_);refine bev 2 #[.string a0_0,.string a0_1,.int .i64 a0_2,.int .i64 a0_3,.int .i64 a0_4,.bool τ] 46 ?_;intro gb377 hg w8 hbox hb;have BK377:=ζa (hbox);have GW377:=ζa (gbw hg (by exact HB.out));have GE377:=ζa (gbw hg (by exact HB.out));replace HB:=ζa (δr (by exact HB.out) hb);clear hb hbox hg)|((with_reducible refine δv (f:=61) rfl ?_);refine gl 9 Tryz.func61 #[.int .i64 a1] ?_;(with_reducible refine (impl_isSome.calls a1 τ _ A3.out).mono ?_);rintro e w' ⟨rfl,⟨nd,rfl⟩⟩;refine ⟨_,rfl,?_⟩;have hcz9_0:w8.cell? ⟨gb377,0,none⟩=some (.string a0_0):=(δl BK377.out 0).trans rfl;have hcz9_1:w8.cell? ⟨gb377,1,none⟩=some (.string a0_1):=(δl BK377.out 1).trans rfl;have hcz9_2:w8.cell? ⟨gb377,2,none⟩=some (.int .i64 a0_2):=(δl BK377.out 2).trans rfl;have hcz9_3:w8.cell? ⟨gb377,3,none⟩=some (.int .i64 a0_3):=(δl BK377.out 3).trans rfl;have hcz9_4:w8.cell? ⟨gb377,4,none⟩=some (.int .i64 a0_4):=(δl BK377.out 4).trans rfl;have hcz9_5:w8.cell? ⟨gb377,5,none⟩=some (.bool τ):=(δl BK377.out 5).trans rfl;have hfz9_0:=δm BK377.out 0;have hfz9_1:=δm BK377.out 1;have hfz9_2:=δm BK377.out 2;have hfz9_3:=δm BK377.out 3;have hfz9_4:=δm BK377.out 4;have hfz9_5:=δm BK377.out 5)|((with_reducible refine δv (f:=62) rfl ?_);refine gl 20 Tryz.func62 #[.int .i64 a1,.int .i64 a0_2,.int .i64 a0_3] ?_;(with_reducible refine (impl_MulDiv.calls k a1 a0_2 a0_3 t379 t380 _ A6.out).mono ?_);rintro e w' ⟨rfl,⟨nd,rfl⟩⟩;refine ⟨_,rfl,?_⟩))
   (try simp only [ζl,δa,δb,δc])
   go_cut [23] (fun v23 wc => ∃ (kq:Nat) (x23_6:Bool),v23 = .bool x23_6∧Aside0 (impl_Order_fill.j0 kq t379 x23_6=some (r1,r2))∧Aside0 (kq≤k)∧Aside0 (wc.heap[gb377]? = some (.cells #[.string a0_0,.string a0_1,.int .i64 a0_2,.int .i64 a0_3,.int .i64 a0_4,.bool τ] 46 (0,0)))∧Aside0 (Below w.heap.size w wc))
   case first =>
    have H:=HC7.out
    clear HC7
    by_cases c10:t380=0
    ·
     rw [if_pos c10] at H
     have c10b0:=beq_iff_eq.mpr c10
     have c10b1:=bne_eq_false_iff_eq.mpr c10
     clear c10
     have H':=ζa H
     clear H
     have hcz11_0:w8.cell? ⟨gb377,0,none⟩=some (.string a0_0):=(δl BK377.out 0).trans rfl
     have hcz11_1:w8.cell? ⟨gb377,1,none⟩=some (.string a0_1):=(δl BK377.out 1).trans rfl
     have hcz11_2:w8.cell? ⟨gb377,2,none⟩=some (.int .i64 a0_2):=(δl BK377.out 2).trans rfl
     have hcz11_3:w8.cell? ⟨gb377,3,none⟩=some (.int .i64 a0_3):=(δl BK377.out 3).trans rfl
     have hcz11_4:w8.cell? ⟨gb377,4,none⟩=some (.int .i64 a0_4):=(δl BK377.out 4).trans rfl
     have hcz11_5:w8.cell? ⟨gb377,5,none⟩=some (.bool τ):=(δl BK377.out 5).trans rfl
     have hfz11_0:=δm BK377.out 0
     have hfz11_1:=δm BK377.out 1
     have hfz11_2:=δm BK377.out 2
     have hfz11_3:=δm BK377.out 3
     have hfz11_4:=δm BK377.out 4
     have hfz11_5:=δm BK377.out 5
     go_wp2
     go_meet
     case rel=>exact ⟨_,(decide (t379 > a0_4)),(by rfl),H',⟨by omega⟩,⟨by (with_reducible repeat (refine δn ?_ _));exact BK377.out⟩,⟨by repeat ((with_reducible first|exact HB.out|apply δi))⟩⟩
    ·
     rw [if_neg c10] at H
     have c10b0:=beq_eq_false_iff_ne.mpr c10
     have c10b1:=bne_iff_ne.mpr c10
     have H':=ζa H
     clear H
     go_wp2
     go_meet
     case rel=>exact ⟨_,(τ),(by rfl),H',⟨by omega⟩,⟨by (with_reducible repeat (refine δn ?_ _));exact BK377.out⟩,⟨by repeat ((with_reducible first|exact HB.out|apply δi))⟩⟩
   case rest =>
    clear HC7
    try clear c1
    try clear p2
    try clear c3
    try clear c4
    try clear c5
    try clear c6
    try clear c10
    try clear c10b0
    try clear c10b1
    try clear hcz11_0
    try clear hcz11_1
    try clear hcz11_2
    try clear hcz11_3
    try clear hcz11_4
    try clear hcz11_5
    try clear hcz9_0
    try clear hcz9_1
    try clear hcz9_2
    try clear hcz9_3
    try clear hcz9_4
    try clear hcz9_5
    try clear hfz11_0
    try clear hfz11_1
    try clear hfz11_2
    try clear hfz11_3
    try clear hfz11_4
    try clear hfz11_5
    try clear hfz9_0
    try clear hfz9_1
    try clear hfz9_2
    try clear hfz9_3
    try clear hfz9_4
    try clear hfz9_5
    obtain ⟨kq,x23_6,rfl,HA,HJ6,BK377,HB⟩:=hcut
    cases kq with
    | zero=>exact absurd HA.out (by simp [impl_Order_fill.j0])
    | succ kj6 =>
     have H:=HA.out
     clear HA
     simp only [impl_Order_fill.j0] at H
     by_cases c12:x23_6=τ
     ·
      subst c12
      rw [ifT] at H
      simp only [Option.some.injEq,Prod.mk.injEq] at H
      obtain ⟨rfl,rfl⟩:=H
      go_wp2
      go_ret2
      exact ⟨by rfl,by repeat ((with_reducible exact HB.out))⟩
     ·
      replace c12:=Bool.eq_false_iff.mpr c12
      subst c12
      rw [ifF] at H
      by_cases c13:t379=0
      ·
       rw [if_pos c13] at H
       have c13b0:=beq_iff_eq.mpr c13
       have c13b1:=bne_eq_false_iff_eq.mpr c13
       clear c13
       simp only [Option.some.injEq,Prod.mk.injEq] at H
       obtain ⟨rfl,rfl⟩:=H
       go_wp2
       go_ret2
       exact ⟨by rfl,by repeat ((with_reducible exact HB.out))⟩
      ·
       rw [if_neg c13] at H
       have c13b0:=beq_eq_false_iff_ne.mpr c13
       have c13b1:=bne_iff_ne.mpr c13
       simp only [Option.some.injEq,Prod.mk.injEq] at H
       obtain ⟨rfl,rfl⟩:=H
       go_wp2
       go_ret2
       exact ⟨by rfl,by repeat ((with_reducible exact HB.out))⟩
  ·
   replace c5:=Bool.eq_false_iff.mpr c5
   subst c5
   rw [ifF] at H
   simp only [Option.some.injEq,Prod.mk.injEq] at H
   obtain ⟨rfl,rfl⟩:=H
   go_enter Tryz.func34,Tryz.ntmps34
   go_wp2_with (first|((with_reducible refine δx (N:=2) rfl ?_);refine bev 2 #[.string a0_0,.string a0_1,.int .i64 a0_2,.int .i64 a0_3,.int .i64 a0_4,.bool φ] 46 ?_;intro gb377 hg w14 hbox hb;have BK377:=ζa (hbox);have GW377:=ζa (gbw hg (by exact HB.out));have GE377:=ζa (gbw hg (by exact HB.out));replace HB:=ζa (δr (by exact HB.out) hb);clear hb hbox hg)|((with_reducible refine δv (f:=61) rfl ?_);refine gl 9 Tryz.func61 #[.int .i64 a1] ?_;(with_reducible refine (impl_isSome.calls a1 τ _ A3.out).mono ?_);rintro e w' ⟨rfl,⟨nd,rfl⟩⟩;refine ⟨_,rfl,?_⟩;have hcz15_0:w14.cell? ⟨gb377,0,none⟩=some (.string a0_0):=(δl BK377.out 0).trans rfl;have hcz15_1:w14.cell? ⟨gb377,1,none⟩=some (.string a0_1):=(δl BK377.out 1).trans rfl;have hcz15_2:w14.cell? ⟨gb377,2,none⟩=some (.int .i64 a0_2):=(δl BK377.out 2).trans rfl;have hcz15_3:w14.cell? ⟨gb377,3,none⟩=some (.int .i64 a0_3):=(δl BK377.out 3).trans rfl;have hcz15_4:w14.cell? ⟨gb377,4,none⟩=some (.int .i64 a0_4):=(δl BK377.out 4).trans rfl;have hcz15_5:w14.cell? ⟨gb377,5,none⟩=some (.bool φ):=(δl BK377.out 5).trans rfl;have hfz15_0:=δm BK377.out 0;have hfz15_1:=δm BK377.out 1;have hfz15_2:=δm BK377.out 2;have hfz15_3:=δm BK377.out 3;have hfz15_4:=δm BK377.out 4;have hfz15_5:=δm BK377.out 5))
   go_ret2
   exact ⟨by rfl,by repeat ((with_reducible first|exact HB.out|apply δi))⟩
 ·
  replace c4:=Bool.eq_false_iff.mpr c4
  subst c4
  rw [ifF] at H
  simp only [Option.some.injEq,Prod.mk.injEq] at H
  obtain ⟨rfl,rfl⟩:=H
  go_enter Tryz.func34,Tryz.ntmps34
  go_wp2_with (first|((with_reducible refine δx (N:=2) rfl ?_);refine bev 2 #[.string a0_0,.string a0_1,.int .i64 a0_2,.int .i64 a0_3,.int .i64 a0_4,.bool a0_5] 46 ?_;intro gb377 hg w16 hbox hb;have BK377:=ζa (hbox);have GW377:=ζa (gbw hg (by exact HB.out));have GE377:=ζa (gbw hg (by exact HB.out));replace HB:=ζa (δr (by exact HB.out) hb);clear hb hbox hg)|((with_reducible refine δv (f:=61) rfl ?_);refine gl 9 Tryz.func61 #[.int .i64 a1] ?_;(with_reducible refine (impl_isSome.calls a1 φ _ A3.out).mono ?_);rintro e w' ⟨rfl,⟨nd,rfl⟩⟩;refine ⟨_,rfl,?_⟩))
  go_ret2
  exact ⟨by rfl,by repeat ((with_reducible first|exact HB.out|apply δi))⟩


open Go.Proofs.YtjhhehjjnfnigaaGreatDoorW.PrintWords.Kd renaming R_reads' → ζg, R_drew → ζe
open Go.Proofs.YtjhhehjjnfnigaaGreatDoorW.PrintWords renaming below_drew1 → δj
open Go.Proofs.YtjhhehjjnfnigaaGreatDoorW.PrintLast renaming pure_ → ζk
set_option maxHeartbeats 8000000
set_option maxRecDepth 100000


/-! ### slices_Delete_impl_Pair_impl_Pair: function 92 -/
theorem slices_Delete_impl_Pair_impl_Pair.clear_one {W:World} {g n c:Nat} {cur:Array Value} (hg:W.heap[g]? = some (.cells cur 37 (0,0))) (hcs:(n - 1) * 2+1<cur.size) (hn:1≤n) :
  (Builtin.clear_ #[24] 0 #[.slice (some ⟨g,(n - 1) * 2,none⟩) (n - (n - 1)) (c - (n - 1))]).run Tryz.prog W = .ok (.tuple #[]) ((W.setCell ⟨g,(n - 1) * 2,none⟩ (.string ⟨#[]⟩)).setCell ⟨g,(n - 1) * 2+1,none⟩ (.string ⟨#[]⟩)):=by
 have e:n - (n - 1)=1:=by omega
 rw [e]
 generalize (n - 1) * 2=o at *
 have hz : ∀ w,(zeroValue 37).run Tryz.prog w = .ok (.agg #[.string ⟨#[]⟩,.string ⟨#[]⟩]) w:=fun w=>by kernel_rfl
 have hst:=run_storeCells_cells (P:=Tryz.prog) g o [.string ⟨#[]⟩,.string ⟨#[]⟩] 0 W
  (fun j hj=>by
   simp only [World.cell?,hg]
   simp at hj
   rcases (show j=0 ∨ j=1 by omega) with rfl|rfl
   · simp;omega
   ·
    simp;omega)
  (fun j hj=>by simp [World.frozen?,hg]) (by intro v hv;simp at hv;subst hv;rfl)
 simp only [Nat.add_zero] at hst
 have hzc:(Builtin.zeroCells (Value.agg #[.string ⟨#[]⟩,.string ⟨#[]⟩]).cells 1).toList = [.string ⟨#[]⟩,.string ⟨#[]⟩]:=by kernel_rfl
 simp [Builtin.clear_,run_underlying Tryz.underlying24,hz,hzc,hst,World.setCells]
theorem slices_Delete_impl_Pair_impl_Pair.R_spare {w:World} {base g n cap:Nat} {xs:List S37} (h:Kd.R k37 37 w base (fun _=>True) (.slice (some ⟨g,0,none⟩) n cap) xs) (j:Nat) (hj:n * 2≤j) (u:Value) :
  Kd.R k37 37 (w.setCell ⟨g,j,none⟩ u) base (fun _=>True) (.slice (some ⟨g,0,none⟩) n cap) xs:=by
 have hn:=(ζg h).1
 obtain ⟨hok,inner,hown,hr⟩:=h
 refine ⟨hok,inner,?_,hr.imp_ (fun p c hp=>by rw [k37_openM hp];exact k37_mkM _ _ _ p)⟩
 rw [← hn] at hown ⊢
 have h1:=(hown.stored j u).1
 have hl:inner.length=n * 2:=hown.1
 rw [List.set_eq_of_length_le (by omega)] at h1
 exact h1
theorem slices_Delete_impl_Pair_impl_Pair.calls (base g n c i:Nat) (xs:List S37) (w0 w:World) (ho:Kd.R k37 37 w base (fun _=>True) (.slice (some ⟨g,0,none⟩) n c) xs) (hi:i<n) (hn:n≤1000000) (hnc:n≤c) (hc:c≤9223372036854775807) (hb:Below base w0 w) (hbs:base≤w.heap.size) :
  Calls Tryz.prog 92 #[.slice (some ⟨g,0,none⟩) n c,.int .i64 i,.int .i64 ((i+1:Nat):Int)] w fun e w'=>e = .returned (.slice (some ⟨g,0,none⟩) (n - 1) c)∧Kd.R k37 37 w' base (fun _=>True) (.slice (some ⟨g,0,none⟩) (n - 1) c) (xs.eraseIdx i)∧Below base w0 w':=by
 have HO:=ζa ho
 have HB:=ζa hb
 clear ho hb
 go_enter Tryz.func92,Tryz.ntmps92
 go_wp2_with fail
 have hil:(i+1)≤n:=by omega
 have hlen:=ζa (ζg HO.out).1
 have HB1:=ζa (δj HB.out)
 have HO1:=ζa (ζe HO.out)
 clear HB HO
 refine start_ (n:=8) (S:=fun _=>True) (ds:=[]) #[φ,φ,φ,φ,φ,φ,φ,φ] (by kernel_rfl) rfl rfl trivial (fun hHeld => ?_)
 have hbs1:base≤w.drew.heap.size:=hbs
 clear hbs
 generalize w.drew=w1 at HB1 HO1 hbs1 ⊢
 refine ζk (i:=0) (N:=some 20) (v:=?_) (a':=?_) #[τ,φ,φ,φ,φ,φ,φ,φ] rfl rfl (by kernel_rfl) (fun _ _ _ h=>h) (Or.inl ⟨by rfl,?_⟩) ?_ ?_
 rotate_left
 · intro w';go_simp;with_reducible rfl
 rotate_left
 · simp only [ζl,δa,δb,δc,i64_w,i32_w];rfl
 refine ζk (i:=1) (N:=some 21) (v:=?_) (a':=?_) #[τ,τ,φ,φ,φ,φ,φ,φ] rfl rfl (by kernel_rfl) (fun _ _ _ h=>h) (Or.inl ⟨by rfl,?_⟩) ?_ ?_
 rotate_left
 · intro w';go_simp;with_reducible rfl
 rotate_left
 · simp only [ζl,δa,δb,δc,i64_w,i32_w];rfl
 refine ζk (i:=2) (N:=some 22) (v:=?_) (a':=?_) #[τ,τ,τ,φ,φ,φ,φ,φ] rfl rfl (by kernel_rfl) (fun _ _ _ h=>h) (Or.inl ⟨by rfl,?_⟩) ?_ ?_
 rotate_left
 ·
  intro w'
  go_simp
  rw [if_pos (by omega)]
 rotate_left
 · simp only [ζl,δa,δb,δc,i64_w,i32_w];rfl
 refine ζk (i:=3) (N:=some 23) (v:=?_) (a':=?_) #[τ,τ,τ,τ,φ,φ,φ,φ] rfl rfl (by kernel_rfl) (fun _ _ _ h=>h) (Or.inl ⟨by rfl,?_⟩) ?_ ?_
 rotate_left
 · intro w';go_simp;with_reducible rfl
 rotate_left
 · simp only [ζl,δa,δb,δc,i64_w,i32_w];rfl
 refine ζk (i:=4) (N:=some 24) (v:=?_) (a':=?_) #[τ,τ,τ,τ,τ,φ,φ,φ] rfl rfl (by kernel_rfl) (fun _ _ _ h=>h) (Or.inl ⟨by rfl,?_⟩) ?_ ?_
 rotate_left
 · intro w';go_simp;with_reducible rfl
 rotate_left
 · simp only [ζl,δa,δb,δc,i64_w,i32_w];rfl
 refine ζk (i:=5) (N:=some 25) (v:=?_) (a':=?_) #[τ,τ,τ,τ,τ,τ,φ,φ] rfl rfl (by kernel_rfl) (fun _ _ _ h=>h) (Or.inl ⟨by rfl,?_⟩) ?_ ?_
 rotate_left
 ·
  intro w'
  go_simp
  rw [if_pos (by omega)]
 rotate_left
 · simp only [ζl,δa,δb,δc,i64_w,i32_w];rfl
 refine one_ (i:=6) (N:=some 26) #[τ,τ,τ,τ,τ,τ,τ,φ] rfl rfl (by kernel_rfl) (by decide) (fun K hK => ?_)
 refine Kd.R_delete_step (w0:=w0) k37 base (by rfl) (.tmp 22) (.tmp 25) 24 37 rfl Tryz.underlying24 (by kernel_rfl) (g:=g) (n:=n) (c:=c) (k:=i) (m:=n - (i+1)) (c2:=c - (i+1)) (ok:=fun _=>True) rfl rfl ?hA rfl HO1.out hi HB1.out hbs1 ?_
 case hA =>
  by_cases hc1:c=i+1
  · rw [if_pos hc1,if_pos hc1]
  ·
   rw [if_neg hc1,if_neg hc1,Option.map_some,add_plain]
   rfl
 intro w2 ho2 hb2 hg2
 refine hK.out _ _ trivial (fun hHeld => ?_)
 clear hK K
 refine nm 26 ?_
 refine ζk (i:=7) (N:=some 0) (v:=?_) (a':=?_) #[τ,τ,τ,τ,τ,τ,τ,τ] rfl rfl (by kernel_rfl) (fun _ _ _ h=>h) (Or.inl ⟨by rfl,?_⟩) ?_ ?_
 rotate_left
 · intro w';go_simp;with_reducible rfl
 rotate_left
 · simp only [ζl,δa,δb,δc,i64_w,i32_w];rfl
 refine done_ (by kernel_rfl) ?_
 generalize (if c=i+1 then some (⟨g,0,none⟩:Addr) else some ⟨g,(i+1) * 2,none⟩)=vv
 have hrow : ∃ cur:Array Value,w2.heap[g]? = some (.cells cur 37 (0,0))∧cur.size=c * 2:=by
  obtain ⟨_,inner,hown,_⟩:=ho2
  rcases hown.2 with ⟨h',_⟩|⟨g',cap',cur,h',_,hg,_,_,hcs,_⟩
  · simp at h'
  ·
   simp only [Value.slice.injEq,Option.some.injEq,Addr.mk.injEq,and_true,true_and] at h'
   obtain ⟨rfl,_,rfl⟩:=h'
   exact ⟨cur,hg,hcs⟩
 obtain ⟨cur,hcur,hcsz⟩:=hrow
 have hcl:=slices_Delete_impl_Pair_impl_Pair.clear_one (n:=n) (c:=c) hcur (by rw [hcsz];omega) (by omega)
 have HO3:=ζa (slices_Delete_impl_Pair_impl_Pair.R_spare (slices_Delete_impl_Pair_impl_Pair.R_spare ho2 ((n - 1) * 2) (Nat.le_refl _) (.string ⟨#[]⟩)) ((n - 1) * 2+1) (Nat.le_succ _) (.string ⟨#[]⟩))
 have hge:base≤g:=Kd.R_base ho2 g rfl
 have HB3:=ζa ((hb2.setCell (p:=⟨g,(n - 1) * 2,none⟩) hge (.string ⟨#[]⟩)).setCell (p:=⟨g,(n - 1) * 2+1,none⟩) hge (.string ⟨#[]⟩))
 clear hcur hcsz ho2 hb2 hg2 HB1 HO1
 go_wp2
 go_ret
 exact ⟨rfl,HO3.out,HB3.out⟩


open Go.Proofs.YtjhhehjjnfnigaaGreatDoorW.PrintWords.Kd renaming R_below → ζh, R_reads' → ζg
open Go.Proofs.YtjhhehjjnfnigaaGreatDoorW.PrintWords renaming below_step → δr
set_option maxHeartbeats 8000000
set_option maxRecDepth 100000


/-! ### impl_drop: function 63 -/
def impl_drop.f (k:Nat) (l0:List (S37)) (a1:ByteArray):Option (List (S37) × Int) :=
 if l0.length≤1000000 then ((impl_pairAt.f k l0 a1).bind fun b=>if b.2=τ then (if 0≤b.1 then (if b.1<(l0.length:Int) then some (l0.eraseIdx b.1.toNat,0) else none) else none) else some (l0,5)) else none
theorem impl_drop.calls (k:Nat) (A0:Option Addr) (c0:Nat) (l0:List (S37)) (a1:ByteArray) (r1:List (S37)) (r2:Int) (w:World) (hr0:Kd.C k37 w A0 l0.length l0) (hc0:l0.length≤c0) (h:impl_drop.f k l0 a1=some (r1,r2)) :
  Calls Tryz.prog 63 #[.slice A0 l0.length c0,.string a1] w fun e w' => ∃ v0_:Value,e = .returned (.tuple #[v0_,.int .i64 r2])∧Kd.R k37 37 w' w.heap.size (fun _=>True) v0_ r1∧Below w.heap.size w w':=by
 unfold impl_drop.f at h
 by_cases hl:l0.length≤1000000
 ·
  rw [if_pos hl] at h
  obtain ⟨⟨b1,b2⟩,h1,h⟩:=Option.bind_eq_some_iff.mp h
  have H1:=ζa h1
  have HL:=ζa hl
  have HR0:=ζa hr0
  have HC0:=ζa hc0
  have HCL:Aside0 (slices_Clone_impl_Pair_impl_Pair.f l0=some l0):=⟨by unfold slices_Clone_impl_Pair_impl_Pair.f;rw [if_pos (by omega)]⟩
  clear h1 hr0 hc0 hl
  cases b2 with
  | false =>
   simp only [Bool.false_eq_true,if_false,Option.some.injEq,Prod.mk.injEq] at h
   obtain ⟨rfl,rfl⟩:=h
   go_enter Tryz.func63,Tryz.ntmps63
   go_wp2_with fail
   refine (slices_Clone_impl_Pair_impl_Pair.calls A0 c0 l0 l0 _ HR0.out HC0.out HCL.out).mono ?_
   rintro e w' ⟨v,rfl,ho,hb⟩
   obtain ⟨A,c,rfl,hnc,hrc⟩:=Kd.R_reads ho
   have HO:=ζa ho
   have HB:=ζa hb
   have HC:=ζa hrc
   have HN:=ζa hnc
   clear ho hb hrc hnc
   go_wp2_with fail
   refine (impl_pairAt.calls k A c l0 a1 b1 φ _ HC.out HN.out H1.out).mono ?_
   rintro e w2 ⟨rfl,hb2⟩
   have HO2:=ζa (ζh HO.out hb2)
   have HB2:=ζa (δr HB.out hb2)
   clear hb2
   go_wp2
   go_ret2
   exact ⟨_,rfl,HO2.out,HB2.out⟩
  | true =>
   simp only [if_true] at h
   by_cases g1:0≤b1
   ·
    rw [if_pos g1] at h
    by_cases g2:b1<(l0.length:Int)
    ·
     rw [if_pos g2] at h
     simp only [Option.some.injEq,Prod.mk.injEq] at h
     obtain ⟨rfl,rfl⟩:=h
     obtain ⟨i,rfl⟩ : ∃ i:Nat,b1=(i:Int):=⟨b1.toNat,by omega⟩
     have hi:i<l0.length:=by omega
     have HI:=ζa hi
     have hib:i≤1000000:=by have:=HL.out;omega
     clear g1 g2 hi
     go_enter Tryz.func63,Tryz.ntmps63
     go_wp2_with fail
     refine (slices_Clone_impl_Pair_impl_Pair.calls A0 c0 l0 l0 _ HR0.out HC0.out HCL.out).mono ?_
     rintro e w' ⟨v,rfl,ho,hb⟩
     have hshape : ∃ g c,v = .slice (some ⟨g,0,none⟩) l0.length c∧l0.length≤c∧c≤maxLen:=by
      obtain ⟨_,inner,hown,_⟩:=ho
      rcases hown.2 with ⟨_,h0⟩|⟨g,cap,cur,hv,_,_,hn,hm,_⟩
      · have:=HI.out;omega
      ·
       exact ⟨g,cap,hv,hn,hm⟩
     obtain ⟨g,c,rfl,hnc,hcm⟩:=hshape
     have HC:=ζa (ζg ho).2.2
     have HO:=ζa ho
     have HB:=ζa hb
     have HN:=ζa hnc
     have HM:=ζa hcm
     clear ho hb hnc hcm
     go_wp2_with fail
     refine (impl_pairAt.calls k (some ⟨g,0,none⟩) c l0 a1 i τ _ HC.out HN.out H1.out).mono ?_
     rintro e w2 ⟨rfl,hb2⟩
     have HO2:=ζa (ζh HO.out hb2)
     have HB2:=ζa (δr HB.out hb2)
     clear hb2
     go_wp2_with fail
     refine (slices_Delete_impl_Pair_impl_Pair.calls w.heap.size g l0.length c i l0 w _ HO2.out HI.out HL.out HN.out (by have:=HM.out;unfold maxLen at this;omega) HB2.out HB2.out.size).mono ?_
     rintro e w3 ⟨rfl,ho3,hb3⟩
     have HO3:=ζa ho3
     have HB3:=ζa hb3
     clear ho3 hb3
     go_wp2
     go_ret2
     exact ⟨_,rfl,HO3.out,HB3.out⟩
    · rw [if_neg g2] at h;cases h
   ·
    rw [if_neg g1] at h;cases h
 · rw [if_neg hl] at h;cases h


open Bool renaming true → τ
set_option maxHeartbeats 8000000
set_option maxRecDepth 100000


/-! ### impl_all: function 35 -/
/-- A function value and what it captures. -/
abbrev FV:=Nat × Array Value
def encF (x:FV):Value:=.func (.func x.1) #[] x.2
/-- A function value that does F to a store: in this world and in all later ones. -/
structure Chg (w:World) (x:FV) (F:List S37→Option (List S37 × Int)):Prop where
 enters : ∀ args w,(callFunc x.1 args).run Tryz.prog w = .ok (.enter x.1 args) w
 calls : ∀ (W:World) (A:Option Addr) (c:Nat) (l r:List S37) (code:Int),Below w.heap.size w W→Kd.C k37 W A l.length l→l.length≤c→F l=some (r,code) →
  Calls Tryz.prog x.1 (#[.slice A l.length c] ++ x.2) W fun e W' => ∃ v0,e = .returned (.tuple #[v0,.int .i64 code])∧(code=0→Kd.R k37 37 W' W.heap.size (fun _=>True) v0 r)∧Below W.heap.size W W'
theorem Chg.below {w W:World} {x:FV} {F:List S37→Option (List S37 × Int)} (h:Chg w x F) (hb:Below w.heap.size w W):Chg W x F :=
 ⟨h.enters,fun W2 A c l r code hb2=>h.calls W2 A c l r code (δr hb hb2)⟩
/-- The same,and what it hands back is always its own. -/
structure ChgR (w:World) (x:FV) (F:List S37→Option (List S37 × Int)):Prop where
 enters : ∀ args w,(callFunc x.1 args).run Tryz.prog w = .ok (.enter x.1 args) w
 calls : ∀ (W:World) (A:Option Addr) (c:Nat) (l r:List S37) (code:Int),Below w.heap.size w W→Kd.C k37 W A l.length l→l.length≤c→F l=some (r,code) →
  Calls Tryz.prog x.1 (#[.slice A l.length c] ++ x.2) W fun e W' => ∃ v0,e = .returned (.tuple #[v0,.int .i64 code])∧Kd.R k37 37 W' W.heap.size (fun _=>True) v0 r∧Below W.heap.size W W'
theorem ChgR.below {w W:World} {x:FV} {F:List S37→Option (List S37 × Int)} (h:ChgR w x F) (hb:Below w.heap.size w W):ChgR W x F :=
 ⟨h.enters,fun W2 A c l r code hb2=>h.calls W2 A c l r code (δr hb hb2)⟩
theorem ChgR.chg {w:World} {x:FV} {F:List S37→Option (List S37 × Int)} (h:ChgR w x F):Chg w x F :=
 ⟨h.enters,fun W A c l r code hb hr hc hF=>(h.calls W A c l r code hb hr hc hF).mono (fun _ _ ⟨v,e,ho,hb⟩=>⟨v,e,fun _=>ho,hb⟩)⟩
theorem chg_nil {w:World} : ∀ (i:Nat) (x:FV) (F:List S37→Option (List S37 × Int)),([]:List FV)[i]? = some x→([]:List (List S37→Option (List S37 × Int)))[i]? = some F→Chg w x F:=fun _ _ _ h=>by simp at h
theorem chg_cons {w:World} {x0:FV} {F0:List S37→Option (List S37 × Int)} {xs:List FV} {Fs:List (List S37→Option (List S37 × Int))} (h:Chg w x0 F0) (t : ∀ (i:Nat) x F,xs[i]? = some x→Fs[i]? = some F→Chg w x F) : ∀ (i:Nat) x F,(x0 :: xs)[i]? = some x→(F0 :: Fs)[i]? = some F→Chg w x F
 | 0,x,F,hx,hF=>by
  simp only [List.getElem?_cons_zero,Option.some.injEq] at hx hF
  subst hx hF
  exact h
 | i+1,x,F,hx,hF=>t i x F (by simpa using hx) (by simpa using hF)
def kF:Kd FV:=Kd.scalar encF (fun _=>rfl)
theorem at_F {w:World} {A:Option Addr} {n:Nat} {xs:List FV} (h:kF.C w A n xs) (i:Int) (h0:0≤i) (h1:i<n) : ∃ ad,A=some ad∧w.cell? (ad.add i.toNat)=some (encF (rdOf (0,#[]) xs i)) :=
 ReadsOf.at_ (Kd.reads_of_C (enc:=encF) (d:=(0,#[])) (h1:=fun _=>rfl) h) i h0 h1
def impl_all.go (k:Nat) (l0:List S37):List (List S37→Option (List S37 × Int))→List S37→Option (List S37 × Int)
 | [],o=>some (o,0)
 | F :: Fs,o=>(F o).bind fun b=>if b.2=0 then impl_all.go k l0 Fs b.1 else (impl_drop.f k l0 ⟨#[]⟩).bind fun d=>some (d.1,b.2)
def impl_all.f (k:Nat) (l0:List S37) (Fs:List (List S37→Option (List S37 × Int))):Option (List S37 × Int):=(impl_drop.f k l0 ⟨#[]⟩).bind fun d=>impl_all.go k l0 Fs d.1
theorem impl_all.calls (k:Nat) (A0:Option Addr) (c0:Nat) (l0:List S37) (B:Option Addr) (cB:Nat) (xs:List FV) (Fs:List (List S37→Option (List S37 × Int))) (r1:List S37) (r2:Int) (w:World) (hr0:Kd.C k37 w A0 l0.length l0) (hc0:l0.length≤c0) (hx:kF.C w B xs.length xs) (hlen:xs.length=Fs.length) (hchg : ∀ (i:Nat) x F,xs[i]? = some x→Fs[i]? = some F→Chg w x F) (h:impl_all.f k l0 Fs=some (r1,r2)) :
  Calls Tryz.prog 35 #[.slice A0 l0.length c0,.slice B xs.length cB] w fun e w' => ∃ v0_:Value,e = .returned (.tuple #[v0_,.int .i64 r2])∧Kd.R k37 37 w' w.heap.size (fun _=>True) v0_ r1∧Below w.heap.size w w':=by
 obtain ⟨⟨d1,d2⟩,h1,h⟩:=Option.bind_eq_some_iff.mp h
 have H1:=ζa h1
 have HG:=ζa h
 have HR0:=ζa hr0
 have HC0:=ζa hc0
 have HX:=ζa hx
 have HL:=ζa hlen
 have HCH:=ζa hchg
 have hmax:xs.length≤9223372036854775807:=hx.2.1
 clear h1 h hr0 hc0 hx hlen hchg
 go_enter Tryz.func35,Tryz.ntmps35
 go_wp2_with fail
 refine (impl_drop.calls k A0 c0 l0 ⟨#[]⟩ d1 d2 _ HR0.out HC0.out H1.out).mono ?_
 rintro e w1 ⟨v,rfl,ho,hb⟩
 have HO:=ζa ho
 have HB:=ζa hb
 clear ho hb
 go_wp2_with fail
 go_loopg [6,21] xs.length (fun gg s6 s21 wr => ∃ (kk:Nat) (o:List S37),kk≤xs.length∧xs.length - kk≤gg∧s21 = .int .i64 kk∧Aside0 (Kd.R k37 37 wr w.heap.size (fun _=>True) s6 o)∧Aside0 (impl_all.go k l0 (Fs.drop kk) o=some (r1,r2))∧Aside0 (Below w.heap.size w wr))
 case atStart=>exact ⟨0,d1,Nat.zero_le _,by omega,rfl,⟨by repeat (exact HO.out)⟩,HG,⟨by repeat (exact HB.out)⟩⟩
 case round =>
  clear HO HB HG
  obtain ⟨kk,o,hkk,hg,rfl,HO,HG,HB⟩:=hrel
  by_cases hlt:kk<xs.length
  ·
   have hltz:(kk:Int)<(xs.length:Int):=by omega
   have p0:0≤(kk:Int):=by omega
   obtain ⟨ad,e1,hx0⟩:=at_F HX.out kk p0 hltz
   cases e1
   rw [Int.toNat_natCast] at hx0
   replace hx0:=(HB.out.cell (World.block_lt_of_cell? w _ hx0)).trans hx0
   have hxk:xs[kk]? = some (rdOf (0,#[]) xs kk):=by
    simp only [rdOf,Int.toNat_natCast,List.getD_eq_getElem?_getD]
    rw [List.getElem?_eq_getElem hlt];rfl
   have hFk:kk<Fs.length:=by rw [← HL.out];exact hlt
   have hch:=HCH.out kk _ (Fs[kk]) hxk (List.getElem?_eq_getElem hFk)
   have hG:=HG.out
   rw [List.drop_eq_getElem_cons hFk] at hG
   obtain ⟨⟨n1,n2⟩,hF,hG⟩:=Option.bind_eq_some_iff.mp hG
   generalize rdOf (0,#[]) xs kk=x at *
   obtain ⟨g,lb⟩:=x
   replace hx0:wr.cell? (ad.add kk)=some (.func (.func g) #[] lb):=hx0
   have eg:=hch.enters
   replace eg : ∀ args w,(callFunc g args).run Tryz.prog w = .ok (.enter g args) w:=eg
   obtain ⟨A,c,rfl,hnc,hrc⟩:=Kd.R_reads HO.out
   have HCHG:=ζa hch
   have HF:=ζa hF
   have HO':=HO
   clear hch hF hxk
   go_wp2_with fail
   refine (HCHG.out.calls _ A c o n1 n2 (by repeat (exact HB.out)) (by repeat (exact hrc)) hnc HF.out).mono ?_
   rintro e w2 ⟨v2,rfl,ho2,hb2⟩
   have HB2:=ζa (δr HB.out hb2)
   have HO2:Aside0 (n2=0→Kd.R k37 37 w2 w.heap.size (fun _=>True) v2 n1):=⟨fun h0=>Kd.R_lower (ho2 h0) HB.out.size⟩
   clear ho2 hb2 hrc
   by_cases c2:n2=0
   ·
    subst c2
    rw [if_pos rfl] at hG
    have HG2:=ζa hG
    have HO3:=ζa (HO2.out rfl)
    clear hG HO2 HO HO' HB HG
    go_wp2
    go_roundg (xs.length - (kk+1))
    case measure=>omega
    case rel=>exact ⟨kk+1,n1,by omega,by omega,by go_num,HO3,HG2,HB2⟩
   ·
    rw [if_neg c2] at hG
    obtain ⟨⟨z1,z2⟩,hd,hG⟩:=Option.bind_eq_some_iff.mp hG
    simp only [Option.some.injEq,Prod.mk.injEq] at hG
    obtain ⟨rfl,rfl⟩:=hG
    have HD:=ζa hd
    have c2b:(n2 != 0)=τ:=bne_iff_ne.mpr c2
    clear hd c2
    go_wp2_with fail
    refine (impl_drop.calls k A0 c0 l0 ⟨#[]⟩ z1 z2 _ (by repeat (exact Kd.C_below HR0.out HB2.out)) HC0.out HD.out).mono ?_
    rintro e w3 ⟨v3,rfl,ho3,hb3⟩
    have HB3:=ζa (δr HB2.out hb3)
    have HO3:=ζa (Kd.R_lower ho3 HB2.out.size)
    clear ho3 hb3
    go_wp2
    go_ret2
    exact ⟨_,rfl,HO3.out,HB3.out⟩
  ·
   have hltz : ¬ (kk:Int)<(xs.length:Int):=by omega
   have hk:kk=xs.length:=by omega
   have hG:=HG.out
   rw [hk,HL.out,List.drop_length] at hG
   simp only [impl_all.go,Option.some.injEq,Prod.mk.injEq] at hG
   obtain ⟨rfl,rfl⟩:=hG
   go_wp2
   go_ret2
   exact ⟨_,rfl,HO.out,HB.out⟩


set_option maxHeartbeats 8000000
set_option maxRecDepth 100000

/-! ### impl_SubAmount: function 93 -/
def impl_SubAmount.j0:Nat→Int→Int→Bool→Option (Int × Int)
 | 0,_,_,_=>none
 | k+1,x0,x1,x6=>if x6=τ then (some (0,4)) else (if x0<x1 then (some (0,12)) else (some (ζm (x0 - x1),0)))
def impl_SubAmount.f (k:Nat) (a0:Int) (a1:Int):Option (Int × Int):=(impl_isAmount.f a0).bind fun t381=>(if t381=τ then ((impl_isAmount.f a1).bind fun t382=>(impl_SubAmount.j0 k a0 a1 (!t382))) else (impl_SubAmount.j0 k a0 a1 τ))
theorem impl_SubAmount.calls (k:Nat) (a0:Int) (a1:Int) (r1:Int) (r2:Int) (w:World) (h:impl_SubAmount.f k a0 a1=some (r1,r2)) :
  Calls Tryz.prog 93 #[.int .i64 a0,.int .i64 a1] w fun e w'=>e = .returned (.tuple #[.int .i64 r1,.int .i64 r2])∧Drawn0 w w':=by
 have H:((impl_isAmount.f a0).bind fun t381=>(if t381=τ then ((impl_isAmount.f a1).bind fun t382=>(impl_SubAmount.j0 k a0 a1 (!t382))) else (impl_SubAmount.j0 k a0 a1 τ)))=some (r1,r2):=h
 clear h
 have HC3:=ζa H
 clear H
 go_enter Tryz.func93,Tryz.ntmps93
 go_upto_region 1 with (fail)
 go_cut [6] (fun v6 wc => ∃ (kq:Nat) (x6_2:Bool),v6 = .bool x6_2∧Aside0 (impl_SubAmount.j0 kq a0 a1 x6_2=some (r1,r2))∧Aside0 (kq≤k)∧Drawn0 w wc)
 case first =>
  have H:=HC3.out
  clear HC3
  obtain ⟨t381,A4,H⟩:=bsm H
  by_cases c5:t381=τ
  ·
   subst c5
   rw [ifT] at H
   obtain ⟨t382,A6,H⟩:=bsm H
   have H':=ζa H
   clear H
   go_wp2_with (first|((with_reducible refine δv (f:=84) rfl ?_);refine gl 8 Tryz.func84 #[.int .i64 a0] ?_;(with_reducible refine (impl_isAmount.calls a0 τ _ A4.out).mono ?_);rintro e w' ⟨rfl,⟨nd,rfl⟩⟩;refine ⟨_,rfl,?_⟩)|(go_at_call 84;(with_reducible refine (impl_isAmount.calls a1 t382 _ A6.out).mono ?_);rintro e w' ⟨rfl,⟨nd,rfl⟩⟩))
   go_meet
   case rel=>exact ⟨_,(!t382),(by rfl),H',⟨by omega⟩,by repeat (first|exact Drawn0.refl _|apply Drawn0.step)⟩
  ·
   replace c5:=Bool.eq_false_iff.mpr c5
   subst c5
   rw [ifF] at H
   have H':=ζa H
   clear H
   go_wp2_with (((with_reducible refine δv (f:=84) rfl ?_);refine gl 8 Tryz.func84 #[.int .i64 a0] ?_;(with_reducible refine (impl_isAmount.calls a0 φ _ A4.out).mono ?_);rintro e w' ⟨rfl,⟨nd,rfl⟩⟩;refine ⟨_,rfl,?_⟩))
   go_meet
   case rel=>exact ⟨_,(τ),(by rfl),H',⟨by omega⟩,by repeat (first|exact Drawn0.refl _|apply Drawn0.step)⟩
 case rest =>
  clear HC3
  try clear p2
  try clear c5
  obtain ⟨kq,x6_2,rfl,HA,HJ2,⟨mc2,rfl⟩⟩:=hcut
  cases kq with
  | zero=>exact absurd HA.out (by simp [impl_SubAmount.j0])
  | succ kj2 =>
   have H:=HA.out
   clear HA
   simp only [impl_SubAmount.j0] at H
   by_cases c7:x6_2=τ
   ·
    subst c7
    rw [ifT] at H
    simp only [Option.some.injEq,Prod.mk.injEq] at H
    obtain ⟨rfl,rfl⟩:=H
    go_wp2
    go_ret2
    exact ⟨by rfl,by repeat (first|exact Drawn0.refl _|apply Drawn0.step)⟩
   ·
    replace c7:=Bool.eq_false_iff.mpr c7
    subst c7
    rw [ifF] at H
    by_cases c8:a0<a1
    ·
     rw [if_pos c8] at H
     have c8b0:=decide_eq_true c8
     clear c8
     simp only [Option.some.injEq,Prod.mk.injEq] at H
     obtain ⟨rfl,rfl⟩:=H
     go_wp2
     go_ret2
     exact ⟨by rfl,by repeat (first|exact Drawn0.refl _|apply Drawn0.step)⟩
    ·
     rw [if_neg c8] at H
     have c8b0:=decide_eq_false c8
     clear c8
     simp only [Option.some.injEq,Prod.mk.injEq] at H
     obtain ⟨rfl,rfl⟩:=H
     go_wp2
     go_ret2
     exact ⟨by rfl,by repeat (first|exact Drawn0.refl _|apply Drawn0.step)⟩


open Go.Proofs.YtjhhehjjnfnigaaGreatDoorW.PrintWords renaming gate_callee → δv, below_step → δr
set_option maxHeartbeats 8000000
set_option maxRecDepth 100000

/-! ### impl_amountAt: function 94 -/
def impl_amountAt.f (k:Nat) (l0:List (S37)) (a1:ByteArray):Option (Int):=(impl_get.f k l0 a1).bind fun bt383=>((impl_readAmount.f bt383.1).bind fun bt385=>(some bt385.1))
theorem impl_amountAt.calls (k:Nat) (A0:Option Addr) (c0:Nat) (l0:List (S37)) (a1:ByteArray) (r:Int) (w:World) (hr0:Kd.C k37 w A0 l0.length l0) (hc0:l0.length≤c0) (hT0:TabsOK w) (h:impl_amountAt.f k l0 a1=some r) :
  Calls Tryz.prog 94 #[.slice A0 l0.length c0,.string a1] w fun e w'=>e = .returned (.int .i64 r)∧Below w.heap.size w w':=by
 have HT0:=ζa hT0
 clear hT0
 have HR0:=ζa hr0
 have HC0:=ζa hc0
 clear hr0 hc0
 have HB:=ζa (Below.refl w.heap.size w)
 have H:((impl_get.f k l0 a1).bind fun bt383=>((impl_readAmount.f bt383.1).bind fun bt385=>(some bt385.1)))=some r:=h
 clear h
 obtain ⟨⟨t383,t384⟩,A3,H⟩:=bsm H
 dsimp only at H
 obtain ⟨⟨t385,t386⟩,A4,H⟩:=bsm H
 dsimp only at H
 obtain rfl:=Option.some.inj H
 go_enter Tryz.func94,Tryz.ntmps94
 go_wp2_with (first|((with_reducible refine δv (f:=58) rfl ?_);refine gl 12 Tryz.func58 #[.slice A0 l0.length c0,.string a1] ?_;(with_reducible refine (impl_get.calls k _ _ l0 a1 t383 t384 _ ?side1 ?side2 A3.out).mono ?_);(case side1=>repeat (exact HR0.out));(case side2=>exact HC0.out);rintro e w5 ⟨rfl,hb⟩;refine ⟨_,rfl,?_⟩;replace HB:=ζa (δr (by exact HB.out) hb);(try clear hb);(try clear hb2);(try clear hk);(try clear hi))|((with_reducible refine δv (f:=56) rfl ?_);refine gl 17 Tryz.func56 #[.string t383] ?_;(with_reducible refine (impl_readAmount.calls t383 t385 t386 _ (HT0.out.below (by exact HB.out)) A4.out).mono ?_);rintro e w6 ⟨rfl,hb⟩;refine ⟨_,rfl,?_⟩;replace HB:=ζa (δr (by exact HB.out) hb);(try clear hb);(try clear hb2);(try clear hk);(try clear hi)))
 go_ret
 exact ⟨by rfl,by repeat ((with_reducible exact HB.out))⟩


open List renaming length_take → δh, length_drop → δg
open Go.Proofs.YtjhhehjjnfnigaaGreatDoorW.PrintWords.Kd renaming R_reads' → ζg
open Go.Proofs.YtjhhehjjnfnigaaGreatDoorW.PrintWords renaming below_drew1 → δj, gate_dst → δx
set_option maxHeartbeats 8000000
set_option maxRecDepth 100000


/-! ### slices_Insert_impl_Pair_impl_Pair: function 97 -/
theorem slices_Insert_impl_Pair_impl_Pair.cell_at {W:World} {g:Nat} {cur:Array Value} (hg:W.heap[g]? = some (.cells cur 37 (0,0))) (j:Nat):W.cell? ⟨g,j,none⟩=cur[j]?:=by
 simp [World.cell?,hg]
theorem slices_Insert_impl_Pair_impl_Pair.reps {α:Type} {R:α→List Value→Prop} {ps:List α} {cs new:List Value} {p:α} (h:Reps R 2 ps cs) (hp:R p new) (hc:new.length=2) (i:Nat) (hi:i≤ps.length) :
  Reps R 2 (ps.insertIdx i p) (cs.take (i * 2) ++ new ++ cs.drop (i * 2)):=by
 have hl:=h.1
 have ht:(cs.take (i * 2)).length=i * 2:=by rw [δh];omega
 refine ⟨by rw [List.length_insertIdx_of_le_length hi,List.length_append,List.length_append,ht,hc,δg];omega,fun j q hq => ?_⟩
 rw [List.getElem?_insertIdx] at hq
 have e : ∀ d:List Value,d.drop (j * 2)=d.drop (j * 2):=fun _=>rfl
 split at hq
 ·
  rename_i hj
  have:=h.2 j q hq
  rw [List.append_assoc,List.drop_append_of_le_length (by omega),List.take_append_of_le_length (by rw [δg];omega),List.drop_take,List.take_take,Nat.min_eq_left (by omega)]
  exact this
 ·
  rename_i hj
  split at hq
  ·
   rename_i hji
   subst hji
   rw [if_pos hi] at hq
   have hq':p=q:=by simpa using hq
   subst hq'
   rw [List.append_assoc,List.drop_append,ht,Nat.sub_self,List.drop_zero,List.drop_of_length_le (by omega),List.nil_append,List.take_append_of_le_length (by omega),List.take_of_length_le (by omega)]
   exact hp
  ·
   rename_i hji
   have:=h.2 (j - 1) q hq
   rw [List.drop_append,List.length_append,ht,hc,List.drop_of_length_le (by rw [List.length_append];omega),List.nil_append,List.drop_drop,show i * 2+(j * 2 - (i * 2+2))=(j - 1) * 2 by omega]
   exact this
theorem slices_Insert_impl_Pair_impl_Pair.one {w:World} {base:Nat} {ok:Nat→Prop} {xs:List S37} {cs:List Value} (h:Reps (k37.M w base ok) 2 xs cs) : ∀ v ∈ cs,v.oneCell'=τ:=by
 intro v hv
 obtain ⟨k,hk,rfl⟩:=List.getElem_of_mem hv
 have hl:=h.1
 have hj:k / 2<xs.length:=by omega
 have hs:=k37_openM (h.2 (k / 2) _ (List.getElem?_eq_getElem hj))
 have hm:cs[k] ∈ (cs.drop (k / 2 * 2)).take 2:=by
  refine List.mem_iff_getElem?.2 ⟨k % 2,?_⟩
  rw [List.getElem?_take,if_pos (by omega),List.getElem?_drop,show k / 2 * 2+k % 2=k by omega,List.getElem?_eq_getElem hk]
 rw [hs] at hm
 simp at hm
 rcases hm with e|e <;> (rw [e];rfl)
theorem slices_Insert_impl_Pair_impl_Pair.room (base g n c i vb:Nat) (xs:List S37) (p:S37) (w0 w:World) (ho:Kd.R k37 37 w base (fun _=>True) (.slice (some ⟨g,0,none⟩) n c) xs) (hi:i<n) (hroom:n+1≤c) (hn:n≤1000000) (hc:c≤9223372036854775807) (hv:w.heap[vb]? = some (.cells #[.string p.f0,.string p.f1] 37 (0,0))) (hvb:vb≠g) (hb:Below base w0 w) :
  Calls Tryz.prog 97 #[.slice (some ⟨g,0,none⟩) n c,.int .i64 i,.slice (some ⟨vb,0,none⟩) 1 1] w fun e w'=>e = .returned (.slice (some ⟨g,0,none⟩) (n+1) c)∧Kd.R k37 37 w' base (fun _=>True) (.slice (some ⟨g,0,none⟩) (n+1) c) (xs.insertIdx i p)∧Below base w0 w':=by
 have hnl:=(ζg ho).1
 obtain ⟨hok,inner,hown,hr⟩:=ho
 have hin:=hown.1
 rcases hown.2 with ⟨h',_⟩|⟨g',cap',cur,h',hbg,hg,hnc2,hcm,hcs,htk⟩
 · simp at h'
 simp only [Value.slice.injEq,Option.some.injEq,Addr.mk.injEq,and_true,true_and] at h'
 obtain ⟨rfl,hnx,rfl⟩:=h'
 have hs2:k37.sz=2:=rfl
 rw [hs2] at hin hcs htk
 obtain ⟨CU,hCU⟩ : ∃ CU,CU=cur.toList:=⟨_,rfl⟩
 have hCUl:CU.length=c * 2:=by rw [hCU,Array.length_toList,hcs]
 obtain ⟨cs1,hcs1⟩ : ∃ cs1,cs1=(CU.drop (i * 2)).take ((n - i) * 2):=⟨_,rfl⟩
 have hl1:cs1.length=(n - i) * 2:=by rw [hcs1,δh,δg];omega
 obtain ⟨row1,hrow1⟩ : ∃ row1,row1=CU.take ((i+1) * 2) ++ cs1 ++ CU.drop ((n+1) * 2):=⟨_,rfl⟩
 obtain ⟨row2,hrow2⟩ : ∃ row2,row2=row1.take (i * 2) ++ [.string p.f0,.string p.f1] ++ row1.drop (i * 2+2):=⟨_,rfl⟩
 have hl2:row1.length=c * 2:=by rw [hrow1];simp only [List.length_append,δh,δg,hl1];omega
 have hci:cs1=inner.drop (i * 2):=by rw [hcs1,← htk,← hCU,List.drop_take,← hnx];congr 1;omega
 have h1c : ∀ v ∈ cs1,v.oneCell'=τ:=fun v hv=>slices_Insert_impl_Pair_impl_Pair.one hr v (by rw [hci] at hv;exact List.mem_of_mem_drop hv)
 have hsz:(Tryz.prog.info? 37).map (·.size)=some 2:=by kernel_rfl
 have hcp1 : ∀ ty dc sc,(Builtin.copy_ #[24,24] ty #[.slice (some ⟨g,(i+1) * 2,none⟩) (n - i) dc,.slice (some ⟨g,i * 2,none⟩) (n+1 - i) sc]).run Tryz.prog w.drew = .ok (goInt ((n - i:Nat):Int)) (w.drew.setRow g row1.toArray):=fun ty dc sc=>by
  have h:=U.run_copy_row_n (P:=Tryz.prog) w.drew 24 24 ty 37 g ((i+1) * 2) (n - i) dc ⟨g,i * 2,none⟩ (n+1 - i) sc cur 37 cs1 2 (n - i) Tryz.underlying24 hsz hg (by simp only [Nat.min_def];split <;> omega) hl1
   (fun j v hj=>by
    rw [Addr.add_lit,slices_Insert_impl_Pair_impl_Pair.cell_at (W:=w.drew) hg,← Array.getElem?_toList,← hCU]
    rw [hcs1,List.getElem?_take] at hj
    split at hj
    · rwa [List.getElem?_drop] at hj
    ·
     cases hj) (by rw [hl1,hcs];omega) h1c
  rw [h,← hCU,hl1,show (i+1) * 2+(n - i) * 2=(n+1) * 2 by omega,← hrow1]
 have hcp2 : ∀ W:World,W.heap[g]? = some (.cells row1.toArray 37 (0,0))→W.heap[vb]? = some (.cells #[.string p.f0,.string p.f1] 37 (0,0)) → ∀ ty dc,(Builtin.copy_ #[24,24] ty #[.slice (some ⟨g,i * 2,none⟩) (n+1 - i) dc,.slice (some ⟨vb,0,none⟩) 1 1]).run Tryz.prog W = .ok (goInt ((1:Nat):Int)) (W.setRow g row2.toArray):=fun W hW hV ty dc=>by
  have h:=U.run_copy_row_n (P:=Tryz.prog) W 24 24 ty 37 g (i * 2) (n+1 - i) dc ⟨vb,0,none⟩ 1 1 row1.toArray 37 [.string p.f0,.string p.f1] 2 1 Tryz.underlying24 hsz hW (by simp only [Nat.min_def];split <;> omega) rfl
   (fun j v hj=>by
    rw [Addr.add_lit,slices_Insert_impl_Pair_impl_Pair.cell_at hV]
    rcases j with _|_|j
    · simpa using hj
    ·
     simpa using hj
    · simp at hj) (by simp only [List.length_cons,List.length_nil,List.size_toArray,hl2];omega) (by intro v hv;simp at hv;rcases hv with rfl|rfl <;> rfl)
  rw [h,hrow2]
  simp only [List.length_cons,List.length_nil]
 have hov : ∀ lb cb,(callFunc 110 #[.slice (some ⟨vb,0,none⟩) 1 1,.slice (some ⟨g,(i+1) * 2,none⟩) lb cb]).run Tryz.prog w = .ok (.value (.bool φ)) w:=fun lb cb=>by
  rw [run_callFunc_extern Tryz.func110 (by kernel_rfl) (by kernel_rfl) (by kernel_rfl) (e:=Extern.SlicesOverlaps.overlaps #[24,24] #[4]) (by kernel_rfl),
   Lib.run_overlaps_apart w 24 4 37 Tryz.underlying24 2 (fun w=>by kernel_rfl) ⟨vb,0,none⟩ ⟨g,(i+1) * 2,none⟩ 1 1 lb cb hvb 37 37 2 (c * 2) (by simp [World.shape?,hv]) (by simp [World.shape?,hg,hcs]) (by omega) (by simp [World.frozen?,hv]) (by simp [World.frozen?,hv])]
  rfl
 have hR : ∀ W:World,W.heap[g]? = some (.cells row2.toArray 37 (0,0))→Kd.R k37 37 W base (fun _=>True) (.slice (some ⟨g,0,none⟩) (n+1) c) (xs.insertIdx i p):=fun W hW=>by
  have hrr:=slices_Insert_impl_Pair_impl_Pair.reps (hr.imp_ (fun q z hq=>(by rw [k37_openM hq];exact k37_mkM _ _ _ q:k37.M W base (fun k=>True∧some k≠(Value.slice (some ⟨g,0,none⟩) (n+1) c).ownBlock) q z))) (k37_mkM _ _ _ p) rfl i (by omega)
  have hlen:(xs.insertIdx i p).length=n+1:=by rw [List.length_insertIdx_of_le_length (by omega)];omega
  have hmid:=U.ins_list CU [.string p.f0,.string p.f1] i n 2 (by omega) rfl (by omega)
  have htk2:row2.take ((n+1) * 2)=inner.take (i * 2) ++ [.string p.f0,.string p.f1] ++ inner.drop (i * 2):=by
   rw [hrow2,hrow1,hcs1,hmid,List.take_append_of_le_length (by simp only [List.length_append,δh,δg,List.length_cons,List.length_nil];omega),List.take_of_length_le (by simp only [List.length_append,δh,δg,List.length_cons,List.length_nil];omega),← htk,← hCU,List.take_take,Nat.min_eq_left (by omega),← hnx]
  refine ⟨fun _ _=>trivial,_,⟨?_,Or.inr ⟨g,c,row2.toArray,by rw [hlen],hbg,hW,by omega,hcm,?_,?_⟩⟩,hrr⟩
  · rw [hs2];exact hrr.1
  ·
   rw [hs2,List.size_toArray,hrow2]
   simp only [List.length_append,δh,δg,List.length_cons,List.length_nil,hl2]
   omega
  · rw [hs2,hlen];exact htk2
 have hz2 : ¬ ((i:Int)=(n:Int)):=by omega
 have hw1:IntKind.i64.wrap ((i:Int)+(1:Int))=(i:Int)+(1:Int):=by rw [IntKind.wrap_i64];omega
 have hb1:(0:Int)≤(i:Int)+(1:Int):=by omega
 have htn:((i:Int)+(1:Int)).toNat=i+1:=by omega
 have hb2 : ¬ (c=i+1):=by omega
 have hb3:(i:Int)≤(n:Int)+(1:Int):=by omega
 have hb4 : ¬ (c=i):=by omega
 have hil:i≤n:=by omega
 have mixed:Tryz.prog.follows Departure.mixedOrders=τ:=by kernel_rfl
 have hgW:=setRow_heap w.drew g cur row1.toArray 37 (0,0) hg
 have hvW:(w.drew.setRow g row1.toArray).heap[vb]? = some (.cells #[.string p.f0,.string p.f1] 37 (0,0)):=by
  rw [setRow_other w.drew g vb _ hvb];exact hv
 have hgF:=setRow_heap (w.drew.setRow g row1.toArray) g row1.toArray row2.toArray 37 (0,0) hgW
 have HR:=ζa (hR _ hgF)
 have HB:=ζa (below_setRow (below_setRow (δj hb) hbg row1.toArray) hbg row2.toArray)
 have hcp2':=hcp2 _ hgW hvW
 clear hR hcp2 hrow2 hrow1 hcs1 hCU hCUl hl1 hl2 htk hcs hin hown hr hok hb hgF hgW hvW h1c hv hnl hnx hnc2
 go_enter Tryz.func97,Tryz.ntmps97
 go_wp2_with (simp only [hov])
 go_region_law_o (refine step_copy_runI rfl _ _ 24 24 rfl _ _ (by simp [Act.eval,ζl]) (by simp [Act.eval,ζl]) (hcp1 _ _ _) ?_)
 go_wp2_with (at_builtin;refine wpList_copy_runI _ rfl _ _ 24 24 rfl _ _ rfl rfl (hcp2' _ _) ?_)
 go_ret
 exact ⟨rfl,HR.out,HB.out⟩
theorem slices_Insert_impl_Pair_impl_Pair.grow (base g n c i vb:Nat) (xs:List S37) (p:S37) (w0 w:World) (ho:Kd.R k37 37 w base (fun _=>True) (.slice (some ⟨g,0,none⟩) n c) xs) (hi:i<n) (hnc:n≤c) (hroom:c<n+1) (hn:n≤1000000) (hv:w.heap[vb]? = some (.cells #[.string p.f0,.string p.f1] 37 (0,0))) (hb:Below base w0 w) (hbs:base≤w.heap.size) :
  Calls Tryz.prog 97 #[.slice (some ⟨g,0,none⟩) n c,.int .i64 i,.slice (some ⟨vb,0,none⟩) 1 1] w fun e w' => ∃ v0,e = .returned v0∧Kd.R k37 37 w' base (fun _=>True) v0 (xs.insertIdx i p)∧Below base w0 w':=by
 have hnl:=(ζg ho).1
 obtain ⟨hok,inner,hown,hr⟩:=ho
 have hin:=hown.1
 rcases hown.2 with ⟨h',_⟩|⟨g',cap',cur,h',hbg,hg,hnc2,hcm,hcs,htk⟩
 · simp at h'
 simp only [Value.slice.injEq,Option.some.injEq,Addr.mk.injEq,and_true,true_and] at h'
 obtain ⟨rfl,hnx,rfl⟩:=h'
 have hs2:k37.sz=2:=rfl
 rw [hs2] at hin hcs htk
 obtain ⟨CU,hCU⟩ : ∃ CU,CU=cur.toList:=⟨_,rfl⟩
 have hCUl:CU.length=c * 2:=by rw [hCU,Array.length_toList,hcs]
 obtain ⟨cs1,hci⟩ : ∃ cs1,cs1=inner.drop (i * 2):=⟨_,rfl⟩
 have hinl:inner.length=n * 2:=by rw [hin,hnl]
 have hl1:cs1.length=(n - i) * 2:=by rw [hci,δg];omega
 have h1c : ∀ v ∈ cs1,v.oneCell'=τ:=fun v hv=>slices_Insert_impl_Pair_impl_Pair.one hr v (by rw [hci] at hv;exact List.mem_of_mem_drop hv)
 have hsz:(Tryz.prog.info? 37).map (·.size)=some 2:=by kernel_rfl
 obtain ⟨i0,hi0,hzz⟩:=Option.map_eq_some_iff.1 info37
 simp only [Prod.mk.injEq] at hzz
 obtain ⟨hz0,hzs,hzb⟩:=hzz
 have hgw:g<w.heap.size:=(Array.getElem?_eq_some_iff.1 hg).1
 have hvw:vb<w.heap.size:=(Array.getElem?_eq_some_iff.1 hv).1
 have hkk:(n:Int)+(1:Int) - (i:Int)=((n+1 - i:Nat):Int):=by omega
 have hik:i+(n+1 - i)=n+1:=by omega
 have hold:(Builtin.firstCells i0.size i (.slice (some ⟨g,0,none⟩) i c)).run Tryz.prog w.drew = .ok (inner.take (i * 2)).toArray w.drew:=by
  rw [hzs]
  exact run_firstCells_some w.drew 2 i ⟨g,0,none⟩ i c (inner.take (i * 2)) (by rw [δh];omega) (fun j v hj=>by
   rw [Addr.add_lit,Nat.zero_add,slices_Insert_impl_Pair_impl_Pair.cell_at (W:=w.drew) hg,← Array.getElem?_toList]
   rw [List.getElem?_take] at hj
   split at hj
   ·
    rw [← htk,List.getElem?_take] at hj
    split at hj
    · exact hj
    ·
     cases hj
   · cases hj)
 have hrz : ∀ ty,(Builtin.append_ #[24,3] ty #[.slice (some ⟨g,0,none⟩) i c,.int .i64 ((n:Int)+(1:Int) - (i:Int))]).run Tryz.prog w = .ok (.slice (some ⟨w.heap.size,0,none⟩) (n+1) (grownCap w (n+1) c 37)) (w.drew.alloc (.cells ((inner.take (i * 2)).toArray ++ Builtin.zeroCells (Value.agg #[.string ⟨#[]⟩,.string ⟨#[]⟩]).cells (n+1 - i) ++ Builtin.zeroCells (Value.agg #[.string ⟨#[]⟩,.string ⟨#[]⟩]).cells (grownCap w (n+1) c 37 - (n+1))) 37)):=fun ty=>by
  have h:=Lib.run_append_grow_zeros w 24 3 ty 37 i0 _ .i64 .i64 Tryz.underlying24 Tryz.underlying3 hi0 hz0 (some ⟨g,0,none⟩) i c _ hold (n+1 - i) (by omega) (by rw [hzs];omega) (by omega) (by omega) (by rw [hzb];omega) (by rw [hzb,hik];exact growslice_fits hroom (by omega))
  rw [hik] at h
  rw [hkk]
  exact h
 obtain ⟨G,hG⟩ : ∃ G,G=grownCap w (n+1) c 37:=⟨_,rfl⟩
 rw [← hG] at hrz
 obtain ⟨ROW,hROW⟩ : ∃ ROW:Array Value,ROW=(inner.take (i * 2)).toArray ++ Builtin.zeroCells (Value.agg #[.string ⟨#[]⟩,.string ⟨#[]⟩]).cells (n+1 - i) ++ Builtin.zeroCells (Value.agg #[.string ⟨#[]⟩,.string ⟨#[]⟩]).cells (G - (n+1)):=⟨_,rfl⟩
 rw [← hROW] at hrz
 have hRl:ROW.toList.length=G * 2:=by
  have hGn:n+1≤G:=by rw [hG];exact grownCap_ge w _ _ _
  rw [hROW]
  simp [Builtin.zeroCells,Value.cells]
  omega
 have hGn:n+1≤G:=by rw [hG];exact grownCap_ge w _ _ _
 have hG63:G≤maxLen:=by rw [hG];exact grownCap_le_maxLen w (n+1) c _ (by unfold maxLen;omega)
 have hRt:ROW.toList.take (i * 2)=inner.take (i * 2):=by
  rw [hROW]
  simp only [Array.toList_append,List.append_assoc]
  rw [List.take_append_of_le_length (by rw [δh];omega),List.take_take,Nat.min_self]
 obtain ⟨rowA,hrowA⟩ : ∃ rowA,rowA=ROW.toList.take (i * 2) ++ [.string p.f0,.string p.f1] ++ ROW.toList.drop (i * 2+2):=⟨_,rfl⟩
 have hlA:rowA.length=G * 2:=by rw [hrowA];simp only [List.length_append,δh,δg,List.length_cons,List.length_nil,hRl];omega
 obtain ⟨rowB,hrowB⟩ : ∃ rowB,rowB=rowA.take ((i+1) * 2) ++ cs1 ++ rowA.drop ((n+1) * 2):=⟨_,rfl⟩
 obtain ⟨N,hN⟩ : ∃ N,N=w.heap.size:=⟨_,rfl⟩
 have hcpA : ∀ W:World,W.heap[N]? = some (.cells ROW 37 (0,0))→W.heap[vb]? = some (.cells #[.string p.f0,.string p.f1] 37 (0,0)) → ∀ ty dc,(Builtin.copy_ #[24,24] ty #[.slice (some ⟨N,i * 2,none⟩) (n+1 - i) dc,.slice (some ⟨vb,0,none⟩) 1 1]).run Tryz.prog W = .ok (goInt ((1:Nat):Int)) (W.setRow N rowA.toArray):=fun W hW hV ty dc=>by
  have h:=U.run_copy_row_n (P:=Tryz.prog) W 24 24 ty 37 N (i * 2) (n+1 - i) dc ⟨vb,0,none⟩ 1 1 ROW 37 [.string p.f0,.string p.f1] 2 1 Tryz.underlying24 hsz hW (by simp only [Nat.min_def];split <;> omega) rfl
   (fun j v hj=>by
    rw [Addr.add_lit,slices_Insert_impl_Pair_impl_Pair.cell_at hV]
    rcases j with _|_|j
    · simpa using hj
    ·
     simpa using hj
    · simp at hj) (by rw [Array.length_toList] at hRl;simp only [List.length_cons,List.length_nil,hRl];omega) (by intro v hv;simp at hv;rcases hv with rfl|rfl <;> rfl)
  rw [h,hrowA]
  simp only [List.length_cons,List.length_nil]
 have hcpB : ∀ W:World,W.heap[N]? = some (.cells rowA.toArray 37 (0,0))→W.heap[g]? = some (.cells cur 37 (0,0)) → ∀ ty dc sc,(Builtin.copy_ #[24,24] ty #[.slice (some ⟨N,(i+1) * 2,none⟩) (n - i) dc,.slice (some ⟨g,i * 2,none⟩) (n - i) sc]).run Tryz.prog W = .ok (goInt ((n - i:Nat):Int)) (W.setRow N rowB.toArray):=fun W hW hV ty dc sc=>by
  have h:=U.run_copy_row_n (P:=Tryz.prog) W 24 24 ty 37 N ((i+1) * 2) (n - i) dc ⟨g,i * 2,none⟩ (n - i) sc rowA.toArray 37 cs1 2 (n - i) Tryz.underlying24 hsz hW (by simp only [Nat.min_def];split <;> omega) hl1
   (fun j v hj=>by
    rw [Addr.add_lit,slices_Insert_impl_Pair_impl_Pair.cell_at hV,← Array.getElem?_toList]
    rw [hci,← htk,List.getElem?_drop,List.getElem?_take] at hj
    split at hj
    · exact hj
    ·
     cases hj) (by rw [hl1,List.size_toArray,hlA];omega) h1c
  rw [h,hl1,show (i+1) * 2+(n - i) * 2=(n+1) * 2 by omega,hrowB]
 have hR : ∀ W:World,W.heap[N]? = some (.cells rowB.toArray 37 (0,0))→Kd.R k37 37 W base (fun _=>True) (.slice (some ⟨N,0,none⟩) (n+1) G) (xs.insertIdx i p):=fun W hW=>by
  have hrr:=slices_Insert_impl_Pair_impl_Pair.reps (hr.imp_ (fun q z hq=>(by rw [k37_openM hq];exact k37_mkM _ _ _ q:k37.M W base (fun k=>True∧some k≠(Value.slice (some ⟨N,0,none⟩) (n+1) G).ownBlock) q z))) (k37_mkM _ _ _ p) rfl i (by omega)
  have hlen:(xs.insertIdx i p).length=n+1:=by rw [List.length_insertIdx_of_le_length (by omega)];omega
  have hA2:rowA.take ((i+1) * 2)=inner.take (i * 2) ++ [.string p.f0,.string p.f1]:=by
   rw [hrowA,hRt,List.take_append_of_le_length (by simp only [List.length_append,δh,List.length_cons,List.length_nil];omega),List.take_of_length_le (by simp only [List.length_append,δh,List.length_cons,List.length_nil];omega)]
  have htk2:rowB.take ((n+1) * 2)=inner.take (i * 2) ++ [.string p.f0,.string p.f1] ++ inner.drop (i * 2):=by
   rw [hrowB,hA2,hci,List.take_append_of_le_length (by simp only [List.length_append,δh,δg,List.length_cons,List.length_nil];omega),List.take_of_length_le (by simp only [List.length_append,δh,δg,List.length_cons,List.length_nil];omega)]
  refine ⟨fun _ _=>trivial,_,⟨?_,Or.inr ⟨N,G,rowB.toArray,by rw [hlen],by omega,hW,by omega,hG63,?_,?_⟩⟩,hrr⟩
  · rw [hs2];exact hrr.1
  ·
   rw [hs2,List.size_toArray,hrowB]
   simp only [List.length_append,δh,δg,hl1,hlA]
   omega
  · rw [hs2,hlen];exact htk2
 have HR:=ζa hR
 have HB:=ζa hb
 have hgA : ∀ o:Array Value,(w.drew.alloc (.cells o 37)).heap[N]? = some (.cells o 37 (0,0)):=fun o=>by rw [hN];exact Go.Deep.blk_alloc_new w.drew _
 have hvA : ∀ o:Obj,(w.drew.alloc o).heap[vb]? = some (.cells #[.string p.f0,.string p.f1] 37 (0,0)):=fun o=>by rw [Go.Deep.blk_alloc_lt w.drew _ _ hvw];exact hv
 have hcA : ∀ o:Obj,(w.drew.alloc o).heap[g]? = some (.cells cur 37 (0,0)):=fun o=>by rw [Go.Deep.blk_alloc_lt w.drew _ _ hgw];exact hg
 have hgN:g≠N:=by omega
 have hw1:IntKind.i64.wrap ((i:Int)+(1:Int))=(i:Int)+(1:Int):=by rw [IntKind.wrap_i64];omega
 have hz2 : ¬ ((i:Int)=(n:Int)):=by omega
 have hz3:(c:Int)<(n:Int)+(1:Int):=by omega
 have hb1:(0:Int)≤(i:Int)+(1:Int):=by omega
 have hin:i≤n:=by omega
 have htn:((i:Int)+(1:Int)).toNat=i+1:=by omega
 have hb3:(i:Int)≤(n:Int):=by omega
 have hGi : ¬ (G=i):=by omega
 have hGim : ¬ (G=i+1):=by omega
 have hci2 : ¬ (c=i):=by omega
 have mixed:Tryz.prog.follows Departure.mixedOrders=τ:=by kernel_rfl
 have hNb:base≤N:=by omega
 have hcpA1:=hcpA _ (hgA ROW) (hvA _)
 have hcpA2 : ∀ ty dc,(Builtin.copy_ #[24,24] ty #[.slice (some ⟨N,i * 2,none⟩) (n+1 - i) dc,.slice (some ⟨vb,0,none⟩) 1 1]).run Tryz.prog (w.alloc (.cells ROW 37)).drew = .ok (goInt ((1:Nat):Int)) ((w.alloc (.cells ROW 37)).drew.setRow N rowA.toArray):=hcpA1
 have hgB:=setRow_heap (w.drew.alloc (.cells ROW 37)) N ROW rowA.toArray 37 (0,0) (hgA ROW)
 have hgF:=setRow_heap _ N rowA.toArray rowB.toArray 37 (0,0) hgB
 have hcpB1:=hcpB _ hgB (by rw [setRow_other _ N g _ hgN];exact hcA _)
 have hgc:((w.drew.alloc (.cells ROW 37)).setRow N rowA.toArray).heap[g]? = some (.cells cur 37 (0,0)):=by rw [setRow_other _ N g _ hgN];exact hcA _
 have hcpB2 : ∀ ty dc sc,(Builtin.copy_ #[24,24] ty #[.slice (some ⟨N,(i+1) * 2,none⟩) (n - i) dc,.slice (some ⟨g,i * 2,none⟩) (n - i) sc]).run Tryz.prog ((w.alloc (.cells ROW 37)).drew.setRow N rowA.toArray).drew = .ok (goInt ((n - i:Nat):Int)) (((w.alloc (.cells ROW 37)).drew.setRow N rowA.toArray).drew.setRow N rowB.toArray):=hcpB _ hgB hgc
 have HF2:Aside0 (Kd.R k37 37 (((w.alloc (.cells ROW 37)).drew.setRow N rowA.toArray).drew.setRow N rowB.toArray) base (fun _=>True) (.slice (some ⟨N,0,none⟩) (n+1) G) (xs.insertIdx i p)):=⟨hR _ hgF⟩
 have hb2:Below base w0 ((w.alloc (.cells ROW 37)).drew):=δj (hb.alloc hbs _)
 have HB2:Aside0 (Below base w0 (((w.alloc (.cells ROW 37)).drew.setRow N rowA.toArray).drew.setRow N rowB.toArray)):=⟨below_setRow (δj (below_setRow hb2 hNb _)) hNb _⟩
 clear hb2
 have HF:=ζa (hR _ hgF)
 have HBF:Aside0 (Below base w0 (((w.drew.alloc (.cells ROW 37)).setRow N rowA.toArray).setRow N rowB.toArray)):=⟨below_setRow (below_setRow ((δj hb).alloc hbs _) hNb _) hNb _⟩
 rw [← hN] at hrz
 clear hgc hN hkk hik hold hROW hG hRl hR hcpA hcpB hrowA hrowB hlA hRt hgA hvA hcA hgB hgF hci hl1 h1c hinl hCU hCUl htk hcs hown hr hok hv hg hb hnl hnx hnc2 hi0 hz0 hzs hzb HR HB hgw hvw hbs hbg hNb
 go_enter Tryz.func97,Tryz.ntmps97
 go_wp2_with (first
  | (at_builtin;refine Lib.wpList_append_run _ rfl _ _ _ _ rfl _ _ rfl rfl _ _ (hrz _) ?_)
  | simp only [hcpA2,Result.andThen_ok])
 go_region_law_o (refine step_copy_runI rfl _ _ 24 24 rfl _ _ (by simp [Act.eval,ζl]) (by simp [Act.eval,ζl]) (hcpB2 _ _ _) ?_)
 go_wp2_with fail
 go_ret
 exact ⟨_,rfl,HF2.out,HB2.out⟩
theorem slices_Insert_impl_Pair_impl_Pair.atEnd (base n c vb:Nat) (A:Option Addr) (xs:List S37) (p:S37) (w0 w:World) (ho:Kd.R k37 37 w base (fun _=>True) (.slice A n c) xs) (hn:n≤1000000) (hv:w.heap[vb]? = some (.cells #[.string p.f0,.string p.f1] 37 (0,0))) (hb:Below base w0 w) (hbs:base≤w.heap.size) :
  Calls Tryz.prog 97 #[.slice A n c,.int .i64 n,.slice (some ⟨vb,0,none⟩) 1 1] w fun e w' => ∃ v0,e = .returned v0∧Kd.R k37 37 w' base (fun _=>True) v0 (xs ++ [p])∧Below base w0 w':=by
 have HO:=ζa ho
 have HB:=ζa hb
 have hl:=(ζg ho).1
 have HRR:Aside0 (ReadsRow (fun (x:S37) cs=>cs = [.string x.f0,.string x.f1]) k37.sz w (some ⟨vb,0,none⟩) 1 [p]):=⟨rfl,by omega,fun _=>⟨_,rfl,fun j q hj=>by
  have hj0:j=0:=by
   rcases j with _|j
   · rfl
   ·
    simp at hj
  subst hj0
  have hq:p=q:=by simpa using hj
  subst hq
  refine ⟨_,rfl,rfl,fun t u hu => ?_⟩
  rw [Addr.add_lit,slices_Insert_impl_Pair_impl_Pair.cell_at hv]
  rcases t with _|_|t
  · simpa using hu
  ·
   simpa using hu
  · simp at hu⟩⟩
 have HL:Aside0 ((xs.length+1) * 32≤140737488355328):=⟨by omega⟩
 clear ho hb hl
 go_enter Tryz.func97,Tryz.ntmps97
 go_wp2_with ((with_reducible refine δx (N:=25) rfl ?_);refine Kd.R_append_rows (w0:=w0) (Rr:=fun (x:S37) cs=>cs = [.string x.f0,.string x.f1]) k37 base ?hg (.tmp 23) (.tmp 24) 24 37 (.agg #[(.string ⟨#[]⟩),(.string ⟨#[]⟩)]) 32 rfl Tryz.underlying24 info37 rfl (by decide) (by decide) (.slice A n c) xs [p] (some ⟨vb,0,none⟩) 1 1 (fun _=>True) (fun _=>False) rfl rfl HO.out HRR.out (fun x cs h=>by rw [h];exact k37_mkM _ _ _ x) (fun _ h=>h.elim) (fun _ _=>trivial) HB.out hbs HL.out ?_;(case hg=>rfl);intro v7 w7 ho7 hb7 hg_ hnew_;clear hg_ hnew_;have HO7:=ζa ho7;have HB7:=ζa hb7;clear ho7 hb7)
 all_goals (go_ret;exact ⟨_,rfl,HO7.out,HB7.out⟩)
theorem slices_Insert_impl_Pair_impl_Pair.calls (base n c i vb:Nat) (A:Option Addr) (xs:List S37) (p:S37) (w0 w:World) (ho:Kd.R k37 37 w base (fun _=>True) (.slice A n c) xs) (hi:i≤n) (hnc:n≤c) (hc:c≤9223372036854775807) (hn:n≤1000000) (hv:w.heap[vb]? = some (.cells #[.string p.f0,.string p.f1] 37 (0,0))) (hvb : ∀ a,A=some a→vb≠a.block) (hb:Below base w0 w) (hbs:base≤w.heap.size) :
  Calls Tryz.prog 97 #[.slice A n c,.int .i64 i,.slice (some ⟨vb,0,none⟩) 1 1] w fun e w' => ∃ v0,e = .returned v0∧Kd.R k37 37 w' base (fun _=>True) v0 (xs.insertIdx i p)∧Below base w0 w':=by
 have hnl:=(ζg ho).1
 by_cases hin:i=n
 ·
  subst hin
  have e:xs.insertIdx i p=xs ++ [p]:=by rw [hnl];exact List.insertIdx_length_self
  rw [e]
  exact slices_Insert_impl_Pair_impl_Pair.atEnd base i c vb A xs p w0 w ho hn hv hb hbs
 ·
  have hlt:i<n:=by omega
  have hA : ∃ g,A=some ⟨g,0,none⟩:=by
   obtain ⟨_,inner,hown,_⟩:=ho
   rcases hown.2 with ⟨_,h0⟩|⟨g,cap,cur,hv',_⟩
   · omega
   ·
    simp only [Value.slice.injEq] at hv'
    exact ⟨g,hv'.1⟩
  obtain ⟨g,rfl⟩:=hA
  by_cases hr:n+1≤c
  · exact (slices_Insert_impl_Pair_impl_Pair.room base g n c i vb xs p w0 w ho hlt hr hn hc hv (hvb _ rfl) hb).mono (fun e w' h=>⟨_,h⟩)
  ·
   exact slices_Insert_impl_Pair_impl_Pair.grow base g n c i vb xs p w0 w ho hlt hnc (by omega) hn hv hb hbs


open Go.Proofs.YtjhhehjjnfnigaaGreatDoorW.PrintWords.Kd renaming R_reads' → ζg, R_below → ζh, R_alloc → ζd
open Go.Proofs.YtjhhehjjnfnigaaGreatDoorW.PrintWords renaming below_step → δr, below_set → δq, below_alloc → δk
set_option maxHeartbeats 8000000
set_option maxRecDepth 100000


/-! ### impl_put: function 71 -/
def impl_put.f (k:Nat) (l0:List (S37)) (a1 a2:ByteArray):Option (List (S37) × Int) :=
 if l0.length≤1000000 then ((impl_pairAt.f k l0 a1).bind fun b=>if 0≤b.1 then (if b.1≤(l0.length:Int) then (if b.2=τ then (if b.1<(l0.length:Int) then some (l0.set b.1.toNat ⟨(rd_T37 l0 b.1).f0,a2⟩,0) else none) else (if (l0.length:Int)=400 then some (l0,7) else some (l0.insertIdx b.1.toNat ⟨a1,a2⟩,0))) else none) else none) else none
theorem impl_put.calls (k:Nat) (A0:Option Addr) (c0:Nat) (l0:List (S37)) (a1 a2:ByteArray) (r1:List (S37)) (r2:Int) (w:World) (hr0:Kd.C k37 w A0 l0.length l0) (hc0:l0.length≤c0) (h:impl_put.f k l0 a1 a2=some (r1,r2)) :
  Calls Tryz.prog 71 #[.slice A0 l0.length c0,.string a1,.string a2] w fun e w' => ∃ v0_:Value,e = .returned (.tuple #[v0_,.int .i64 r2])∧Kd.R k37 37 w' w.heap.size (fun _=>True) v0_ r1∧Below w.heap.size w w':=by
 unfold impl_put.f at h
 by_cases hl:l0.length≤1000000
 ·
  rw [if_pos hl] at h
  obtain ⟨⟨b1,b2⟩,h1,h⟩:=Option.bind_eq_some_iff.mp h
  by_cases g1:0≤b1
  ·
   rw [if_pos g1] at h
   by_cases g2:b1≤(l0.length:Int)
   ·
    rw [if_pos g2] at h
    have H1:=ζa h1
    have HL:=ζa hl
    have HR0:=ζa hr0
    have HC0:=ζa hc0
    have HCL:Aside0 (slices_Clone_impl_Pair_impl_Pair.f l0=some l0):=⟨by unfold slices_Clone_impl_Pair_impl_Pair.f;rw [if_pos (by omega)]⟩
    clear h1 hr0 hc0 hl
    obtain ⟨i,rfl⟩ : ∃ i:Nat,b1=(i:Int):=⟨b1.toNat,by omega⟩
    have hi:i≤l0.length:=by omega
    have HI:=ζa hi
    clear g1 g2 hi
    cases b2 with
    | true =>
     rw [if_pos rfl] at h
     by_cases g3:(i:Int)<(l0.length:Int)
     ·
      rw [if_pos g3] at h
      simp only [Option.some.injEq,Prod.mk.injEq] at h
      obtain ⟨rfl,rfl⟩:=h
      have G3:=ζa g3
      clear g3
      go_enter Tryz.func71,Tryz.ntmps71
      go_wp2_with fail
      refine (slices_Clone_impl_Pair_impl_Pair.calls A0 c0 l0 l0 _ HR0.out HC0.out HCL.out).mono ?_
      rintro e w' ⟨v,rfl,ho,hb⟩
      have hshape : ∃ g c,v = .slice (some ⟨g,0,none⟩) l0.length c∧l0.length≤c∧w.heap.size≤g:=by
       obtain ⟨_,inner,hown,_⟩:=ho
       rcases hown.2 with ⟨_,h0⟩|⟨g,cap,cur,hv,hbg,_,hn,_⟩
       · have:=G3.out;omega
       ·
        exact ⟨g,cap,hv,hn,hbg⟩
      obtain ⟨g,c,rfl,hnc,hwg⟩:=hshape
      have HC:=ζa (ζg ho).2.2
      have HO:=ζa ho
      have HB:=ζa hb
      have HN:=ζa hnc
      have HG:=ζa hwg
      clear ho hb hnc hwg
      go_wp2_with fail
      refine (impl_pairAt.calls k (some ⟨g,0,none⟩) c l0 a1 i τ _ HC.out HN.out H1.out).mono ?_
      rintro e w2 ⟨rfl,hb2⟩
      have HO2:=ζa (ζh HO.out hb2)
      have HB2:=ζa (δr HB.out hb2)
      clear hb2
      have p0:0≤(i:Int):=by omega
      have q0:(i:Int)<(l0.length:Int):=G3.out
      obtain ⟨ce,hcl,hM,hcc,hfr⟩:=Kd.R_elem HO2.out z37 (i:Int) p0 q0
      obtain rfl:=k37_openM hM
      have HP:=ζa (Kd.R_seg HO2.out (i:Int) p0 q0 (seg:=[.string a2]) (j:=1) hcl hcc (show 2≤2 from by decide) (x':=(⟨(rd_T37 l0 (i:Int)).f0,a2⟩:S37)) (k37_mkM _ _ _ (⟨(rd_T37 l0 (i:Int)).f0,a2⟩:S37)) (fun _ hk=>hk))
      have hx1:w2.cell? ⟨g,i * 2+1,none⟩=some (.string ((rd_T37 l0 (i:Int)).f1)):=hcc 1 _ rfl
      have hf1:w2.frozen? ⟨g,i * 2+1,none⟩=φ:=hfr 1
      clear hcl hcc hfr hM
      go_wp2_with (((with_reducible refine gate_store (t:=9) (p:=32) rfl ?_);refine store_event (t:=9) (p:=32) (v:=?vo) (w1:=(w2.setCell ⟨g,i * 2+1,none⟩ (.string a2))) ?hg ?ho ?hn ?hr ?_;(case ho=>rfl);(case hg=>rfl);(case hn=>rfl);(case hr=>(go_simp;done));intro w3 hw;have HO3:Aside0 (Kd.R k37 37 w3 w.heap.size (fun _=>True) (.slice (some ⟨g,0,none⟩) l0.length c) (l0.set (i:Int).toNat ⟨(rd_T37 l0 (i:Int)).f0,a2⟩)):=⟨by rw [hw];exact HP.out.1⟩;have HB3:Aside0 (Below w.heap.size w w3):=⟨by rw [hw];exact δq HB2.out HG.out⟩;clear hw))
      go_ret2
      exact ⟨_,rfl,HO3.out,HB3.out⟩
     · rw [if_neg g3] at h;cases h
    | false =>
     simp only [Bool.false_eq_true,if_false] at h
     by_cases g3:(l0.length:Int)=400
     ·
      rw [if_pos g3] at h
      simp only [Option.some.injEq,Prod.mk.injEq] at h
      obtain ⟨rfl,rfl⟩:=h
      have c3:((l0.length:Int) == 400)=τ:=beq_iff_eq.mpr g3
      clear g3
      go_enter Tryz.func71,Tryz.ntmps71
      go_wp2_with fail
      refine (slices_Clone_impl_Pair_impl_Pair.calls A0 c0 l0 l0 _ HR0.out HC0.out HCL.out).mono ?_
      rintro e w' ⟨v,rfl,ho,hb⟩
      obtain ⟨A,c,rfl,hnc,hrc⟩:=Kd.R_reads ho
      have HO:=ζa ho
      have HB:=ζa hb
      have HC:=ζa hrc
      have HN:=ζa hnc
      clear ho hb hrc hnc
      go_wp2_with fail
      refine (impl_pairAt.calls k A c l0 a1 i φ _ HC.out HN.out H1.out).mono ?_
      rintro e w2 ⟨rfl,hb2⟩
      have HO2:=ζa (ζh HO.out hb2)
      have HB2:=ζa (δr HB.out hb2)
      clear hb2
      go_wp2
      go_ret2
      exact ⟨_,rfl,HO2.out,HB2.out⟩
     ·
      rw [if_neg g3] at h
      simp only [Option.some.injEq,Prod.mk.injEq] at h
      obtain ⟨rfl,rfl⟩:=h
      have c3:((l0.length:Int) == 400)=φ:=beq_eq_false_iff_ne.mpr g3
      clear g3
      go_enter Tryz.func71,Tryz.ntmps71
      go_wp2_with fail
      refine (slices_Clone_impl_Pair_impl_Pair.calls A0 c0 l0 l0 _ HR0.out HC0.out HCL.out).mono ?_
      rintro e w' ⟨v,rfl,ho,hb⟩
      have hmx : ∀ A n c,v = .slice A n c→c≤9223372036854775807:=by
       rintro A n c rfl
       obtain ⟨_,inner,hown,_⟩:=ho
       rcases hown.2 with ⟨hv,_⟩|⟨g,cap,cur,hv,_,_,_,hm,_⟩
       · simp only [Value.slice.injEq] at hv;omega
       ·
        simp only [Value.slice.injEq] at hv
        have:maxLen=9223372036854775807:=rfl
        omega
      obtain ⟨A,c,rfl,hnc,hrc⟩:=Kd.R_reads ho
      have HM:=ζa (hmx A _ c rfl)
      have HO:=ζa ho
      have HB:=ζa hb
      have HC:=ζa hrc
      have HN:=ζa hnc
      clear ho hb hrc hnc hmx
      go_wp2_with fail
      refine (impl_pairAt.calls k A c l0 a1 i φ _ HC.out HN.out H1.out).mono ?_
      rintro e w2 ⟨rfl,hb2⟩
      have HO2:=ζa (ζh HO.out hb2)
      have HB2:=ζa (δr HB.out hb2)
      clear hb2
      go_wp2_with fail
      have hA : ∀ a,A=some a→w2.heap.size≠a.block:=by
       rintro a rfl
       have:=Kd.R_lt HO2.out a.block (by
        obtain ⟨_,inner,hown,_⟩:=HO2.out
        rcases hown.2 with ⟨hv,_⟩|⟨g,cap,cur,hv,_⟩
        · simp at hv
        ·
         simp only [Value.slice.injEq,Option.some.injEq] at hv;rw [hv.1];rfl)
       omega
      refine (slices_Insert_impl_Pair_impl_Pair.calls w.heap.size l0.length c i _ A l0 ⟨a1,a2⟩ w _ ?_ HI.out HN.out HM.out HL.out ?_ hA ?_ ?_).mono ?_
      · repeat (first|exact HO2.out|apply ζd)
      ·
       exact heap_alloc_new _ _
      · repeat (first|exact HB2.out|apply δk)
      ·
       have:=HB2.out.size;simp;omega
      rintro e w3 ⟨v3,rfl,ho3,hb3⟩
      have HO3:=ζa ho3
      have HB3:=ζa hb3
      clear ho3 hb3 hA
      go_wp2
      go_ret2
      exact ⟨_,rfl,HO3.out,HB3.out⟩
   · rw [if_neg g2] at h;cases h
  ·
   rw [if_neg g1] at h;cases h
 · rw [if_neg hl] at h;cases h


open Go.Proofs.YtjhhehjjnfnigaaGreatDoorW.PrintWords renaming gate_callee → δv, below_step → δr, below_size → δs
set_option maxHeartbeats 8000000
set_option maxRecDepth 100000

/-! ### impl_putAmount: function 95 -/
def impl_putAmount.f (k:Nat) (l0:List (S37)) (a1:ByteArray) (a2:Int):Option ((List (S37)) × Int):=if a2 > 0 then ((impl_amountText.f a2).bind fun t395=>((impl_put.f k l0 a1 t395).bind fun bt396=>(some (bt396.1,bt396.2)))) else ((impl_drop.f k l0 a1).bind fun bt400=>(some (bt400.1,0)))
theorem impl_putAmount.calls (k:Nat) (A0:Option Addr) (c0:Nat) (l0:List (S37)) (a1:ByteArray) (a2:Int) (r1:List (S37)) (r2:Int) (w:World) (hr0:Kd.C k37 w A0 l0.length l0) (hc0:l0.length≤c0) (hT0:TabsOK w) (h:impl_putAmount.f k l0 a1 a2=some (r1,r2)) :
  Calls Tryz.prog 95 #[.slice A0 l0.length c0,.string a1,.int .i64 a2] w fun e w' => ∃ v0_:Value,e = .returned (.tuple #[v0_,.int .i64 r2])∧Kd.R k37 37 w' w.heap.size (fun _=>True) v0_ r1∧Below w.heap.size w w':=by
 have HT0:=ζa hT0
 clear hT0
 have HR0:=ζa hr0
 have HC0:=ζa hc0
 clear hr0 hc0
 have HB:=ζa (Below.refl w.heap.size w)
 have H:(if a2 > 0 then ((impl_amountText.f a2).bind fun t395=>((impl_put.f k l0 a1 t395).bind fun bt396=>(some (bt396.1,bt396.2)))) else ((impl_drop.f k l0 a1).bind fun bt400=>(some (bt400.1,0))))=some (r1,r2):=h
 clear h
 by_cases c4:a2 > 0
 ·
  rw [if_pos c4] at H
  have c4b0:decide (0<a2)=τ:=decide_eq_true c4
  clear c4
  obtain ⟨t395,A5,H⟩:=bsm H
  obtain ⟨⟨t396,t397⟩,A6,H⟩:=bsm H
  dsimp only at H
  simp only [Option.some.injEq,Prod.mk.injEq] at H
  obtain ⟨rfl,rfl⟩:=H
  go_enter Tryz.func95,Tryz.ntmps95
  go_wp2_with (first|((with_reducible refine δv (f:=85) rfl ?_);refine gl 15 Tryz.func85 #[.int .i64 a2] ?_;(with_reducible refine (impl_amountText.calls a2 t395 _ (HT0.out.below (by exact HB.out)) A5.out).mono ?_);rintro e w7 ⟨rfl,hb⟩;refine ⟨_,rfl,?_⟩;replace HB:=ζa (δr (by exact HB.out) hb);(try clear hb);(try clear hb2);(try clear hk);(try clear hi))|((with_reducible refine δv (f:=71) rfl ?_);refine gl 16 Tryz.func71 #[.slice A0 l0.length c0,.string a1,.string t395] ?_;(with_reducible refine (impl_put.calls k _ _ l0 a1 t395 t396 t397 _ ?side1 ?side2 A6.out).mono ?_);(case side1=>repeat (exact (Kd.C_below HR0.out HB.out)));(case side2=>exact HC0.out);rintro e w8 ⟨v398,rfl,ho0,hb⟩;refine ⟨_,rfl,?_⟩;have HO399:=ζa (Kd.R_lower ho0 (δs (by exact HB.out)));replace HB:=ζa (δr (by exact HB.out) hb);(try clear hb);(try clear hb2);(try clear hk);(try clear hi);(try clear ho0)))
  go_ret2
  exact ⟨_,by rfl,by exact HO399.out,by repeat ((with_reducible exact HB.out))⟩
 ·
  rw [if_neg c4] at H
  have c4b0:decide (0<a2)=φ:=decide_eq_false c4
  clear c4
  obtain ⟨⟨t400,t401⟩,A9,H⟩:=bsm H
  dsimp only at H
  simp only [Option.some.injEq,Prod.mk.injEq] at H
  obtain ⟨rfl,rfl⟩:=H
  go_enter Tryz.func95,Tryz.ntmps95
  go_wp2_with (((with_reducible refine δv (f:=63) rfl ?_);refine gl 22 Tryz.func63 #[.slice A0 l0.length c0,.string a1] ?_;(with_reducible refine (impl_drop.calls k _ _ l0 a1 t400 t401 _ ?side1 ?side2 A9.out).mono ?_);(case side1=>repeat (exact HR0.out));(case side2=>exact HC0.out);rintro e w10 ⟨v402,rfl,ho0,hb⟩;refine ⟨_,rfl,?_⟩;have HO403:=ζa (Kd.R_lower ho0 (δs (by exact HB.out)));replace HB:=ζa (δr (by exact HB.out) hb);(try clear hb);(try clear hb2);(try clear hk);(try clear hi);(try clear ho0)))
  go_ret2
  exact ⟨_,by rfl,by exact HO403.out,by repeat ((with_reducible exact HB.out))⟩


set_option maxHeartbeats 8000000
set_option maxRecDepth 100000


/-! ### impl_fewer: function 66 -/
def impl_fewer.f (k:Nat) (l0:List S37) (a1:ByteArray) (a2:Int):Option (List S37 × Int) :=
 (impl_amountAt.f k l0 a1).bind fun a=>(impl_SubAmount.f k a a2).bind fun s=>if s.2=0 then impl_putAmount.f k l0 a1 s.1 else some (l0,s.2)
theorem impl_fewer.calls (k:Nat) (A0:Option Addr) (c0:Nat) (l0:List S37) (a1:ByteArray) (a2:Int) (r1:List S37) (r2:Int) (w:World) (hr0:Kd.C k37 w A0 l0.length l0) (hc0:l0.length≤c0) (hT0:TabsOK w) (h:impl_fewer.f k l0 a1 a2=some (r1,r2)) :
  Calls Tryz.prog 66 #[.slice A0 l0.length c0,.string a1,.int .i64 a2] w fun e w' => ∃ v0_:Value,e = .returned (.tuple #[v0_,.int .i64 r2])∧(r2=0→Kd.R k37 37 w' w.heap.size (fun _=>True) v0_ r1)∧Below w.heap.size w w':=by
 obtain ⟨a,h1,h⟩:=Option.bind_eq_some_iff.mp h
 obtain ⟨⟨s1,s2⟩,h2,h⟩:=Option.bind_eq_some_iff.mp h
 have H1:=ζa h1
 have H2:=ζa h2
 have HR0:=ζa hr0
 have HC0:=ζa hc0
 have HT0:=ζa hT0
 clear h1 h2 hr0 hc0 hT0
 go_enter Tryz.func66,Tryz.ntmps66
 go_wp2_with fail
 refine (impl_amountAt.calls k A0 c0 l0 a1 a _ HR0.out HC0.out HT0.out H1.out).mono ?_
 rintro e w1 ⟨rfl,hb⟩
 have HB1:=ζa hb
 clear hb
 go_wp2_with fail
 refine (impl_SubAmount.calls k a a2 s1 s2 _ H2.out).mono ?_
 rintro e w2 ⟨rfl,hd⟩
 have HB2:=ζa (δr HB1.out hd.below)
 clear hd
 by_cases c2:s2=0
 ·
  subst c2
  rw [if_pos rfl] at h
  have H3:=ζa h
  clear h
  go_wp2_with fail
  refine (impl_putAmount.calls k A0 c0 l0 a1 s1 r1 r2 _ (Kd.C_below HR0.out HB2.out) HC0.out (HT0.out.below HB2.out) H3.out).mono ?_
  rintro e w3 ⟨v3,rfl,ho,hb⟩
  have HO3:=ζa (Kd.R_lower ho HB2.out.size)
  have HB3:=ζa (δr HB2.out hb)
  clear ho hb
  go_wp2
  go_ret2
  exact ⟨_,rfl,fun _=>HO3.out,HB3.out⟩
 ·
  rw [if_neg c2] at h
  simp only [Option.some.injEq,Prod.mk.injEq] at h
  obtain ⟨rfl,rfl⟩:=h
  have C2:=ζa c2
  have c2b:(s2 != 0)=τ:=bne_iff_ne.mpr c2
  clear c2
  go_wp2
  go_ret2
  exact ⟨_,rfl,fun h0=>absurd h0 C2.out,HB2.out⟩


set_option maxHeartbeats 8000000
set_option maxRecDepth 100000


/-! ### impl_balanceKey: function 67 -/
def impl_balanceKey.f (a0:ByteArray) (a1:ByteArray):Option (ByteArray):=if a0.size+a1.size≤1000000000000 then some ((((⟨#[98,47]⟩:ByteArray) ++ a0) ++ (⟨#[47]⟩:ByteArray)) ++ a1) else none
theorem impl_balanceKey.calls (a0:ByteArray) (a1:ByteArray) (r:ByteArray) (w:World) (h:impl_balanceKey.f a0 a1=some r) :
  Calls Tryz.prog 67 #[.string a0,.string a1] w fun e w'=>e = .returned (.string r)∧Drawn0 w w':=by
 unfold impl_balanceKey.f at h
 by_cases c:a0.size+a1.size≤1000000000000
 ·
  rw [if_pos c] at h
  obtain rfl:=Option.some.inj h
  have c1:(2+a0.size≤9223372036854775807)=True:=eq_true (by omega)
  have c2:(9223372036854775807<2+a0.size)=False:=eq_false (by omega)
  have c3:(2+a0.size+1≤9223372036854775807)=True:=eq_true (by omega)
  have c4:(9223372036854775807<2+a0.size+1)=False:=eq_false (by omega)
  have c5:(2+a0.size+1+a1.size≤9223372036854775807)=True:=eq_true (by omega)
  have c6:(9223372036854775807<2+a0.size+1+a1.size)=False:=eq_false (by omega)
  clear c
  go_enter Tryz.func67,Tryz.ntmps67
  go_wp2
  go_ret
  exact ⟨by rfl,by repeat (exact Drawn0.refl _)⟩
 · rw [if_neg c] at h;cases h


open Go.Proofs.YtjhhehjjnfnigaaGreatDoorW.PrintWords renaming below_drew1 → δj, pw_below_drewN → δi, below_step → δr
set_option maxHeartbeats 8000000
set_option maxRecDepth 100000


/-! ### impl_move_1_1: function 65 -/
theorem cell_keep {w w':World} {p:Addr} {v:Value} (hb:Below w.heap.size w w') (h:w.cell? p=some v):w'.cell? p=some v:=(hb.cell (World.block_lt_of_cell? w _ h)).trans h
theorem impl_move_1_1.calls (k:Nat) (A0:Option Addr) (c0:Nat) (l0:List S37) (pd pf pn_:Addr) (d f:ByteArray) (n_:Int) (r1:List S37) (r2:Int) (w:World) (hr0:Kd.C k37 w A0 l0.length l0) (hc0:l0.length≤c0) (hT0:TabsOK w) (hd:w.cell? pd=some (.string d)) (hf:w.cell? pf=some (.string f)) (hn_:w.cell? pn_=some (.int .i64 n_))
  (h:((impl_balanceKey.f d f).bind fun key=>impl_fewer.f k l0 key n_)=some (r1,r2)) :
  Calls Tryz.prog 65 #[.slice A0 l0.length c0,.pointer (some pd),.pointer (some pf),.pointer (some pn_)] w fun e w' => ∃ v0_:Value,e = .returned (.tuple #[v0_,.int .i64 r2])∧(r2=0→Kd.R k37 37 w' w.heap.size (fun _=>True) v0_ r1)∧Below w.heap.size w w':=by
 obtain ⟨key,hk,h⟩:=Option.bind_eq_some_iff.mp h
 have HK:=ζa hk
 have HF:=ζa h
 have HR0:=ζa hr0
 have HC0:=ζa hc0
 have HT0:=ζa hT0
 have HB0:=ζa (Below.refl w.heap.size w)
 have Hd:=ζa hd
 have Hf:=ζa hf
 have Hn_:=ζa hn_
 clear hk h hr0 hc0 hT0
 go_enter Tryz.func65,Tryz.ntmps65
 go_wp2_with fail
 go_region_held3 (fun w'=>w'.cell? pd=some (.string d)∧w'.cell? pf=some (.string f)∧w'.cell? pn_=some (.int .i64 n_)) (first|go_keep|exact ⟨cell_keep HB3.out Hd.out,cell_keep HB3.out Hf.out,cell_keep HB3.out Hn_.out⟩)
  (first
   | (go_at_call 67;refine (impl_balanceKey.calls d f key _ HK.out).mono ?_;rintro e w' ⟨rfl,⟨q',rfl⟩⟩)
   | (go_at_call 66;refine (impl_fewer.calls k A0 c0 l0 key n_ r1 r2 _ (by repeat (first|exact HR0.out|apply Kd.C_drew|apply Kd.C_drewN)) HC0.out (by first|exact HT0.out|exact HT0.out.below (by repeat (first|exact HB0.out|apply δj|apply δi))) HF.out).mono ?_;rintro e w3 ⟨v3,rfl,ho,hb⟩;have HO3:=ζa ho;have HB3:Aside0 (Below w.heap.size w w3):=⟨δr (by repeat (first|exact HB0.out|apply δj|apply δi)) hb⟩;clear ho hb))
 all_goals go_wp2
 all_goals (go_ret2;exact ⟨_,rfl,fun h0=>HO3.out h0,HB3.out⟩)


set_option maxHeartbeats 8000000
set_option maxRecDepth 100000

/-! ### impl_AddAmount: function 96 -/
def impl_AddAmount.j0:Nat→Int→Int→Bool→Option (Int × Int)
 | 0,_,_,_=>none
 | k+1,x0,x1,x6=>if x6=τ then (some (0,4)) else (if (ζm (x0+x1)) > 1000000000000000000 then (some (0,13)) else (some (ζm (x0+x1),0)))
def impl_AddAmount.f (k:Nat) (a0:Int) (a1:Int):Option (Int × Int):=(impl_isAmount.f a0).bind fun t404=>(if t404=τ then ((impl_isAmount.f a1).bind fun t405=>(impl_AddAmount.j0 k a0 a1 (!t405))) else (impl_AddAmount.j0 k a0 a1 τ))
theorem impl_AddAmount.calls (k:Nat) (a0:Int) (a1:Int) (r1:Int) (r2:Int) (w:World) (h:impl_AddAmount.f k a0 a1=some (r1,r2)) :
  Calls Tryz.prog 96 #[.int .i64 a0,.int .i64 a1] w fun e w'=>e = .returned (.tuple #[.int .i64 r1,.int .i64 r2])∧Drawn0 w w':=by
 have H:((impl_isAmount.f a0).bind fun t404=>(if t404=τ then ((impl_isAmount.f a1).bind fun t405=>(impl_AddAmount.j0 k a0 a1 (!t405))) else (impl_AddAmount.j0 k a0 a1 τ)))=some (r1,r2):=h
 clear h
 have HC3:=ζa H
 clear H
 go_enter Tryz.func96,Tryz.ntmps96
 go_upto_region 1 with (fail)
 go_cut [6] (fun v6 wc => ∃ (kq:Nat) (x6_2:Bool),v6 = .bool x6_2∧Aside0 (impl_AddAmount.j0 kq a0 a1 x6_2=some (r1,r2))∧Aside0 (kq≤k)∧Drawn0 w wc)
 case first =>
  have H:=HC3.out
  clear HC3
  obtain ⟨t404,A4,H⟩:=bsm H
  by_cases c5:t404=τ
  ·
   subst c5
   rw [ifT] at H
   obtain ⟨t405,A6,H⟩:=bsm H
   have H':=ζa H
   clear H
   go_wp2_with (first|((with_reducible refine δv (f:=84) rfl ?_);refine gl 8 Tryz.func84 #[.int .i64 a0] ?_;(with_reducible refine (impl_isAmount.calls a0 τ _ A4.out).mono ?_);rintro e w' ⟨rfl,⟨nd,rfl⟩⟩;refine ⟨_,rfl,?_⟩)|(go_at_call 84;(with_reducible refine (impl_isAmount.calls a1 t405 _ A6.out).mono ?_);rintro e w' ⟨rfl,⟨nd,rfl⟩⟩))
   go_meet
   case rel=>exact ⟨_,(!t405),(by rfl),H',⟨by omega⟩,by repeat (first|exact Drawn0.refl _|apply Drawn0.step)⟩
  ·
   replace c5:=Bool.eq_false_iff.mpr c5
   subst c5
   rw [ifF] at H
   have H':=ζa H
   clear H
   go_wp2_with (((with_reducible refine δv (f:=84) rfl ?_);refine gl 8 Tryz.func84 #[.int .i64 a0] ?_;(with_reducible refine (impl_isAmount.calls a0 φ _ A4.out).mono ?_);rintro e w' ⟨rfl,⟨nd,rfl⟩⟩;refine ⟨_,rfl,?_⟩))
   go_meet
   case rel=>exact ⟨_,(τ),(by rfl),H',⟨by omega⟩,by repeat (first|exact Drawn0.refl _|apply Drawn0.step)⟩
 case rest =>
  clear HC3
  try clear p2
  try clear c5
  obtain ⟨kq,x6_2,rfl,HA,HJ2,⟨mc2,rfl⟩⟩:=hcut
  cases kq with
  | zero=>exact absurd HA.out (by simp [impl_AddAmount.j0])
  | succ kj2 =>
   have H:=HA.out
   clear HA
   simp only [impl_AddAmount.j0] at H
   by_cases c7:x6_2=τ
   ·
    subst c7
    rw [ifT] at H
    simp only [Option.some.injEq,Prod.mk.injEq] at H
    obtain ⟨rfl,rfl⟩:=H
    go_wp2
    go_ret2
    exact ⟨by rfl,by repeat (first|exact Drawn0.refl _|apply Drawn0.step)⟩
   ·
    replace c7:=Bool.eq_false_iff.mpr c7
    subst c7
    rw [ifF] at H
    by_cases c8:(ζm (a0+a1)) > 1000000000000000000
    ·
     rw [if_pos c8] at H
     have c8b0:decide (1000000000000000000<(ζm (a0+a1)))=τ:=decide_eq_true c8
     clear c8
     simp only [Option.some.injEq,Prod.mk.injEq] at H
     obtain ⟨rfl,rfl⟩:=H
     go_wp2
     go_ret2
     exact ⟨by rfl,by repeat (first|exact Drawn0.refl _|apply Drawn0.step)⟩
    ·
     rw [if_neg c8] at H
     have c8b0:decide (1000000000000000000<(ζm (a0+a1)))=φ:=decide_eq_false c8
     clear c8
     simp only [Option.some.injEq,Prod.mk.injEq] at H
     obtain ⟨rfl,rfl⟩:=H
     go_wp2
     go_ret2
     exact ⟨by rfl,by repeat (first|exact Drawn0.refl _|apply Drawn0.step)⟩


set_option maxHeartbeats 8000000
set_option maxRecDepth 100000


/-! ### impl_more: function 69 -/
def impl_more.f (k:Nat) (l0:List S37) (a1:ByteArray) (a2:Int):Option (List S37 × Int) :=
 (impl_amountAt.f k l0 a1).bind fun a=>(impl_AddAmount.f k a a2).bind fun s=>if s.2=0 then impl_putAmount.f k l0 a1 s.1 else some (l0,s.2)
theorem impl_more.calls (k:Nat) (A0:Option Addr) (c0:Nat) (l0:List S37) (a1:ByteArray) (a2:Int) (r1:List S37) (r2:Int) (w:World) (hr0:Kd.C k37 w A0 l0.length l0) (hc0:l0.length≤c0) (hT0:TabsOK w) (h:impl_more.f k l0 a1 a2=some (r1,r2)) :
  Calls Tryz.prog 69 #[.slice A0 l0.length c0,.string a1,.int .i64 a2] w fun e w' => ∃ v0_:Value,e = .returned (.tuple #[v0_,.int .i64 r2])∧(r2=0→Kd.R k37 37 w' w.heap.size (fun _=>True) v0_ r1)∧Below w.heap.size w w':=by
 obtain ⟨a,h1,h⟩:=Option.bind_eq_some_iff.mp h
 obtain ⟨⟨s1,s2⟩,h2,h⟩:=Option.bind_eq_some_iff.mp h
 have H1:=ζa h1
 have H2:=ζa h2
 have HR0:=ζa hr0
 have HC0:=ζa hc0
 have HT0:=ζa hT0
 clear h1 h2 hr0 hc0 hT0
 go_enter Tryz.func69,Tryz.ntmps69
 go_wp2_with fail
 refine (impl_amountAt.calls k A0 c0 l0 a1 a _ HR0.out HC0.out HT0.out H1.out).mono ?_
 rintro e w1 ⟨rfl,hb⟩
 have HB1:=ζa hb
 clear hb
 go_wp2_with fail
 refine (impl_AddAmount.calls k a a2 s1 s2 _ H2.out).mono ?_
 rintro e w2 ⟨rfl,hd⟩
 have HB2:=ζa (δr HB1.out hd.below)
 clear hd
 by_cases c2:s2=0
 ·
  subst c2
  rw [if_pos rfl] at h
  have H3:=ζa h
  clear h
  go_wp2_with fail
  refine (impl_putAmount.calls k A0 c0 l0 a1 s1 r1 r2 _ (Kd.C_below HR0.out HB2.out) HC0.out (HT0.out.below HB2.out) H3.out).mono ?_
  rintro e w3 ⟨v3,rfl,ho,hb⟩
  have HO3:=ζa (Kd.R_lower ho HB2.out.size)
  have HB3:=ζa (δr HB2.out hb)
  clear ho hb
  go_wp2
  go_ret2
  exact ⟨_,rfl,fun _=>HO3.out,HB3.out⟩
 ·
  rw [if_neg c2] at h
  simp only [Option.some.injEq,Prod.mk.injEq] at h
  obtain ⟨rfl,rfl⟩:=h
  have C2:=ζa c2
  have c2b:(s2 != 0)=τ:=bne_iff_ne.mpr c2
  clear c2
  go_wp2
  go_ret2
  exact ⟨_,rfl,fun h0=>absurd h0 C2.out,HB2.out⟩


set_option maxHeartbeats 8000000
set_option maxRecDepth 100000


/-! ### impl_move_1_2: function 68 -/
theorem impl_move_1_2.calls (k:Nat) (A0:Option Addr) (c0:Nat) (l0:List S37) (pd pf pn_:Addr) (d f:ByteArray) (n_:Int) (r1:List S37) (r2:Int) (w:World) (hr0:Kd.C k37 w A0 l0.length l0) (hc0:l0.length≤c0) (hT0:TabsOK w) (hd:w.cell? pd=some (.string d)) (hf:w.cell? pf=some (.string f)) (hn_:w.cell? pn_=some (.int .i64 n_))
  (h:((impl_balanceKey.f d f).bind fun key=>impl_more.f k l0 key n_)=some (r1,r2)) :
  Calls Tryz.prog 68 #[.slice A0 l0.length c0,.pointer (some pd),.pointer (some pf),.pointer (some pn_)] w fun e w' => ∃ v0_:Value,e = .returned (.tuple #[v0_,.int .i64 r2])∧(r2=0→Kd.R k37 37 w' w.heap.size (fun _=>True) v0_ r1)∧Below w.heap.size w w':=by
 obtain ⟨key,hk,h⟩:=Option.bind_eq_some_iff.mp h
 have HK:=ζa hk
 have HF:=ζa h
 have HR0:=ζa hr0
 have HC0:=ζa hc0
 have HT0:=ζa hT0
 have HB0:=ζa (Below.refl w.heap.size w)
 have Hd:=ζa hd
 have Hf:=ζa hf
 have Hn_:=ζa hn_
 clear hk h hr0 hc0 hT0
 go_enter Tryz.func68,Tryz.ntmps68
 go_wp2_with fail
 go_region_held3 (fun w'=>w'.cell? pd=some (.string d)∧w'.cell? pf=some (.string f)∧w'.cell? pn_=some (.int .i64 n_)) (first|go_keep|exact ⟨cell_keep HB3.out Hd.out,cell_keep HB3.out Hf.out,cell_keep HB3.out Hn_.out⟩)
  (first
   | (go_at_call 67;refine (impl_balanceKey.calls d f key _ HK.out).mono ?_;rintro e w' ⟨rfl,⟨q',rfl⟩⟩)
   | (go_at_call 69;refine (impl_more.calls k A0 c0 l0 key n_ r1 r2 _ (by repeat (first|exact HR0.out|apply Kd.C_drew|apply Kd.C_drewN)) HC0.out (by first|exact HT0.out|exact HT0.out.below (by repeat (first|exact HB0.out|apply δj|apply δi))) HF.out).mono ?_;rintro e w3 ⟨v3,rfl,ho,hb⟩;have HO3:=ζa ho;have HB3:Aside0 (Below w.heap.size w w3):=⟨δr (by repeat (first|exact HB0.out|apply δj|apply δi)) hb⟩;clear ho hb))
 all_goals go_wp2
 all_goals (go_ret2;exact ⟨_,rfl,fun h0=>HO3.out h0,HB3.out⟩)


open Go.Proofs.YtjhhehjjnfnigaaGreatDoorW.PrintWords renaming below_alloc → δk, below_step → δr
set_option maxHeartbeats 8000000
set_option maxRecDepth 100000


/-! ### impl_move_1: function 64 -/
theorem rowF {w:World} {g:Nat} {t:TypeId} (xs:List FV) (hm:xs.length≤1000) (h:w.heap[g]? = some (.cells (xs.map encF).toArray t (0,0))):kF.C w (some ⟨g,0,none⟩) xs.length xs:=by
 refine ⟨rfl,by omega,fun _=>⟨_,rfl,fun j p hp=>⟨[encF p],rfl,rfl,fun t u hu => ?_⟩⟩⟩
 obtain ⟨rfl,rfl⟩:t=0∧u=encF p:=by
  rcases t with _|t
  · simpa using hu.symm
  ·
   simp at hu
 rw [Addr.add_lit,cell_of_row w g _ _ _ (0,0) h]
 have:kF.sz=1:=rfl
 simp [this,hp]
def impl_move.F (k:Nat) (f t d:ByteArray) (n_:Int):List S37→Option (List S37 × Int):=fun l0=>impl_all.f k l0 [(fun l=>(impl_balanceKey.f d f).bind fun key=>impl_fewer.f k l key n_),(fun l=>(impl_balanceKey.f d t).bind fun key=>impl_more.f k l key n_)]
theorem impl_move_1.calls (k:Nat) (A0:Option Addr) (c0:Nat) (l0:List S37) (pf pt pd pn_:Addr) (f t d:ByteArray) (n_:Int) (r1:List S37) (r2:Int) (w:World) (hr0:Kd.C k37 w A0 l0.length l0) (hc0:l0.length≤c0) (hT0:TabsOK w) (hf:w.cell? pf=some (.string f)) (ht:w.cell? pt=some (.string t)) (hd:w.cell? pd=some (.string d)) (hn_:w.cell? pn_=some (.int .i64 n_)) (h:impl_move.F k f t d n_ l0=some (r1,r2)) :
  Calls Tryz.prog 64 #[.slice A0 l0.length c0,.pointer (some pd),.pointer (some pf),.pointer (some pn_),.pointer (some pt)] w fun e w' => ∃ v0_:Value,e = .returned (.tuple #[v0_,.int .i64 r2])∧Kd.R k37 37 w' w.heap.size (fun _=>True) v0_ r1∧Below w.heap.size w w':=by
 have HH:=ζa h
 have HR0:=ζa hr0
 have HC0:=ζa hc0
 have HT0:=ζa hT0
 have Hf:=ζa hf
 have Ht:=ζa ht
 have Hd:=ζa hd
 have Hn_:=ζa hn_
 have HB:=ζa (Below.refl w.heap.size w)
 clear h hr0 hc0 hT0 hf ht hd hn_
 go_enter Tryz.func64,Tryz.ntmps64
 go_wp2_with fail
 have HB1:Aside0 (Below w.heap.size w (w.alloc (.cells ([((65,#[.pointer (some pd),.pointer (some pf),.pointer (some pn_)]):FV),(68,#[.pointer (some pd),.pointer (some pt),.pointer (some pn_)])].map encF).toArray 67))):=⟨δk HB.out _⟩
 refine (impl_all.calls k A0 c0 l0 _ _ [(65,#[.pointer (some pd),.pointer (some pf),.pointer (some pn_)]),(68,#[.pointer (some pd),.pointer (some pt),.pointer (some pn_)])] [(fun l=>(impl_balanceKey.f d f).bind fun key=>impl_fewer.f k l key n_),(fun l=>(impl_balanceKey.f d t).bind fun key=>impl_more.f k l key n_)] r1 r2 _ (Kd.C_alloc HR0.out _) HC0.out (rowF _ (show 2≤1000 by decide) (heap_alloc_new _ _)) rfl ?_ HH.out).mono ?_
 ·
  intro i x F hx hF
  rcases i with _|_|i
  ·
   simp only [List.getElem?_cons_zero,Option.some.injEq] at hx hF
   subst hx hF
   exact ⟨enters_of Tryz.func65 (by kernel_rfl) rfl,fun W A c l r code hb hr hc hF=>impl_move_1_1.calls k A c l pd pf pn_ d f n_ r code W hr hc ((HT0.out.below HB1.out).below hb) (cell_keep hb (cell_keep HB1.out Hd.out)) (cell_keep hb (cell_keep HB1.out Hf.out)) (cell_keep hb (cell_keep HB1.out Hn_.out)) hF⟩
  ·
   simp only [List.getElem?_cons_succ,List.getElem?_cons_zero,Option.some.injEq] at hx hF
   subst hx hF
   exact ⟨enters_of Tryz.func68 (by kernel_rfl) rfl,fun W A c l r code hb hr hc hF=>impl_move_1_2.calls k A c l pd pt pn_ d t n_ r code W hr hc ((HT0.out.below HB1.out).below hb) (cell_keep hb (cell_keep HB1.out Hd.out)) (cell_keep hb (cell_keep HB1.out Ht.out)) (cell_keep hb (cell_keep HB1.out Hn_.out)) hF⟩
  · simp at hx
 rintro e w3 ⟨v3,rfl,ho,hb⟩
 have HO3:=ζa (Kd.R_lower ho HB1.out.size)
 have HB3:=ζa (δr HB1.out hb)
 clear ho hb
 go_wp2
 go_ret2
 exact ⟨_,rfl,HO3.out,HB3.out⟩


open Go.Proofs.YtjhhehjjnfnigaaGreatDoorW.PrintWords renaming gate_dst → δx, below_step → δr, below_alloc → δk, pw_below_drewN → δi, below_drew1 → δj, blk_cell → δl
set_option maxHeartbeats 8000000
set_option maxRecDepth 100000


/-! ### impl_move: function 36 -/
theorem impl_move.calls (k:Nat) (f t d:ByteArray) (n_:Int) (w:World) (hT0:TabsOK w) :
  Calls Tryz.prog 36 #[.string f,.string t,.string d,.int .i64 n_] w fun e w' => ∃ (g:Nat) (lb:Array Value),e = .returned (.func (.func g) #[] lb)∧ChgR w' (g,lb) (impl_move.F k f t d n_)∧Below w.heap.size w w':=by
 have HT0:=ζa hT0
 have HB:=ζa (Below.refl w.heap.size w)
 clear hT0
 go_enter Tryz.func36,Tryz.ntmps36
 go_wp2_with (first
  | ((with_reducible refine δx (N:=4) rfl ?_);refine bev 4 #[(.string f)] 9 ?_;intro gbf hg wf hbox hb;replace HB:=ζa (δr (by repeat (first|exact HB.out|apply δk|apply δi|apply δj)) hb);have BKf:=ζa hbox;clear hb hbox hg)
  | ((with_reducible refine δx (N:=5) rfl ?_);refine bev 5 #[(.string t)] 9 ?_;intro gbt hg wt hbox hb;replace HB:=ζa (δr (by repeat (first|exact HB.out|apply δk|apply δi|apply δj)) hb);have BKt:=ζa hbox;have mf:=ζa (blk_below BKf.out hb);clear BKf;have BKf:=mf;clear mf;clear hb hbox hg)
  | ((with_reducible refine δx (N:=6) rfl ?_);refine bev 6 #[(.string d)] 9 ?_;intro gbd hg wd hbox hb;replace HB:=ζa (δr (by repeat (first|exact HB.out|apply δk|apply δi|apply δj)) hb);have BKd:=ζa hbox;have mf:=ζa (blk_below BKf.out hb);clear BKf;have BKf:=mf;clear mf;have mt:=ζa (blk_below BKt.out hb);clear BKt;have BKt:=mt;clear mt;clear hb hbox hg)
  | ((with_reducible refine δx (N:=7) rfl ?_);refine bev 7 #[(.int .i64 n_)] 3 ?_;intro gbn_ hg wn_ hbox hb;replace HB:=ζa (δr (by repeat (first|exact HB.out|apply δk|apply δi|apply δj)) hb);have BKn_:=ζa hbox;have mf:=ζa (blk_below BKf.out hb);clear BKf;have BKf:=mf;clear mf;have mt:=ζa (blk_below BKt.out hb);clear BKt;have BKt:=mt;clear mt;have md:=ζa (blk_below BKd.out hb);clear BKd;have BKd:=md;clear md;clear hb hbox hg))
 go_ret
 refine ⟨_,_,rfl,⟨enters_of Tryz.func64 (by kernel_rfl) rfl,fun W A c l r code hb hr hc hF => ?_⟩,HB.out⟩
 exact (impl_move_1.calls k A c l _ _ _ _ f t d n_ r code W hr hc ((HT0.out.below HB.out).below hb) ((δl (blk_below BKf.out hb) 0).trans rfl) ((δl (blk_below BKt.out hb) 0).trans rfl) ((δl (blk_below BKd.out hb) 0).trans rfl) ((δl (blk_below BKn_.out hb) 0).trans rfl) hF)

end Go.Proofs.YtjhhehjjnfnigaaGreatDoor.Q
