/- Parts of the proof: what single Go functions compute, each with its walk, and plain laws over these. -/
import Derived.Test.YtabmfhnhmoiljaaGreatDoorM0
import Derived.Test.YtabmfhnhmoiljaaGreatDoorM2
import Derived.Test.YtabmfhnhmoiljaaGreatDoorM3
import Derived.IntWalk
import Derived.Laws.BitsLemmas
import Derived.Test.YtabmfhnhmoiljaaGreatDoorVMore
import Derived.Test.YtabmfhnhmoiljaaGreatDoorM1
import Derived.Lib.ItoaNum
import Derived.Lib.AtoiAllCases
import Derived.Lib.Strings
import Derived.Lib.Bytealg
import Derived.Sort.Walk0
namespace Go.Proofs.YtabmfhnhmoiljaaGreatDoor.Q
open Go.RowKit Go.Proofs.YtabmfhnhmoiljaaGreatDoorW.PrintWords Go.Proofs.YtabmfhnhmoiljaaGreatDoorW.PrintLast Go.Proofs.YtabmfhnhmoiljaaGreatDoorW.PrintMore
open Go.Proofs.YtabmfhnhmoiljaaGreatDoorW.PrintWords.Aside0 renaming mk → ζa
open Go.Proofs.YtabmfhnhmoiljaaGreatDoorW.PrintWords renaming below_step → δr, gate_dst → δx, box_event → δz, blk_cell → δl, blk_frozen → δm, below_set → δq, blk_put → δw, blk_alloc → δo, below_alloc → δk, below_drew1 → δj, pw_below_drewN → δi, blk_drew → δp, blk_drewN → δn
open Go.Proofs.YtabmfhnhmoiljaaGreatDoorW.PrintWords.Kd renaming R_alloc → ζd, R_drew → ζe, R_drewN → ζc
open Bool renaming true → τ, false → φ
attribute [local go_sem] max2_int min2_int max_two min_two max_three min_three max_four min_four   -- for this text's walks alone
set_option linter.unusedVariables false
set_option linter.unusedSimpArgs false

/-! ### impl_swapPool: function 71 -/
theorem impl_swapPool.rowS {w:World} {g:Nat} {t:TypeId} (xs:List ByteArray) (hm:xs.length≤1000) (h:w.heap[g]? = some (.cells (xs.map Value.string).toArray t (0,0))):Kd.string.C w (some ⟨g,0,none⟩) xs.length xs:=by
 refine ⟨rfl,by omega,fun _=>⟨_,rfl,fun j p hp=>⟨[Value.string p],rfl,rfl,fun t u hu => ?_⟩⟩⟩
 obtain ⟨rfl,rfl⟩:t=0∧u=Value.string p:=by
  rcases t with _|t
  · simpa using hu.symm
  ·
   simp at hu
 rw [Addr.add_lit,cell_of_row w g _ _ _ (0,0) h]
 have:Kd.string.sz=1:=rfl
 simp [this,hp]
def impl_swapPool.f (k:Nat) (name:ByteArray) (list:List S51) (who:ByteArray) (denom:ByteArray) (n:Int) (least:Int):Option (List S51 × Int) :=
 (impl_poolAt.f k list).bind fun q1=>(impl_otherName.f name).bind fun q2=>(impl_voucherOf.f q2).bind fun q3=>(impl_isPeople.f k ([who])).bind fun q4=>if q4=τ then ((impl_isSome.f n).bind fun q5=>if q5=τ then ((impl_isAmount.f least).bind fun q6=>if q6=τ then (if q1.2.2=0 then ((slices_Clone_impl_Pair_impl_Pair.f list).bind fun q7=>some (q7,5)) else (if denom.toList=name.toList then (if denom.toList=q3.toList then ((impl_QuoteSwap.f k q1.2.1 q1.1 n).bind fun q8=>if q8.2=0 then (if q8.1<least then ((slices_Clone_impl_Pair_impl_Pair.f list).bind fun q9=>some (q9,19)) else ((impl_all.f k list [(impl_move.F k who (⟨#[112,111,111,108]⟩:ByteArray) name n),(impl_move.F k (⟨#[112,111,111,108]⟩:ByteArray) who q3 q8.1),(impl_putPool.F k (IntKind.i64.wrap (q1.1+n)) (IntKind.i64.wrap (q1.2.1 - q8.1)) q1.2.2)]).bind fun q10=>some (q10.1,q10.2))) else ((slices_Clone_impl_Pair_impl_Pair.f list).bind fun q11=>some (q11,q8.2))) else ((impl_QuoteSwap.f k q1.1 q1.2.1 n).bind fun q12=>if q12.2=0 then (if q12.1<least then ((slices_Clone_impl_Pair_impl_Pair.f list).bind fun q13=>some (q13,19)) else ((impl_all.f k list [(impl_move.F k who (⟨#[112,111,111,108]⟩:ByteArray) name n),(impl_move.F k (⟨#[112,111,111,108]⟩:ByteArray) who q3 q12.1),(impl_putPool.F k (IntKind.i64.wrap (q1.1+n)) (IntKind.i64.wrap (q1.2.1 - q12.1)) q1.2.2)]).bind fun q14=>some (q14.1,q14.2))) else ((slices_Clone_impl_Pair_impl_Pair.f list).bind fun q15=>some (q15,q12.2)))) else (if denom.toList=q3.toList then ((impl_QuoteSwap.f k q1.2.1 q1.1 n).bind fun q16=>if q16.2=0 then (if q16.1<least then ((slices_Clone_impl_Pair_impl_Pair.f list).bind fun q17=>some (q17,19)) else ((impl_all.f k list [(impl_move.F k (⟨#[112,111,111,108]⟩:ByteArray) who name q16.1),(impl_move.F k who (⟨#[112,111,111,108]⟩:ByteArray) q3 n),(impl_putPool.F k (IntKind.i64.wrap (q1.1 - q16.1)) (IntKind.i64.wrap (q1.2.1+n)) q1.2.2)]).bind fun q18=>some (q18.1,q18.2))) else ((slices_Clone_impl_Pair_impl_Pair.f list).bind fun q19=>some (q19,q16.2))) else ((slices_Clone_impl_Pair_impl_Pair.f list).bind fun q20=>some (q20,3))))) else ((slices_Clone_impl_Pair_impl_Pair.f list).bind fun q21=>some (q21,4))) else ((slices_Clone_impl_Pair_impl_Pair.f list).bind fun q22=>some (q22,4))) else ((slices_Clone_impl_Pair_impl_Pair.f list).bind fun q23=>some (q23,4))
set_option maxHeartbeats 4000000 in
set_option maxRecDepth 100000 in
theorem impl_swapPool.calls (k:Nat) (name:ByteArray) (A_list:Option Addr) (c_list:Nat) (list:List S51) (who:ByteArray) (denom:ByteArray) (n:Int) (least:Int) (r1:List S51) (r2:Int) (w:World) (hr0_list:Kd.C k51 w A_list list.length list) (hc0_list:list.length≤c_list) (hT0:TabsOK w) (h:impl_swapPool.f k name list who denom n least=some (r1,r2)) :
  Calls Tryz.prog 71 #[.string name,.slice A_list list.length c_list,.string who,.string denom,.int .i64 n,.int .i64 least] w fun e w' => ∃ v0_:Value,e = .returned (.tuple #[v0_,.int .i64 r2])∧Kd.R k51 51 w' w.heap.size (fun _=>True) v0_ r1∧Below w.heap.size w w':=by
 have HR0_list:=ζa hr0_list
 have HC0_list:=ζa hc0_list
 clear hr0_list hc0_list
 have HT0:=ζa hT0
 clear hT0
 have HB0:=ζa (Below.refl w.heap.size w)
 unfold impl_swapPool.f at h
 have HH:=ζa h
 clear h
 go_enter Tryz.func71,Tryz.ntmps71
 have h:=HH.out
 clear HH
 obtain ⟨⟨u0,u1,u2⟩,h1_,h⟩:=Option.bind_eq_some_iff.mp h
 have HH:=ζa h
 have H1:=ζa h1_
 clear h h1_
 go_wp2_with fail
 refine (impl_poolAt.calls k A_list c_list list u0 u1 u2 _ (by repeat (exact Kd.C_below HR0_list.out HB0.out)) HC0_list.out (HT0.out.below (by repeat (exact HB0.out))) H1.out).mono ?_
 rintro e w1 ⟨rfl,hb⟩
 have m_:=ζa (δr (by repeat (exact HB0.out)) hb)
 clear hb
 have HB1:=m_
 clear m_
 have h:=HH.out
 clear HH
 obtain ⟨x1,h2_,h⟩:=Option.bind_eq_some_iff.mp h
 have HH:=ζa h
 have H2:=ζa h2_
 clear h h2_
 go_wp2_with fail
 refine (impl_otherName.calls name x1 _ H2.out).mono ?_
 rintro e w2 ⟨rfl,hd⟩
 have hb:=hd.below
 clear hd
 have m_:=ζa (δr (by repeat (exact HB1.out)) hb)
 clear hb
 have HB2:=m_
 clear m_
 have h:=HH.out
 clear HH
 obtain ⟨v1,h3_,h⟩:=Option.bind_eq_some_iff.mp h
 have HH:=ζa h
 have H3:=ζa h3_
 clear h h3_
 go_wp2_with fail
 refine (impl_voucherOf.calls x1 v1 _ H3.out).mono ?_
 rintro e w3 ⟨rfl,hd⟩
 have hb:=hd.below
 clear hd
 have m_:=ζa (δr (by repeat (exact HB2.out)) hb)
 clear hb
 have HB3:=m_
 clear m_
 have h:=HH.out
 clear HH
 obtain ⟨b1,h6_,h⟩:=Option.bind_eq_some_iff.mp h
 have HH:=ζa h
 have H6:=ζa h6_
 clear h h6_
 go_wp2_with (first|((with_reducible refine δx (N:=14) rfl ?_);refine δz ?hg (N:=14) ?hd (cs:=#[.int .i64 0,.int .i64 0,.int .i64 0]) (t:=109) ?hr ?_;(case hd=>rfl);(case hg=>rfl);(case hr=>(go_simp;done));intro gbp hg w4 hbox hb;have hbc:=δr (show Below w3.heap.size w3 _ from by repeat (exact Below.refl _ _)) hb;have GEp:Aside0 (w3.heap.size≤gbp):=⟨by rw [hg];exact Below.size (show Below w3.heap.size w3 _ from by repeat (exact Below.refl _ _))⟩;have GWp:Aside0 (w.heap.size≤gbp):=⟨Nat.le_trans HB3.out.size GEp.out⟩;have BKZ:=ζa hbox;have HBZ:=ζa hbc;have hzz:=hbox;clear hb hbc hbox hg;have hzp_0:=(δl BKZ.out 0).trans rfl;have hzp_1:=(δl BKZ.out 1).trans rfl;have hzp_2:=(δl BKZ.out 2).trans rfl;have hfp_0:=δm BKZ.out 0;have hfp_1:=δm BKZ.out 1;have hfp_2:=δm BKZ.out 2;clear hzz)|((with_reducible refine gate_store (t:=109) (p:=14) rfl ?_);refine store_event (t:=109) (p:=14) (v:=?vo4) (w1:=(((w4.setCell ⟨gbp,0,none⟩ (.int .i64 u0)).setCell ⟨gbp,1,none⟩ (.int .i64 u1)).setCell ⟨gbp,2,none⟩ (.int .i64 u2))) ?hg ?ho ?hn ?hr ?_;(case ho=>rfl);(case hg=>rfl);(case hn=>rfl);(case hr=>(go_simp;done));intro w5 hw;have hbc:Below w3.heap.size w3 w5:=(by rw [hw];exact (δq (δq (δq HBZ.out GEp.out) GEp.out) GEp.out));have BKp:Aside0 (w5.heap[gbp]? = some (.cells #[.int .i64 u0,.int .i64 u1,.int .i64 u2] 109 (0,0))):=⟨by rw [hw];exact (δw (δw (δw BKZ.out 0 _ rfl) 1 _ rfl) 2 _ rfl)⟩;have HB4:=ζa (δr HB3.out hbc);clear hbc hw BKZ HBZ;clear hzp_0 hfp_0 hzp_1 hfp_1 hzp_2 hfp_2;have hzp_0:=(δl BKp.out 0).trans rfl;have hzp_1:=(δl BKp.out 1).trans rfl;have hzp_2:=(δl BKp.out 2).trans rfl;have hfp_0:=δm BKp.out 0;have hfp_1:=δm BKp.out 1;have hfp_2:=δm BKp.out 2))
 refine (impl_isPeople.calls k _ 1 ([who]) b1 _ (by exact impl_swapPool.rowS [who] (by simp) (heap_alloc_new _ _)) (Nat.le_refl _) H6.out).mono ?_
 rintro e w6 ⟨rfl,hd⟩
 have hb:=hd.below
 clear hd
 replace BKp:=ζa (blk_below (by repeat (first|exact BKp.out|apply δo)) hb)
 clear hzp_0 hfp_0 hzp_1 hfp_1 hzp_2 hfp_2
 have m_:=ζa (δr (by repeat (first|exact HB4.out|apply δk)) hb)
 clear hb
 have HB6:=m_
 clear m_
 have hzp_0:=(δl BKp.out 0).trans rfl
 have hfp_0:=δm BKp.out 0
 have hzp_1:=(δl BKp.out 1).trans rfl
 have hfp_1:=δm BKp.out 1
 have hzp_2:=(δl BKp.out 2).trans rfl
 have hfp_2:=δm BKp.out 2
 have h:=HH.out
 clear HH
 cases b1 with
 | true =>
  rw [if_pos rfl] at h
  have HH:=ζa h
  clear h
  have h:=HH.out
  clear HH
  obtain ⟨b2,h8_,h⟩:=Option.bind_eq_some_iff.mp h
  have HH:=ζa h
  have H8:=ζa h8_
  clear h h8_
  go_wp2_with fail
  refine (impl_isSome.calls n b2 _ H8.out).mono ?_
  rintro e w8 ⟨rfl,hd⟩
  have hb:=hd.below
  clear hd
  replace BKp:=ζa (blk_below (by repeat (exact BKp.out)) hb)
  clear hzp_0 hfp_0 hzp_1 hfp_1 hzp_2 hfp_2
  have m_:=ζa (δr (by repeat (exact HB6.out)) hb)
  clear hb
  have HB8:=m_
  clear m_
  have hzp_0:=(δl BKp.out 0).trans rfl
  have hfp_0:=δm BKp.out 0
  have hzp_1:=(δl BKp.out 1).trans rfl
  have hfp_1:=δm BKp.out 1
  have hzp_2:=(δl BKp.out 2).trans rfl
  have hfp_2:=δm BKp.out 2
  have h:=HH.out
  clear HH
  cases b2 with
  | true =>
   rw [if_pos rfl] at h
   have HH:=ζa h
   clear h
   have h:=HH.out
   clear HH
   obtain ⟨b3,h10_,h⟩:=Option.bind_eq_some_iff.mp h
   have HH:=ζa h
   have H10:=ζa h10_
   clear h h10_
   go_wp2_with fail
   refine (impl_isAmount.calls least b3 _ H10.out).mono ?_
   rintro e w10 ⟨rfl,hd⟩
   have hb:=hd.below
   clear hd
   replace BKp:=ζa (blk_below (by repeat (exact BKp.out)) hb)
   clear hzp_0 hfp_0 hzp_1 hfp_1 hzp_2 hfp_2
   have m_:=ζa (δr (by repeat (exact HB8.out)) hb)
   clear hb
   have HB10:=m_
   clear m_
   have hzp_0:=(δl BKp.out 0).trans rfl
   have hfp_0:=δm BKp.out 0
   have hzp_1:=(δl BKp.out 1).trans rfl
   have hfp_1:=δm BKp.out 1
   have hzp_2:=(δl BKp.out 2).trans rfl
   have hfp_2:=δm BKp.out 2
   have h:=HH.out
   clear HH
   cases b3 with
   | true =>
    rw [if_pos rfl] at h
    have HH:=ζa h
    clear h
    have h:=HH.out
    clear HH
    by_cases cc12:u2=0
    ·
     rw [if_pos cc12] at h
     have HH:=ζa h
     clear h
     have f12a:(u2 == 0)=τ:=beq_iff_eq.mpr cc12
     have f12b:(u2 != 0)=φ:=bne_eq_false_iff_eq.mpr cc12
     have C12:=ζa cc12
     clear cc12
     have h:=HH.out
     clear HH
     obtain ⟨o2,h13_,h⟩:=Option.bind_eq_some_iff.mp h
     have HH:=ζa h
     have H13:=ζa h13_
     clear h h13_
     go_wp2_with fail
     refine (slices_Clone_impl_Pair_impl_Pair.calls A_list c_list list o2 _ (by repeat (exact Kd.C_below HR0_list.out HB10.out)) HC0_list.out H13.out).mono ?_
     rintro e w13 ⟨v13,rfl,ho,hb⟩
     replace BKp:=ζa (blk_below (by repeat (exact BKp.out)) hb)
     clear hzp_0 hfp_0 hzp_1 hfp_1 hzp_2 hfp_2
     have ho':=Kd.R_lower ho (Below.size (show Below w.heap.size w _ from by repeat (exact HB10.out)))
     obtain ⟨adr13,cap13,rfl,hl13,hq13⟩:=Kd.R_reads ho'
     have HC13:=ζa hl13
     have HRn13:=ζa hq13
     have HOn13:=ζa ho'
     clear hl13 hq13 ho ho'
     have m_:=ζa (δr (by repeat (exact HB10.out)) hb)
     clear hb
     have HB13:=m_
     clear m_
     have hzp_0:=(δl BKp.out 0).trans rfl
     have hfp_0:=δm BKp.out 0
     have hzp_1:=(δl BKp.out 1).trans rfl
     have hfp_1:=δm BKp.out 1
     have hzp_2:=(δl BKp.out 2).trans rfl
     have hfp_2:=δm BKp.out 2
     have h:=HH.out
     clear HH
     simp only [Option.some.injEq,Prod.mk.injEq] at h
     obtain ⟨rfl,rfl⟩:=h
     go_wp2
     go_ret2
     exact ⟨_,rfl,(by repeat (exact HOn13.out)),(by repeat (exact HB13.out))⟩
    ·
     rw [if_neg cc12] at h
     have HH:=ζa h
     clear h
     have f12a:(u2 == 0)=φ:=beq_eq_false_iff_ne.mpr cc12
     have f12b:(u2 != 0)=τ:=bne_iff_ne.mpr cc12
     have C12:=ζa cc12
     clear cc12
     have h:=HH.out
     clear HH
     by_cases cc14:denom.toList=name.toList
     ·
      rw [if_pos cc14] at h
      have HH:=ζa h
      clear h
      have f14a:(denom.toList == name.toList)=τ:=beq_iff_eq.mpr cc14
      have f14b:(denom.toList != name.toList)=φ:=bne_eq_false_iff_eq.mpr cc14
      have C14:=ζa cc14
      clear cc14
      have h:=HH.out
      clear HH
      by_cases cc15:denom.toList=v1.toList
      ·
       rw [if_pos cc15] at h
       have HH:=ζa h
       clear h
       have f15a:(denom.toList == v1.toList)=τ:=beq_iff_eq.mpr cc15
       have f15b:(denom.toList != v1.toList)=φ:=bne_eq_false_iff_eq.mpr cc15
       have C15:=ζa cc15
       clear cc15
       go_wp2_with fail
       have HBr:=ζa HB10.out
       go_region_held3 (fun w'=>w'.cell? ⟨gbp,0,none⟩=some (.int .i64 u0)∧w'.cell? ⟨gbp,1,none⟩=some (.int .i64 u1)∧w'.cell? ⟨gbp,2,none⟩=some (.int .i64 u2)) (go_keep)
        (first
         | fail)
       all_goals
        go_wp2_with fail
        have HBr:=ζa HBr.out
        go_region_held3 (fun w'=>w'.cell? ⟨gbp,0,none⟩=some (.int .i64 u0)∧w'.cell? ⟨gbp,1,none⟩=some (.int .i64 u1)∧w'.cell? ⟨gbp,2,none⟩=some (.int .i64 u2)) (go_keep)
         (first
          | fail)
        all_goals
         have h:=HH.out
         clear HH
         obtain ⟨⟨g1,c0⟩,h16_,h⟩:=Option.bind_eq_some_iff.mp h
         have HH:=ζa h
         have H16:=ζa h16_
         clear h h16_
         go_wp2_with fail
         refine (impl_QuoteSwap.calls k u1 u0 n g1 c0 _ H16.out).mono ?_
         rintro e w16 ⟨rfl,hd⟩
         have hb:=hd.below
         clear hd
         replace BKp:=ζa (blk_below (by repeat (exact BKp.out)) hb)
         clear hzp_0 hfp_0 hzp_1 hfp_1 hzp_2 hfp_2
         have m_:=ζa (δr (by repeat (first|exact HBr.out|apply δj)) hb)
         clear hb
         have HB16:=m_
         clear m_
         have hzp_0:=(δl BKp.out 0).trans rfl
         have hfp_0:=δm BKp.out 0
         have hzp_1:=(δl BKp.out 1).trans rfl
         have hfp_1:=δm BKp.out 1
         have hzp_2:=(δl BKp.out 2).trans rfl
         have hfp_2:=δm BKp.out 2
         have h:=HH.out
         clear HH
         by_cases cc17:c0=0
         ·
          rw [if_pos cc17] at h
          have HH:=ζa h
          clear h
          have f17a:(c0 == 0)=τ:=beq_iff_eq.mpr cc17
          have f17b:(c0 != 0)=φ:=bne_eq_false_iff_eq.mpr cc17
          have C17:=ζa cc17
          clear cc17
          have h:=HH.out
          clear HH
          by_cases cc18:g1<least
          ·
           rw [if_pos cc18] at h
           have HH:=ζa h
           clear h
           have f18a:decide (g1<least)=τ:=decide_eq_true cc18
           have C18:=ζa cc18
           clear cc18
           have h:=HH.out
           clear HH
           obtain ⟨o2,h19_,h⟩:=Option.bind_eq_some_iff.mp h
           have HH:=ζa h
           have H19:=ζa h19_
           clear h h19_
           go_wp2_with fail
           refine (slices_Clone_impl_Pair_impl_Pair.calls A_list c_list list o2 _ (by repeat (exact Kd.C_below HR0_list.out HB16.out)) HC0_list.out H19.out).mono ?_
           rintro e w19 ⟨v19,rfl,ho,hb⟩
           replace BKp:=ζa (blk_below (by repeat (exact BKp.out)) hb)
           clear hzp_0 hfp_0 hzp_1 hfp_1 hzp_2 hfp_2
           have ho':=Kd.R_lower ho (Below.size (show Below w.heap.size w _ from by repeat (exact HB16.out)))
           obtain ⟨adr19,cap19,rfl,hl19,hq19⟩:=Kd.R_reads ho'
           have HC19:=ζa hl19
           have HRn19:=ζa hq19
           have HOn19:=ζa ho'
           clear hl19 hq19 ho ho'
           have m_:=ζa (δr (by repeat (exact HB16.out)) hb)
           clear hb
           have HB19:=m_
           clear m_
           have hzp_0:=(δl BKp.out 0).trans rfl
           have hfp_0:=δm BKp.out 0
           have hzp_1:=(δl BKp.out 1).trans rfl
           have hfp_1:=δm BKp.out 1
           have hzp_2:=(δl BKp.out 2).trans rfl
           have hfp_2:=δm BKp.out 2
           have h:=HH.out
           clear HH
           simp only [Option.some.injEq,Prod.mk.injEq] at h
           obtain ⟨rfl,rfl⟩:=h
           go_wp2
           go_ret2
           exact ⟨_,rfl,(by repeat (exact HOn19.out)),(by repeat (exact HB19.out))⟩
          ·
           rw [if_neg cc18] at h
           have HH:=ζa h
           clear h
           have f18a:decide (g1<least)=φ:=decide_eq_false cc18
           have C18:=ζa cc18
           clear cc18
           have h:=HH.out
           clear HH
           obtain ⟨⟨o1,c1⟩,h20_,h⟩:=Option.bind_eq_some_iff.mp h
           have HH:=ζa h
           have H20:=ζa h20_
           clear h h20_
           go_wp2_with fail
           have HBr:=ζa HB16.out
           go_region_held3 (fun w'=>w'.cell? ⟨gbp,0,none⟩=some (.int .i64 u0)∧w'.cell? ⟨gbp,1,none⟩=some (.int .i64 u1)∧w'.cell? ⟨gbp,2,none⟩=some (.int .i64 u2)) (first|go_keep|exact ⟨(δl (by repeat (exact BKp.out)) 0).trans rfl,(δl (by repeat (exact BKp.out)) 1).trans rfl,(δl (by repeat (exact BKp.out)) 2).trans rfl⟩)
            (first
             | (go_at_call 84;(with_reducible refine (impl_move.calls k who ((⟨#[112,111,111,108]⟩:ByteArray)) name n _ (HT0.out.below (by repeat (first|exact HBr.out|apply δk|apply δj|apply δi)))).mono ?_);rintro e w21 ⟨g_m,lb_m,rfl,hch,hb⟩;replace BKp:=ζa (blk_below (by repeat (first|exact BKp.out|apply δo|apply δp|apply δn)) hb);(try (replace CH_m:=ζa (CH_m.out.below (δr (by repeat (first|exact Below.refl _ _|apply δk|apply δj|apply δi)) hb))));(try (replace CH_q:=ζa (CH_q.out.below (δr (by repeat (first|exact Below.refl _ _|apply δk|apply δj|apply δi)) hb))));(try (replace CH_p:=ζa (CH_p.out.below (δr (by repeat (first|exact Below.refl _ _|apply δk|apply δj|apply δi)) hb))));replace HBr:=ζa (δr (by repeat (first|exact HBr.out|apply δk|apply δj|apply δi)) hb);have CH_m:=ζa hch;have eg_m : ∀ args w,(callFunc g_m args).run Tryz.prog w = .ok (.enter g_m args) w:=hch.enters;clear hch hb)
             | (go_at_call 84;(with_reducible refine (impl_move.calls k ((⟨#[112,111,111,108]⟩:ByteArray)) who v1 g1 _ (HT0.out.below (by repeat (first|exact HBr.out|apply δk|apply δj|apply δi)))).mono ?_);rintro e w22 ⟨g_q,lb_q,rfl,hch,hb⟩;replace BKp:=ζa (blk_below (by repeat (first|exact BKp.out|apply δo|apply δp|apply δn)) hb);(try (replace CH_m:=ζa (CH_m.out.below (δr (by repeat (first|exact Below.refl _ _|apply δk|apply δj|apply δi)) hb))));(try (replace CH_q:=ζa (CH_q.out.below (δr (by repeat (first|exact Below.refl _ _|apply δk|apply δj|apply δi)) hb))));(try (replace CH_p:=ζa (CH_p.out.below (δr (by repeat (first|exact Below.refl _ _|apply δk|apply δj|apply δi)) hb))));replace HBr:=ζa (δr (by repeat (first|exact HBr.out|apply δk|apply δj|apply δi)) hb);have CH_q:=ζa hch;have eg_q : ∀ args w,(callFunc g_q args).run Tryz.prog w = .ok (.enter g_q args) w:=hch.enters;clear hch hb)
             | (go_at_call 125;refine (impl_putPool.calls k (IntKind.i64.wrap (u0+n)) (IntKind.i64.wrap (u1 - g1)) u2 _ (HT0.out.below (by repeat (first|exact HBr.out|apply δk|apply δj|apply δi)))).mono ?_;rintro e w23 ⟨g_p,lb_p,rfl,hch,hb⟩;replace BKp:=ζa (blk_below (by repeat (first|exact BKp.out|apply δo|apply δp|apply δn)) hb);(try (replace CH_m:=ζa (CH_m.out.below (δr (by repeat (first|exact Below.refl _ _|apply δk|apply δj|apply δi)) hb))));(try (replace CH_q:=ζa (CH_q.out.below (δr (by repeat (first|exact Below.refl _ _|apply δk|apply δj|apply δi)) hb))));(try (replace CH_p:=ζa (CH_p.out.below (δr (by repeat (first|exact Below.refl _ _|apply δk|apply δj|apply δi)) hb))));replace HBr:=ζa (δr (by repeat (first|exact HBr.out|apply δk|apply δj|apply δi)) hb);have CH_p:=ζa hch;have eg_p : ∀ args w,(callFunc g_p args).run Tryz.prog w = .ok (.enter g_p args) w:=hch.enters;clear hch hb)
             | (go_at_call 109;refine (impl_all.calls k A_list c_list list _ _ [(g_m,lb_m),(g_q,lb_q),(g_p,lb_p)] [(impl_move.F k who (⟨#[112,111,111,108]⟩:ByteArray) name n),(impl_move.F k (⟨#[112,111,111,108]⟩:ByteArray) who v1 g1),(impl_putPool.F k (IntKind.i64.wrap (u0+n)) (IntKind.i64.wrap (u1 - g1)) u2)] o1 c1 _ (by repeat (first|exact Kd.C_below HR0_list.out HBr.out|apply Kd.C_alloc|apply Kd.C_drew|apply Kd.C_drewN)) HC0_list.out (rowF _ (show 3≤1000 by decide) (heap_alloc_new _ _)) rfl (chg_cons (CH_m.out.below (by repeat (first|exact Below.refl _ _|apply δk|apply δj|apply δi))).chg (chg_cons (CH_q.out.below (by repeat (first|exact Below.refl _ _|apply δk|apply δj|apply δi))).chg (chg_cons (CH_p.out.below (by repeat (first|exact Below.refl _ _|apply δk|apply δj|apply δi))).chg chg_nil))) H20.out).mono ?_;rintro e w20 ⟨v20,rfl,ho,hb⟩;have ho':=Kd.R_lower ho (Below.size (show Below w.heap.size w _ from by repeat (first|exact HBr.out|apply δk|apply δj|apply δi)));obtain ⟨adr20,cap20,rfl,hl20,hq20⟩:=Kd.R_reads ho';have HC20:=ζa hl20;have HRn20:=ζa hq20;have HOn20:=ζa ho';clear hl20 hq20 ho ho';replace BKp:=ζa (blk_below (by repeat (first|exact BKp.out|apply δo|apply δp|apply δn)) hb);(try (replace CH_m:=ζa (CH_m.out.below (δr (by repeat (first|exact Below.refl _ _|apply δk|apply δj|apply δi)) hb))));(try (replace CH_q:=ζa (CH_q.out.below (δr (by repeat (first|exact Below.refl _ _|apply δk|apply δj|apply δi)) hb))));(try (replace CH_p:=ζa (CH_p.out.below (δr (by repeat (first|exact Below.refl _ _|apply δk|apply δj|apply δi)) hb))));replace HBr:=ζa (δr (by repeat (first|exact HBr.out|apply δk|apply δj|apply δi)) hb);clear hb))
           all_goals
            clear hzp_0 hfp_0 hzp_1 hfp_1 hzp_2 hfp_2
            have hzp_0:=(δl BKp.out 0).trans rfl
            have hfp_0:=δm BKp.out 0
            have hzp_1:=(δl BKp.out 1).trans rfl
            have hfp_1:=δm BKp.out 1
            have hzp_2:=(δl BKp.out 2).trans rfl
            have hfp_2:=δm BKp.out 2
            have h:=HH.out
            clear HH
            simp only [Option.some.injEq,Prod.mk.injEq] at h
            obtain ⟨rfl,rfl⟩:=h
            go_wp2
            go_ret2
            exact ⟨_,rfl,(by repeat (exact HOn20.out)),(by repeat (exact HBr.out))⟩
         ·
          rw [if_neg cc17] at h
          have HH:=ζa h
          clear h
          have f17a:(c0 == 0)=φ:=beq_eq_false_iff_ne.mpr cc17
          have f17b:(c0 != 0)=τ:=bne_iff_ne.mpr cc17
          have C17:=ζa cc17
          clear cc17
          have h:=HH.out
          clear HH
          obtain ⟨o2,h24_,h⟩:=Option.bind_eq_some_iff.mp h
          have HH:=ζa h
          have H24:=ζa h24_
          clear h h24_
          go_wp2_with fail
          refine (slices_Clone_impl_Pair_impl_Pair.calls A_list c_list list o2 _ (by repeat (exact Kd.C_below HR0_list.out HB16.out)) HC0_list.out H24.out).mono ?_
          rintro e w24 ⟨v24,rfl,ho,hb⟩
          replace BKp:=ζa (blk_below (by repeat (exact BKp.out)) hb)
          clear hzp_0 hfp_0 hzp_1 hfp_1 hzp_2 hfp_2
          have ho':=Kd.R_lower ho (Below.size (show Below w.heap.size w _ from by repeat (exact HB16.out)))
          obtain ⟨adr24,cap24,rfl,hl24,hq24⟩:=Kd.R_reads ho'
          have HC24:=ζa hl24
          have HRn24:=ζa hq24
          have HOn24:=ζa ho'
          clear hl24 hq24 ho ho'
          have m_:=ζa (δr (by repeat (exact HB16.out)) hb)
          clear hb
          have HB24:=m_
          clear m_
          have hzp_0:=(δl BKp.out 0).trans rfl
          have hfp_0:=δm BKp.out 0
          have hzp_1:=(δl BKp.out 1).trans rfl
          have hfp_1:=δm BKp.out 1
          have hzp_2:=(δl BKp.out 2).trans rfl
          have hfp_2:=δm BKp.out 2
          have h:=HH.out
          clear HH
          simp only [Option.some.injEq,Prod.mk.injEq] at h
          obtain ⟨rfl,rfl⟩:=h
          go_wp2
          go_ret2
          exact ⟨_,rfl,(by repeat (exact HOn24.out)),(by repeat (exact HB24.out))⟩
      ·
       rw [if_neg cc15] at h
       have HH:=ζa h
       clear h
       have f15a:(denom.toList == v1.toList)=φ:=beq_eq_false_iff_ne.mpr cc15
       have f15b:(denom.toList != v1.toList)=τ:=bne_iff_ne.mpr cc15
       have C15:=ζa cc15
       clear cc15
       go_wp2_with fail
       have HBr:=ζa HB10.out
       go_region_held3 (fun w'=>w'.cell? ⟨gbp,0,none⟩=some (.int .i64 u0)∧w'.cell? ⟨gbp,1,none⟩=some (.int .i64 u1)∧w'.cell? ⟨gbp,2,none⟩=some (.int .i64 u2)) (go_keep)
        (first
         | fail)
       all_goals
        have h:=HH.out
        clear HH
        obtain ⟨⟨g1,c0⟩,h25_,h⟩:=Option.bind_eq_some_iff.mp h
        have HH:=ζa h
        have H25:=ζa h25_
        clear h h25_
        go_wp2_with fail
        refine (impl_QuoteSwap.calls k u0 u1 n g1 c0 _ H25.out).mono ?_
        rintro e w25 ⟨rfl,hd⟩
        have hb:=hd.below
        clear hd
        replace BKp:=ζa (blk_below (by repeat (exact BKp.out)) hb)
        clear hzp_0 hfp_0 hzp_1 hfp_1 hzp_2 hfp_2
        have m_:=ζa (δr (by repeat (first|exact HBr.out|apply δj)) hb)
        clear hb
        have HB25:=m_
        clear m_
        have hzp_0:=(δl BKp.out 0).trans rfl
        have hfp_0:=δm BKp.out 0
        have hzp_1:=(δl BKp.out 1).trans rfl
        have hfp_1:=δm BKp.out 1
        have hzp_2:=(δl BKp.out 2).trans rfl
        have hfp_2:=δm BKp.out 2
        have h:=HH.out
        clear HH
        by_cases cc26:c0=0
        ·
         rw [if_pos cc26] at h
         have HH:=ζa h
         clear h
         have f26a:(c0 == 0)=τ:=beq_iff_eq.mpr cc26
         have f26b:(c0 != 0)=φ:=bne_eq_false_iff_eq.mpr cc26
         have C26:=ζa cc26
         clear cc26
         have h:=HH.out
         clear HH
         by_cases cc27:g1<least
         ·
          rw [if_pos cc27] at h
          have HH:=ζa h
          clear h
          have f27a:decide (g1<least)=τ:=decide_eq_true cc27
          have C27:=ζa cc27
          clear cc27
          have h:=HH.out
          clear HH
          obtain ⟨o2,h28_,h⟩:=Option.bind_eq_some_iff.mp h
          have HH:=ζa h
          have H28:=ζa h28_
          clear h h28_
          go_wp2_with fail
          refine (slices_Clone_impl_Pair_impl_Pair.calls A_list c_list list o2 _ (by repeat (exact Kd.C_below HR0_list.out HB25.out)) HC0_list.out H28.out).mono ?_
          rintro e w28 ⟨v28,rfl,ho,hb⟩
          replace BKp:=ζa (blk_below (by repeat (exact BKp.out)) hb)
          clear hzp_0 hfp_0 hzp_1 hfp_1 hzp_2 hfp_2
          have ho':=Kd.R_lower ho (Below.size (show Below w.heap.size w _ from by repeat (exact HB25.out)))
          obtain ⟨adr28,cap28,rfl,hl28,hq28⟩:=Kd.R_reads ho'
          have HC28:=ζa hl28
          have HRn28:=ζa hq28
          have HOn28:=ζa ho'
          clear hl28 hq28 ho ho'
          have m_:=ζa (δr (by repeat (exact HB25.out)) hb)
          clear hb
          have HB28:=m_
          clear m_
          have hzp_0:=(δl BKp.out 0).trans rfl
          have hfp_0:=δm BKp.out 0
          have hzp_1:=(δl BKp.out 1).trans rfl
          have hfp_1:=δm BKp.out 1
          have hzp_2:=(δl BKp.out 2).trans rfl
          have hfp_2:=δm BKp.out 2
          have h:=HH.out
          clear HH
          simp only [Option.some.injEq,Prod.mk.injEq] at h
          obtain ⟨rfl,rfl⟩:=h
          go_wp2
          go_ret2
          exact ⟨_,rfl,(by repeat (exact HOn28.out)),(by repeat (exact HB28.out))⟩
         ·
          rw [if_neg cc27] at h
          have HH:=ζa h
          clear h
          have f27a:decide (g1<least)=φ:=decide_eq_false cc27
          have C27:=ζa cc27
          clear cc27
          have h:=HH.out
          clear HH
          obtain ⟨⟨o1,c1⟩,h29_,h⟩:=Option.bind_eq_some_iff.mp h
          have HH:=ζa h
          have H29:=ζa h29_
          clear h h29_
          go_wp2_with fail
          have HBr:=ζa HB25.out
          go_region_held3 (fun w'=>w'.cell? ⟨gbp,0,none⟩=some (.int .i64 u0)∧w'.cell? ⟨gbp,1,none⟩=some (.int .i64 u1)∧w'.cell? ⟨gbp,2,none⟩=some (.int .i64 u2)) (first|go_keep|exact ⟨(δl (by repeat (exact BKp.out)) 0).trans rfl,(δl (by repeat (exact BKp.out)) 1).trans rfl,(δl (by repeat (exact BKp.out)) 2).trans rfl⟩)
           (first
            | (go_at_call 84;(with_reducible refine (impl_move.calls k who ((⟨#[112,111,111,108]⟩:ByteArray)) name n _ (HT0.out.below (by repeat (first|exact HBr.out|apply δk|apply δj|apply δi)))).mono ?_);rintro e w30 ⟨g_m,lb_m,rfl,hch,hb⟩;replace BKp:=ζa (blk_below (by repeat (first|exact BKp.out|apply δo|apply δp|apply δn)) hb);(try (replace CH_m:=ζa (CH_m.out.below (δr (by repeat (first|exact Below.refl _ _|apply δk|apply δj|apply δi)) hb))));(try (replace CH_q:=ζa (CH_q.out.below (δr (by repeat (first|exact Below.refl _ _|apply δk|apply δj|apply δi)) hb))));(try (replace CH_p:=ζa (CH_p.out.below (δr (by repeat (first|exact Below.refl _ _|apply δk|apply δj|apply δi)) hb))));replace HBr:=ζa (δr (by repeat (first|exact HBr.out|apply δk|apply δj|apply δi)) hb);have CH_m:=ζa hch;have eg_m : ∀ args w,(callFunc g_m args).run Tryz.prog w = .ok (.enter g_m args) w:=hch.enters;clear hch hb)
            | (go_at_call 84;(with_reducible refine (impl_move.calls k ((⟨#[112,111,111,108]⟩:ByteArray)) who v1 g1 _ (HT0.out.below (by repeat (first|exact HBr.out|apply δk|apply δj|apply δi)))).mono ?_);rintro e w31 ⟨g_q,lb_q,rfl,hch,hb⟩;replace BKp:=ζa (blk_below (by repeat (first|exact BKp.out|apply δo|apply δp|apply δn)) hb);(try (replace CH_m:=ζa (CH_m.out.below (δr (by repeat (first|exact Below.refl _ _|apply δk|apply δj|apply δi)) hb))));(try (replace CH_q:=ζa (CH_q.out.below (δr (by repeat (first|exact Below.refl _ _|apply δk|apply δj|apply δi)) hb))));(try (replace CH_p:=ζa (CH_p.out.below (δr (by repeat (first|exact Below.refl _ _|apply δk|apply δj|apply δi)) hb))));replace HBr:=ζa (δr (by repeat (first|exact HBr.out|apply δk|apply δj|apply δi)) hb);have CH_q:=ζa hch;have eg_q : ∀ args w,(callFunc g_q args).run Tryz.prog w = .ok (.enter g_q args) w:=hch.enters;clear hch hb)
            | (go_at_call 125;refine (impl_putPool.calls k (IntKind.i64.wrap (u0+n)) (IntKind.i64.wrap (u1 - g1)) u2 _ (HT0.out.below (by repeat (first|exact HBr.out|apply δk|apply δj|apply δi)))).mono ?_;rintro e w32 ⟨g_p,lb_p,rfl,hch,hb⟩;replace BKp:=ζa (blk_below (by repeat (first|exact BKp.out|apply δo|apply δp|apply δn)) hb);(try (replace CH_m:=ζa (CH_m.out.below (δr (by repeat (first|exact Below.refl _ _|apply δk|apply δj|apply δi)) hb))));(try (replace CH_q:=ζa (CH_q.out.below (δr (by repeat (first|exact Below.refl _ _|apply δk|apply δj|apply δi)) hb))));(try (replace CH_p:=ζa (CH_p.out.below (δr (by repeat (first|exact Below.refl _ _|apply δk|apply δj|apply δi)) hb))));replace HBr:=ζa (δr (by repeat (first|exact HBr.out|apply δk|apply δj|apply δi)) hb);have CH_p:=ζa hch;have eg_p : ∀ args w,(callFunc g_p args).run Tryz.prog w = .ok (.enter g_p args) w:=hch.enters;clear hch hb)
            | (go_at_call 109;refine (impl_all.calls k A_list c_list list _ _ [(g_m,lb_m),(g_q,lb_q),(g_p,lb_p)] [(impl_move.F k who (⟨#[112,111,111,108]⟩:ByteArray) name n),(impl_move.F k (⟨#[112,111,111,108]⟩:ByteArray) who v1 g1),(impl_putPool.F k (IntKind.i64.wrap (u0+n)) (IntKind.i64.wrap (u1 - g1)) u2)] o1 c1 _ (by repeat (first|exact Kd.C_below HR0_list.out HBr.out|apply Kd.C_alloc|apply Kd.C_drew|apply Kd.C_drewN)) HC0_list.out (rowF _ (show 3≤1000 by decide) (heap_alloc_new _ _)) rfl (chg_cons (CH_m.out.below (by repeat (first|exact Below.refl _ _|apply δk|apply δj|apply δi))).chg (chg_cons (CH_q.out.below (by repeat (first|exact Below.refl _ _|apply δk|apply δj|apply δi))).chg (chg_cons (CH_p.out.below (by repeat (first|exact Below.refl _ _|apply δk|apply δj|apply δi))).chg chg_nil))) H29.out).mono ?_;rintro e w29 ⟨v29,rfl,ho,hb⟩;have ho':=Kd.R_lower ho (Below.size (show Below w.heap.size w _ from by repeat (first|exact HBr.out|apply δk|apply δj|apply δi)));obtain ⟨adr29,cap29,rfl,hl29,hq29⟩:=Kd.R_reads ho';have HC29:=ζa hl29;have HRn29:=ζa hq29;have HOn29:=ζa ho';clear hl29 hq29 ho ho';replace BKp:=ζa (blk_below (by repeat (first|exact BKp.out|apply δo|apply δp|apply δn)) hb);(try (replace CH_m:=ζa (CH_m.out.below (δr (by repeat (first|exact Below.refl _ _|apply δk|apply δj|apply δi)) hb))));(try (replace CH_q:=ζa (CH_q.out.below (δr (by repeat (first|exact Below.refl _ _|apply δk|apply δj|apply δi)) hb))));(try (replace CH_p:=ζa (CH_p.out.below (δr (by repeat (first|exact Below.refl _ _|apply δk|apply δj|apply δi)) hb))));replace HBr:=ζa (δr (by repeat (first|exact HBr.out|apply δk|apply δj|apply δi)) hb);clear hb))
          all_goals
           clear hzp_0 hfp_0 hzp_1 hfp_1 hzp_2 hfp_2
           have hzp_0:=(δl BKp.out 0).trans rfl
           have hfp_0:=δm BKp.out 0
           have hzp_1:=(δl BKp.out 1).trans rfl
           have hfp_1:=δm BKp.out 1
           have hzp_2:=(δl BKp.out 2).trans rfl
           have hfp_2:=δm BKp.out 2
           have h:=HH.out
           clear HH
           simp only [Option.some.injEq,Prod.mk.injEq] at h
           obtain ⟨rfl,rfl⟩:=h
           go_wp2
           go_ret2
           exact ⟨_,rfl,(by repeat (exact HOn29.out)),(by repeat (exact HBr.out))⟩
        ·
         rw [if_neg cc26] at h
         have HH:=ζa h
         clear h
         have f26a:(c0 == 0)=φ:=beq_eq_false_iff_ne.mpr cc26
         have f26b:(c0 != 0)=τ:=bne_iff_ne.mpr cc26
         have C26:=ζa cc26
         clear cc26
         have h:=HH.out
         clear HH
         obtain ⟨o2,h33_,h⟩:=Option.bind_eq_some_iff.mp h
         have HH:=ζa h
         have H33:=ζa h33_
         clear h h33_
         go_wp2_with fail
         refine (slices_Clone_impl_Pair_impl_Pair.calls A_list c_list list o2 _ (by repeat (exact Kd.C_below HR0_list.out HB25.out)) HC0_list.out H33.out).mono ?_
         rintro e w33 ⟨v33,rfl,ho,hb⟩
         replace BKp:=ζa (blk_below (by repeat (exact BKp.out)) hb)
         clear hzp_0 hfp_0 hzp_1 hfp_1 hzp_2 hfp_2
         have ho':=Kd.R_lower ho (Below.size (show Below w.heap.size w _ from by repeat (exact HB25.out)))
         obtain ⟨adr33,cap33,rfl,hl33,hq33⟩:=Kd.R_reads ho'
         have HC33:=ζa hl33
         have HRn33:=ζa hq33
         have HOn33:=ζa ho'
         clear hl33 hq33 ho ho'
         have m_:=ζa (δr (by repeat (exact HB25.out)) hb)
         clear hb
         have HB33:=m_
         clear m_
         have hzp_0:=(δl BKp.out 0).trans rfl
         have hfp_0:=δm BKp.out 0
         have hzp_1:=(δl BKp.out 1).trans rfl
         have hfp_1:=δm BKp.out 1
         have hzp_2:=(δl BKp.out 2).trans rfl
         have hfp_2:=δm BKp.out 2
         have h:=HH.out
         clear HH
         simp only [Option.some.injEq,Prod.mk.injEq] at h
         obtain ⟨rfl,rfl⟩:=h
         go_wp2
         go_ret2
         exact ⟨_,rfl,(by repeat (exact HOn33.out)),(by repeat (exact HB33.out))⟩
     ·
      rw [if_neg cc14] at h
      have HH:=ζa h
      clear h
      have f14a:(denom.toList == name.toList)=φ:=beq_eq_false_iff_ne.mpr cc14
      have f14b:(denom.toList != name.toList)=τ:=bne_iff_ne.mpr cc14
      have C14:=ζa cc14
      clear cc14
      have h:=HH.out
      clear HH
      by_cases cc34:denom.toList=v1.toList
      ·
       rw [if_pos cc34] at h
       have HH:=ζa h
       clear h
       have f34a:(denom.toList == v1.toList)=τ:=beq_iff_eq.mpr cc34
       have f34b:(denom.toList != v1.toList)=φ:=bne_eq_false_iff_eq.mpr cc34
       have C34:=ζa cc34
       clear cc34
       go_wp2_with fail
       have HBr:=ζa HB10.out
       go_region_held3 (fun w'=>w'.cell? ⟨gbp,0,none⟩=some (.int .i64 u0)∧w'.cell? ⟨gbp,1,none⟩=some (.int .i64 u1)∧w'.cell? ⟨gbp,2,none⟩=some (.int .i64 u2)) (go_keep)
        (first
         | fail)
       all_goals
        go_wp2_with fail
        have HBr:=ζa HBr.out
        go_region_held3 (fun w'=>w'.cell? ⟨gbp,0,none⟩=some (.int .i64 u0)∧w'.cell? ⟨gbp,1,none⟩=some (.int .i64 u1)∧w'.cell? ⟨gbp,2,none⟩=some (.int .i64 u2)) (go_keep)
         (first
          | fail)
        all_goals
         have h:=HH.out
         clear HH
         obtain ⟨⟨g1,c0⟩,h35_,h⟩:=Option.bind_eq_some_iff.mp h
         have HH:=ζa h
         have H35:=ζa h35_
         clear h h35_
         go_wp2_with fail
         refine (impl_QuoteSwap.calls k u1 u0 n g1 c0 _ H35.out).mono ?_
         rintro e w35 ⟨rfl,hd⟩
         have hb:=hd.below
         clear hd
         replace BKp:=ζa (blk_below (by repeat (exact BKp.out)) hb)
         clear hzp_0 hfp_0 hzp_1 hfp_1 hzp_2 hfp_2
         have m_:=ζa (δr (by repeat (first|exact HBr.out|apply δj)) hb)
         clear hb
         have HB35:=m_
         clear m_
         have hzp_0:=(δl BKp.out 0).trans rfl
         have hfp_0:=δm BKp.out 0
         have hzp_1:=(δl BKp.out 1).trans rfl
         have hfp_1:=δm BKp.out 1
         have hzp_2:=(δl BKp.out 2).trans rfl
         have hfp_2:=δm BKp.out 2
         have h:=HH.out
         clear HH
         by_cases cc36:c0=0
         ·
          rw [if_pos cc36] at h
          have HH:=ζa h
          clear h
          have f36a:(c0 == 0)=τ:=beq_iff_eq.mpr cc36
          have f36b:(c0 != 0)=φ:=bne_eq_false_iff_eq.mpr cc36
          have C36:=ζa cc36
          clear cc36
          have h:=HH.out
          clear HH
          by_cases cc37:g1<least
          ·
           rw [if_pos cc37] at h
           have HH:=ζa h
           clear h
           have f37a:decide (g1<least)=τ:=decide_eq_true cc37
           have C37:=ζa cc37
           clear cc37
           have h:=HH.out
           clear HH
           obtain ⟨o2,h38_,h⟩:=Option.bind_eq_some_iff.mp h
           have HH:=ζa h
           have H38:=ζa h38_
           clear h h38_
           go_wp2_with fail
           refine (slices_Clone_impl_Pair_impl_Pair.calls A_list c_list list o2 _ (by repeat (exact Kd.C_below HR0_list.out HB35.out)) HC0_list.out H38.out).mono ?_
           rintro e w38 ⟨v38,rfl,ho,hb⟩
           replace BKp:=ζa (blk_below (by repeat (exact BKp.out)) hb)
           clear hzp_0 hfp_0 hzp_1 hfp_1 hzp_2 hfp_2
           have ho':=Kd.R_lower ho (Below.size (show Below w.heap.size w _ from by repeat (exact HB35.out)))
           obtain ⟨adr38,cap38,rfl,hl38,hq38⟩:=Kd.R_reads ho'
           have HC38:=ζa hl38
           have HRn38:=ζa hq38
           have HOn38:=ζa ho'
           clear hl38 hq38 ho ho'
           have m_:=ζa (δr (by repeat (exact HB35.out)) hb)
           clear hb
           have HB38:=m_
           clear m_
           have hzp_0:=(δl BKp.out 0).trans rfl
           have hfp_0:=δm BKp.out 0
           have hzp_1:=(δl BKp.out 1).trans rfl
           have hfp_1:=δm BKp.out 1
           have hzp_2:=(δl BKp.out 2).trans rfl
           have hfp_2:=δm BKp.out 2
           have h:=HH.out
           clear HH
           simp only [Option.some.injEq,Prod.mk.injEq] at h
           obtain ⟨rfl,rfl⟩:=h
           go_wp2
           go_ret2
           exact ⟨_,rfl,(by repeat (exact HOn38.out)),(by repeat (exact HB38.out))⟩
          ·
           rw [if_neg cc37] at h
           have HH:=ζa h
           clear h
           have f37a:decide (g1<least)=φ:=decide_eq_false cc37
           have C37:=ζa cc37
           clear cc37
           have h:=HH.out
           clear HH
           obtain ⟨⟨o1,c1⟩,h39_,h⟩:=Option.bind_eq_some_iff.mp h
           have HH:=ζa h
           have H39:=ζa h39_
           clear h h39_
           go_wp2_with fail
           have HBr:=ζa HB35.out
           go_region_held3 (fun w'=>w'.cell? ⟨gbp,0,none⟩=some (.int .i64 u0)∧w'.cell? ⟨gbp,1,none⟩=some (.int .i64 u1)∧w'.cell? ⟨gbp,2,none⟩=some (.int .i64 u2)) (first|go_keep|exact ⟨(δl (by repeat (exact BKp.out)) 0).trans rfl,(δl (by repeat (exact BKp.out)) 1).trans rfl,(δl (by repeat (exact BKp.out)) 2).trans rfl⟩)
            (first
             | (go_at_call 84;(with_reducible refine (impl_move.calls k ((⟨#[112,111,111,108]⟩:ByteArray)) who name g1 _ (HT0.out.below (by repeat (first|exact HBr.out|apply δk|apply δj|apply δi)))).mono ?_);rintro e w40 ⟨g_m,lb_m,rfl,hch,hb⟩;replace BKp:=ζa (blk_below (by repeat (first|exact BKp.out|apply δo|apply δp|apply δn)) hb);(try (replace CH_m:=ζa (CH_m.out.below (δr (by repeat (first|exact Below.refl _ _|apply δk|apply δj|apply δi)) hb))));(try (replace CH_q:=ζa (CH_q.out.below (δr (by repeat (first|exact Below.refl _ _|apply δk|apply δj|apply δi)) hb))));(try (replace CH_p:=ζa (CH_p.out.below (δr (by repeat (first|exact Below.refl _ _|apply δk|apply δj|apply δi)) hb))));replace HBr:=ζa (δr (by repeat (first|exact HBr.out|apply δk|apply δj|apply δi)) hb);have CH_m:=ζa hch;have eg_m : ∀ args w,(callFunc g_m args).run Tryz.prog w = .ok (.enter g_m args) w:=hch.enters;clear hch hb)
             | (go_at_call 84;(with_reducible refine (impl_move.calls k who ((⟨#[112,111,111,108]⟩:ByteArray)) v1 n _ (HT0.out.below (by repeat (first|exact HBr.out|apply δk|apply δj|apply δi)))).mono ?_);rintro e w41 ⟨g_q,lb_q,rfl,hch,hb⟩;replace BKp:=ζa (blk_below (by repeat (first|exact BKp.out|apply δo|apply δp|apply δn)) hb);(try (replace CH_m:=ζa (CH_m.out.below (δr (by repeat (first|exact Below.refl _ _|apply δk|apply δj|apply δi)) hb))));(try (replace CH_q:=ζa (CH_q.out.below (δr (by repeat (first|exact Below.refl _ _|apply δk|apply δj|apply δi)) hb))));(try (replace CH_p:=ζa (CH_p.out.below (δr (by repeat (first|exact Below.refl _ _|apply δk|apply δj|apply δi)) hb))));replace HBr:=ζa (δr (by repeat (first|exact HBr.out|apply δk|apply δj|apply δi)) hb);have CH_q:=ζa hch;have eg_q : ∀ args w,(callFunc g_q args).run Tryz.prog w = .ok (.enter g_q args) w:=hch.enters;clear hch hb)
             | (go_at_call 125;refine (impl_putPool.calls k (IntKind.i64.wrap (u0 - g1)) (IntKind.i64.wrap (u1+n)) u2 _ (HT0.out.below (by repeat (first|exact HBr.out|apply δk|apply δj|apply δi)))).mono ?_;rintro e w42 ⟨g_p,lb_p,rfl,hch,hb⟩;replace BKp:=ζa (blk_below (by repeat (first|exact BKp.out|apply δo|apply δp|apply δn)) hb);(try (replace CH_m:=ζa (CH_m.out.below (δr (by repeat (first|exact Below.refl _ _|apply δk|apply δj|apply δi)) hb))));(try (replace CH_q:=ζa (CH_q.out.below (δr (by repeat (first|exact Below.refl _ _|apply δk|apply δj|apply δi)) hb))));(try (replace CH_p:=ζa (CH_p.out.below (δr (by repeat (first|exact Below.refl _ _|apply δk|apply δj|apply δi)) hb))));replace HBr:=ζa (δr (by repeat (first|exact HBr.out|apply δk|apply δj|apply δi)) hb);have CH_p:=ζa hch;have eg_p : ∀ args w,(callFunc g_p args).run Tryz.prog w = .ok (.enter g_p args) w:=hch.enters;clear hch hb)
             | (go_at_call 109;refine (impl_all.calls k A_list c_list list _ _ [(g_m,lb_m),(g_q,lb_q),(g_p,lb_p)] [(impl_move.F k (⟨#[112,111,111,108]⟩:ByteArray) who name g1),(impl_move.F k who (⟨#[112,111,111,108]⟩:ByteArray) v1 n),(impl_putPool.F k (IntKind.i64.wrap (u0 - g1)) (IntKind.i64.wrap (u1+n)) u2)] o1 c1 _ (by repeat (first|exact Kd.C_below HR0_list.out HBr.out|apply Kd.C_alloc|apply Kd.C_drew|apply Kd.C_drewN)) HC0_list.out (rowF _ (show 3≤1000 by decide) (heap_alloc_new _ _)) rfl (chg_cons (CH_m.out.below (by repeat (first|exact Below.refl _ _|apply δk|apply δj|apply δi))).chg (chg_cons (CH_q.out.below (by repeat (first|exact Below.refl _ _|apply δk|apply δj|apply δi))).chg (chg_cons (CH_p.out.below (by repeat (first|exact Below.refl _ _|apply δk|apply δj|apply δi))).chg chg_nil))) H39.out).mono ?_;rintro e w39 ⟨v39,rfl,ho,hb⟩;have ho':=Kd.R_lower ho (Below.size (show Below w.heap.size w _ from by repeat (first|exact HBr.out|apply δk|apply δj|apply δi)));obtain ⟨adr39,cap39,rfl,hl39,hq39⟩:=Kd.R_reads ho';have HC39:=ζa hl39;have HRn39:=ζa hq39;have HOn39:=ζa ho';clear hl39 hq39 ho ho';replace BKp:=ζa (blk_below (by repeat (first|exact BKp.out|apply δo|apply δp|apply δn)) hb);(try (replace CH_m:=ζa (CH_m.out.below (δr (by repeat (first|exact Below.refl _ _|apply δk|apply δj|apply δi)) hb))));(try (replace CH_q:=ζa (CH_q.out.below (δr (by repeat (first|exact Below.refl _ _|apply δk|apply δj|apply δi)) hb))));(try (replace CH_p:=ζa (CH_p.out.below (δr (by repeat (first|exact Below.refl _ _|apply δk|apply δj|apply δi)) hb))));replace HBr:=ζa (δr (by repeat (first|exact HBr.out|apply δk|apply δj|apply δi)) hb);clear hb))
           all_goals
            clear hzp_0 hfp_0 hzp_1 hfp_1 hzp_2 hfp_2
            have hzp_0:=(δl BKp.out 0).trans rfl
            have hfp_0:=δm BKp.out 0
            have hzp_1:=(δl BKp.out 1).trans rfl
            have hfp_1:=δm BKp.out 1
            have hzp_2:=(δl BKp.out 2).trans rfl
            have hfp_2:=δm BKp.out 2
            have h:=HH.out
            clear HH
            simp only [Option.some.injEq,Prod.mk.injEq] at h
            obtain ⟨rfl,rfl⟩:=h
            go_wp2
            go_ret2
            exact ⟨_,rfl,(by repeat (exact HOn39.out)),(by repeat (exact HBr.out))⟩
         ·
          rw [if_neg cc36] at h
          have HH:=ζa h
          clear h
          have f36a:(c0 == 0)=φ:=beq_eq_false_iff_ne.mpr cc36
          have f36b:(c0 != 0)=τ:=bne_iff_ne.mpr cc36
          have C36:=ζa cc36
          clear cc36
          have h:=HH.out
          clear HH
          obtain ⟨o2,h43_,h⟩:=Option.bind_eq_some_iff.mp h
          have HH:=ζa h
          have H43:=ζa h43_
          clear h h43_
          go_wp2_with fail
          refine (slices_Clone_impl_Pair_impl_Pair.calls A_list c_list list o2 _ (by repeat (exact Kd.C_below HR0_list.out HB35.out)) HC0_list.out H43.out).mono ?_
          rintro e w43 ⟨v43,rfl,ho,hb⟩
          replace BKp:=ζa (blk_below (by repeat (exact BKp.out)) hb)
          clear hzp_0 hfp_0 hzp_1 hfp_1 hzp_2 hfp_2
          have ho':=Kd.R_lower ho (Below.size (show Below w.heap.size w _ from by repeat (exact HB35.out)))
          obtain ⟨adr43,cap43,rfl,hl43,hq43⟩:=Kd.R_reads ho'
          have HC43:=ζa hl43
          have HRn43:=ζa hq43
          have HOn43:=ζa ho'
          clear hl43 hq43 ho ho'
          have m_:=ζa (δr (by repeat (exact HB35.out)) hb)
          clear hb
          have HB43:=m_
          clear m_
          have hzp_0:=(δl BKp.out 0).trans rfl
          have hfp_0:=δm BKp.out 0
          have hzp_1:=(δl BKp.out 1).trans rfl
          have hfp_1:=δm BKp.out 1
          have hzp_2:=(δl BKp.out 2).trans rfl
          have hfp_2:=δm BKp.out 2
          have h:=HH.out
          clear HH
          simp only [Option.some.injEq,Prod.mk.injEq] at h
          obtain ⟨rfl,rfl⟩:=h
          go_wp2
          go_ret2
          exact ⟨_,rfl,(by repeat (exact HOn43.out)),(by repeat (exact HB43.out))⟩
      ·
       rw [if_neg cc34] at h
       have HH:=ζa h
       clear h
       have f34a:(denom.toList == v1.toList)=φ:=beq_eq_false_iff_ne.mpr cc34
       have f34b:(denom.toList != v1.toList)=τ:=bne_iff_ne.mpr cc34
       have C34:=ζa cc34
       clear cc34
       have h:=HH.out
       clear HH
       obtain ⟨o2,h44_,h⟩:=Option.bind_eq_some_iff.mp h
       have HH:=ζa h
       have H44:=ζa h44_
       clear h h44_
       go_wp2_with fail
       refine (slices_Clone_impl_Pair_impl_Pair.calls A_list c_list list o2 _ (by repeat (exact Kd.C_below HR0_list.out HB10.out)) HC0_list.out H44.out).mono ?_
       rintro e w44 ⟨v44,rfl,ho,hb⟩
       replace BKp:=ζa (blk_below (by repeat (exact BKp.out)) hb)
       clear hzp_0 hfp_0 hzp_1 hfp_1 hzp_2 hfp_2
       have ho':=Kd.R_lower ho (Below.size (show Below w.heap.size w _ from by repeat (exact HB10.out)))
       obtain ⟨adr44,cap44,rfl,hl44,hq44⟩:=Kd.R_reads ho'
       have HC44:=ζa hl44
       have HRn44:=ζa hq44
       have HOn44:=ζa ho'
       clear hl44 hq44 ho ho'
       have m_:=ζa (δr (by repeat (exact HB10.out)) hb)
       clear hb
       have HB44:=m_
       clear m_
       have hzp_0:=(δl BKp.out 0).trans rfl
       have hfp_0:=δm BKp.out 0
       have hzp_1:=(δl BKp.out 1).trans rfl
       have hfp_1:=δm BKp.out 1
       have hzp_2:=(δl BKp.out 2).trans rfl
       have hfp_2:=δm BKp.out 2
       have h:=HH.out
       clear HH
       simp only [Option.some.injEq,Prod.mk.injEq] at h
       obtain ⟨rfl,rfl⟩:=h
       go_wp2
       go_ret2
       exact ⟨_,rfl,(by repeat (first|exact HOn44.out|apply ζd|apply ζe|apply ζc)),(by repeat (first|exact HB44.out|apply δk|apply δj|apply δi))⟩
   | false =>
    rw [if_neg (by decide)] at h
    have HH:=ζa h
    clear h
    have h:=HH.out
    clear HH
    obtain ⟨o2,h45_,h⟩:=Option.bind_eq_some_iff.mp h
    have HH:=ζa h
    have H45:=ζa h45_
    clear h h45_
    go_wp2_with fail
    refine (slices_Clone_impl_Pair_impl_Pair.calls A_list c_list list o2 _ (by repeat (exact Kd.C_below HR0_list.out HB10.out)) HC0_list.out H45.out).mono ?_
    rintro e w45 ⟨v45,rfl,ho,hb⟩
    replace BKp:=ζa (blk_below (by repeat (exact BKp.out)) hb)
    clear hzp_0 hfp_0 hzp_1 hfp_1 hzp_2 hfp_2
    have ho':=Kd.R_lower ho (Below.size (show Below w.heap.size w _ from by repeat (exact HB10.out)))
    obtain ⟨adr45,cap45,rfl,hl45,hq45⟩:=Kd.R_reads ho'
    have HC45:=ζa hl45
    have HRn45:=ζa hq45
    have HOn45:=ζa ho'
    clear hl45 hq45 ho ho'
    have m_:=ζa (δr (by repeat (exact HB10.out)) hb)
    clear hb
    have HB45:=m_
    clear m_
    have hzp_0:=(δl BKp.out 0).trans rfl
    have hfp_0:=δm BKp.out 0
    have hzp_1:=(δl BKp.out 1).trans rfl
    have hfp_1:=δm BKp.out 1
    have hzp_2:=(δl BKp.out 2).trans rfl
    have hfp_2:=δm BKp.out 2
    have h:=HH.out
    clear HH
    simp only [Option.some.injEq,Prod.mk.injEq] at h
    obtain ⟨rfl,rfl⟩:=h
    go_wp2
    go_ret2
    exact ⟨_,rfl,(by repeat (first|exact HOn45.out|apply ζd|apply ζe|apply ζc)),(by repeat (first|exact HB45.out|apply δk|apply δj|apply δi))⟩
  | false =>
   rw [if_neg (by decide)] at h
   have HH:=ζa h
   clear h
   have h:=HH.out
   clear HH
   obtain ⟨o2,h46_,h⟩:=Option.bind_eq_some_iff.mp h
   have HH:=ζa h
   have H46:=ζa h46_
   clear h h46_
   go_wp2_with fail
   refine (slices_Clone_impl_Pair_impl_Pair.calls A_list c_list list o2 _ (by repeat (exact Kd.C_below HR0_list.out HB8.out)) HC0_list.out H46.out).mono ?_
   rintro e w46 ⟨v46,rfl,ho,hb⟩
   replace BKp:=ζa (blk_below (by repeat (exact BKp.out)) hb)
   clear hzp_0 hfp_0 hzp_1 hfp_1 hzp_2 hfp_2
   have ho':=Kd.R_lower ho (Below.size (show Below w.heap.size w _ from by repeat (exact HB8.out)))
   obtain ⟨adr46,cap46,rfl,hl46,hq46⟩:=Kd.R_reads ho'
   have HC46:=ζa hl46
   have HRn46:=ζa hq46
   have HOn46:=ζa ho'
   clear hl46 hq46 ho ho'
   have m_:=ζa (δr (by repeat (exact HB8.out)) hb)
   clear hb
   have HB46:=m_
   clear m_
   have hzp_0:=(δl BKp.out 0).trans rfl
   have hfp_0:=δm BKp.out 0
   have hzp_1:=(δl BKp.out 1).trans rfl
   have hfp_1:=δm BKp.out 1
   have hzp_2:=(δl BKp.out 2).trans rfl
   have hfp_2:=δm BKp.out 2
   have h:=HH.out
   clear HH
   simp only [Option.some.injEq,Prod.mk.injEq] at h
   obtain ⟨rfl,rfl⟩:=h
   go_wp2
   go_ret2
   exact ⟨_,rfl,(by repeat (first|exact HOn46.out|apply ζd|apply ζe|apply ζc)),(by repeat (first|exact HB46.out|apply δk|apply δj|apply δi))⟩
 | false =>
  rw [if_neg (by decide)] at h
  have HH:=ζa h
  clear h
  have h:=HH.out
  clear HH
  obtain ⟨o2,h47_,h⟩:=Option.bind_eq_some_iff.mp h
  have HH:=ζa h
  have H47:=ζa h47_
  clear h h47_
  go_wp2_with fail
  refine (slices_Clone_impl_Pair_impl_Pair.calls A_list c_list list o2 _ (by repeat (exact Kd.C_below HR0_list.out HB6.out)) HC0_list.out H47.out).mono ?_
  rintro e w47 ⟨v47,rfl,ho,hb⟩
  replace BKp:=ζa (blk_below (by repeat (exact BKp.out)) hb)
  clear hzp_0 hfp_0 hzp_1 hfp_1 hzp_2 hfp_2
  have ho':=Kd.R_lower ho (Below.size (show Below w.heap.size w _ from by repeat (exact HB6.out)))
  obtain ⟨adr47,cap47,rfl,hl47,hq47⟩:=Kd.R_reads ho'
  have HC47:=ζa hl47
  have HRn47:=ζa hq47
  have HOn47:=ζa ho'
  clear hl47 hq47 ho ho'
  have m_:=ζa (δr (by repeat (exact HB6.out)) hb)
  clear hb
  have HB47:=m_
  clear m_
  have hzp_0:=(δl BKp.out 0).trans rfl
  have hfp_0:=δm BKp.out 0
  have hzp_1:=(δl BKp.out 1).trans rfl
  have hfp_1:=δm BKp.out 1
  have hzp_2:=(δl BKp.out 2).trans rfl
  have hfp_2:=δm BKp.out 2
  have h:=HH.out
  clear HH
  simp only [Option.some.injEq,Prod.mk.injEq] at h
  obtain ⟨rfl,rfl⟩:=h
  go_wp2
  go_ret2
  exact ⟨_,rfl,(by repeat (exact HOn47.out)),(by repeat (exact HB47.out))⟩


open Go.Proofs.YtabmfhnhmoiljaaGreatDoorW.PrintWords renaming gate_dst → δx, below_size → δs, below_step → δr, gate_callee → δv
open List renaming map_toArray → δd, map_cons → δe, map_nil → δf
open Go.Proofs.YtabmfhnhmoiljaaGreatDoorW.PrintWords.Kd renaming R_reads' → ζg, R_below → ζh

/-! ### impl_SwapPool: function 38 -/
def impl_SwapPool.f (k:Nat) (a0:ByteArray) (l1:List (S51)) (a2:ByteArray) (a3:ByteArray) (a4:Int) (a5:Int):Option ((List (S51)) × Int):=(impl_nameCode.f k a0 l1 (([a2,a3]:List ByteArray))).bind fun t991=>(if t991=0 then ((impl_swapPool.f k a0 l1 a2 a3 a4 a5).bind fun bt992=>(some (bt992.1,bt992.2))) else (some (([]:List (S51)),t991)))
set_option maxHeartbeats 8000000 in
set_option maxRecDepth 100000 in
theorem impl_SwapPool.calls (k:Nat) (a0:ByteArray) (A1:Option Addr) (c1:Nat) (l1:List (S51)) (a2:ByteArray) (a3:ByteArray) (a4:Int) (a5:Int) (r1:List (S51)) (r2:Int) (w:World) (hr1:Kd.C k51 w A1 l1.length l1) (hc1:l1.length≤c1) (hT0:TabsOK w) (h:impl_SwapPool.f k a0 l1 a2 a3 a4 a5=some (r1,r2)) :
  Calls Tryz.prog 38 #[.string a0,.slice A1 l1.length c1,.string a2,.string a3,.int .i64 a4,.int .i64 a5] w fun e w' => ∃ v0_:Value,e = .returned (.tuple #[v0_,.int .i64 r2])∧Kd.R k51 51 w' w.heap.size (fun _=>True) v0_ r1∧Below w.heap.size w w':=by
 have HT0:=ζa hT0
 clear hT0
 have HR1:=ζa hr1
 have HC1:=ζa hc1
 clear hr1 hc1
 have HB:=ζa (Below.refl w.heap.size w)
 have H:((impl_nameCode.f k a0 l1 (([a2,a3]:List ByteArray))).bind fun t991=>(if t991=0 then ((impl_swapPool.f k a0 l1 a2 a3 a4 a5).bind fun bt992=>(some (bt992.1,bt992.2))) else (some (([]:List (S51)),t991))))=some (r1,r2):=h
 clear h
 obtain ⟨y988,hy988⟩ : ∃ y_:List ByteArray,y_=(([a2,a3]:List ByteArray)):=⟨_,rfl⟩
 replace H:((impl_nameCode.f k a0 l1 y988).bind fun t991=>(if t991=0 then ((impl_swapPool.f k a0 l1 a2 a3 a4 a5).bind fun bt992=>(some (bt992.1,bt992.2))) else (some (([]:List (S51)),t991))))=some (r1,r2):=by (rw [hy988];with_reducible exact H)
 have Ny988:=ζa hy988
 clear hy988
 replace H:=Option.bind_eq_some_iff.mp H
 obtain ⟨t991,A70,H⟩:=H
 replace H:(if t991=0 then ((impl_swapPool.f k a0 l1 a2 a3 a4 a5).bind fun bt992=>(some (bt992.1,bt992.2))) else (some (([]:List (S51)),t991)))=some (r1,r2):=H
 have A7:=ζa A70
 clear A70
 by_cases c8:t991=0
 ·
  rw [if_pos c8] at H
  have c8b0:(t991 == 0)=τ:=beq_iff_eq.mpr c8
  have c8b1:(t991 != 0)=φ:=bne_eq_false_iff_eq.mpr c8
  clear c8
  replace H:=Option.bind_eq_some_iff.mp H
  obtain ⟨⟨t992,t993⟩,A90,H⟩:=H
  replace H:(some (t992,t993))=some (r1,r2):=H
  have A9:=ζa A90
  clear A90
  simp only [Option.some.injEq,Prod.mk.injEq] at H
  obtain ⟨rfl,rfl⟩:=H
  go_enter Tryz.func38,Tryz.ntmps38
  go_wp2_with (first|((with_reducible refine δx (N:=19) rfl ?_);refine Kd.R_lit Kd.string _ 9 ?hg (N:=19) ?hd (xs:=([a2,a3]:List ByteArray)) (inner:=[.string a2,.string a3]) (ok:=fun _=>True) (okp:=fun _=>True) ?hr ?hp (fun _ hk=>hk) trivial (Below.refl _ _) (Nat.le_refl _) (by simp) ?_;(case hd=>rfl);(case hg=>rfl);(case hr=>(go_simp;done));(case hp=>exact (Reps.one (show Kd.M Kd.string _ _ _ a2 [.string a2] from rfl) (Reps.one (show Kd.M Kd.string _ _ _ a3 [.string a3] from rfl) (Reps.none _ _))));intro v989 w10 ho11 hb hg_ hnew_;clear hg_ hnew_;(rw [← Ny988.out] at ho11);have HO990:=ζa (Kd.R_lower ho11 (δs (by exact HB.out)));replace HB:=ζa (δr (by exact HB.out) hb);clear hb ho11;obtain ⟨Ao12,co12,eo12⟩:=Kd.R_slice HO990.out;subst eo12)|((with_reducible refine δv (f:=45) rfl ?_);refine goesL_ (some 20) rfl rfl Tryz.func45 (by kernel_rfl) rfl #[.string a0,.slice A1 l1.length c1,.slice Ao12 y988.length co12] rfl (by (try simp only [δd,δe,δf]);rfl) ?_;(with_reducible refine (impl_nameCode.calls k a0 _ _ l1 _ _ y988 t991 _ ?side1 ?side2 ?side3 ?side4 A7.out).mono ?_);(case side1=>repeat (exact (Kd.C_below HR1.out HB.out)));(case side2=>exact HC1.out);(case side3=>repeat (exact (ζg HO990.out).2.2));(case side4=>exact (ζg HO990.out).2.1);rintro e w13 ⟨rfl,hb⟩;refine ⟨_,rfl,?_⟩;replace HO990:=ζa (ζh (by exact HO990.out) hb);replace HB:=ζa (δr (by exact HB.out) hb);(try clear hb);(try clear hb2);(try clear hk);(try clear hi))|((with_reducible refine δv (f:=71) rfl ?_);refine goesL_ (some 30) rfl rfl Tryz.func71 (by kernel_rfl) rfl #[.string a0,.slice A1 l1.length c1,.string a2,.string a3,.int .i64 a4,.int .i64 a5] rfl (by (try simp only [δd,δe,δf]);rfl) ?_;(with_reducible refine (impl_swapPool.calls k a0 _ _ l1 a2 a3 a4 a5 t992 t993 _ ?side1 ?side2 (HT0.out.below (by exact HB.out)) A9.out).mono ?_);(case side1=>repeat (exact (Kd.C_below HR1.out HB.out)));(case side2=>exact HC1.out);rintro e w14 ⟨v994,rfl,ho0,hb⟩;refine ⟨_,rfl,?_⟩;replace HO990:=ζa (ζh (by exact HO990.out) hb);have HO995:=ζa (Kd.R_lower ho0 (δs (by exact HB.out)));replace HB:=ζa (δr (by exact HB.out) hb);(try clear hb);(try clear hb2);(try clear hk);(try clear hi);(try clear ho0)))
  go_ret2
  exact ⟨_,by rfl,by exact HO995.out,by repeat ((with_reducible exact HB.out))⟩
 ·
  rw [if_neg c8] at H
  have c8b0:(t991 == 0)=φ:=beq_eq_false_iff_ne.mpr c8
  have c8b1:(t991 != 0)=τ:=bne_iff_ne.mpr c8
  simp only [Option.some.injEq,Prod.mk.injEq] at H
  obtain ⟨rfl,rfl⟩:=H
  go_enter Tryz.func38,Tryz.ntmps38
  go_wp2_with (first|((with_reducible refine δx (N:=19) rfl ?_);refine Kd.R_lit Kd.string _ 9 ?hg (N:=19) ?hd (xs:=([a2,a3]:List ByteArray)) (inner:=[.string a2,.string a3]) (ok:=fun _=>True) (okp:=fun _=>True) ?hr ?hp (fun _ hk=>hk) trivial (Below.refl _ _) (Nat.le_refl _) (by simp) ?_;(case hd=>rfl);(case hg=>rfl);(case hr=>(go_simp;done));(case hp=>exact (Reps.one (show Kd.M Kd.string _ _ _ a2 [.string a2] from rfl) (Reps.one (show Kd.M Kd.string _ _ _ a3 [.string a3] from rfl) (Reps.none _ _))));intro v989 w15 ho16 hb hg_ hnew_;clear hg_ hnew_;(rw [← Ny988.out] at ho16);have HO990:=ζa (Kd.R_lower ho16 (δs (by exact HB.out)));replace HB:=ζa (δr (by exact HB.out) hb);clear hb ho16;obtain ⟨Ao17,co17,eo17⟩:=Kd.R_slice HO990.out;subst eo17)|((with_reducible refine δv (f:=45) rfl ?_);refine goesL_ (some 20) rfl rfl Tryz.func45 (by kernel_rfl) rfl #[.string a0,.slice A1 l1.length c1,.slice Ao17 y988.length co17] rfl (by (try simp only [δd,δe,δf]);rfl) ?_;(with_reducible refine (impl_nameCode.calls k a0 _ _ l1 _ _ y988 t991 _ ?side1 ?side2 ?side3 ?side4 A7.out).mono ?_);(case side1=>repeat (exact (Kd.C_below HR1.out HB.out)));(case side2=>exact HC1.out);(case side3=>repeat (exact (ζg HO990.out).2.2));(case side4=>exact (ζg HO990.out).2.1);rintro e w18 ⟨rfl,hb⟩;refine ⟨_,rfl,?_⟩;replace HO990:=ζa (ζh (by exact HO990.out) hb);replace HB:=ζa (δr (by exact HB.out) hb);(try clear hb);(try clear hb2);(try clear hk);(try clear hi)))
  go_ret2
  exact ⟨_,by rfl,by exact Kd.R_nil _ _ _ _ _,by repeat ((with_reducible exact HB.out))⟩


open Go.Proofs.YtabmfhnhmoiljaaGreatDoorW.PrintWords renaming gate_callee → δv, below_step → δr, below_size → δs
open List renaming map_toArray → δd, map_cons → δe, map_nil → δf, setIfInBounds_toArray → δa, set_cons_zero → δb, set_cons_succ → δc
open Go.Act renaming put → ζl

/-! ### laws_FnExactSwapPool: function 12 -/
mutual
def laws_FnExactSwapPool.j0:Nat→ByteArray→List (S49)→ByteArray→ByteArray→Int→Int→List (S51)→Int→List (S51)→List (S51)→Int→Bool→Option (Bool)
 | 0,_,_,_,_,_,_,_,_,_,_,_,_=>none
 | k+1,x0,x1,x2,x3,x4,x5,x14,x15,x16,x17,x18,x69=>if x69=τ then (some φ) else ((laws_toPairS.f k x1).bind fun t1012=>((laws_eqPairS.f k x16 t1012).bind fun t1015=>(if t1015=τ then ((laws_markPairS.f k x16 1).bind fun bt1016=>(if bt1016.1<0 then (laws_FnExactSwapPool.j1 k x0 x1 x2 x3 x4 x5 x14 x15 x17 τ) else ((laws_eqPairS.f k x17 x14).bind fun t1018=>(if t1018=τ then (laws_FnExactSwapPool.j1 k x0 x1 x2 x3 x4 x5 x14 x15 x17 (x18 != x15)) else (laws_FnExactSwapPool.j1 k x0 x1 x2 x3 x4 x5 x14 x15 x17 τ))))) else (some φ))))
def laws_FnExactSwapPool.j1:Nat→ByteArray→List (S49)→ByteArray→ByteArray→Int→Int→List (S51)→Int→List (S51)→Bool→Option (Bool)
 | 0,_,_,_,_,_,_,_,_,_,_=>none
 | k+1,x0,x1,x2,x3,x4,x5,x14,x15,x17,x90=>if x90=τ then (some φ) else ((laws_markPairS.f k x17 1).bind fun bt1019=>((laws_heldPairS.f k bt1019.2 1).bind fun t1021=>(if t1021<0 then (some φ) else (if t1021=bt1019.1 then ((laws_toPairS.f k x1).bind fun t1022=>((impl_SwapPool.f k x0 t1022 x2 x3 x4 x5).bind fun bt1025=>((laws_eqPairS.f k bt1025.1 x14).bind fun t1029=>(if t1029=τ then (laws_FnExactSwapPool.j2 k bt1019.2 bt1019.1 (bt1025.2 != x15)) else (laws_FnExactSwapPool.j2 k bt1019.2 bt1019.1 τ))))) else (some φ)))))
def laws_FnExactSwapPool.j2:Nat→List (S51)→Int→Bool→Option (Bool)
 | 0,_,_,_=>none
 | k+1,x17,x20,x121=>if x121=τ then (some φ) else ((laws_heldPairS.f k x17 1).bind fun t1030=>(if t1030<0 then (some φ) else (if t1030=x20 then (some τ) else (some φ))))
end
def laws_FnExactSwapPool.f (k:Nat) (a0:ByteArray) (l1:List (S49)) (a2:ByteArray) (a3:ByteArray) (a4:Int) (a5:Int):Option (Bool):=if (a0.size:Int) > 1048576 then (some τ) else (if (a2.size:Int) > 1048576 then (some τ) else (if (a3.size:Int) > 1048576 then (some τ) else ((laws_szPairS.f k l1 1048576).bind fun t996=>(if t996<0 then (some τ) else ((laws_toPairS.f k l1).bind fun t997=>((spec_SwapPool.f k a0 t997 a2 a3 a4 a5).bind fun bt1000=>((laws_toPairS.f k l1).bind fun t1004=>((impl_SwapPool.f k a0 t1004 a2 a3 a4 a5).bind fun bt1007=>((laws_eqPairS.f k bt1007.1 bt1000.1).bind fun t1011=>(if t1011=τ then (laws_FnExactSwapPool.j0 k a0 l1 a2 a3 a4 a5 bt1000.1 bt1000.2 t1004 bt1007.1 bt1007.2 (bt1007.2 != bt1000.2)) else (laws_FnExactSwapPool.j0 k a0 l1 a2 a3 a4 a5 bt1000.1 bt1000.2 t1004 bt1007.1 bt1007.2 τ)))))))))))
set_option maxHeartbeats 8000000 in
set_option maxRecDepth 100000 in
theorem laws_FnExactSwapPool.calls (k:Nat) (a0:ByteArray) (A1:Option Addr) (c1:Nat) (l1:List (S49)) (a2:ByteArray) (a3:ByteArray) (a4:Int) (a5:Int) (r:Bool) (w:World) (hr1:Kd.C k49 w A1 l1.length l1) (hc1:l1.length≤c1) (hT0:TabsOK w) (h:laws_FnExactSwapPool.f k a0 l1 a2 a3 a4 a5=some r) :
  Calls Tryz.prog 12 #[.string a0,.slice A1 l1.length c1,.string a2,.string a3,.int .i64 a4,.int .i64 a5] w fun e w'=>e = .returned (.bool r)∧Below w.heap.size w w':=by
 have HT0:=ζa hT0
 clear hT0
 have HR1:=ζa hr1
 have HC1:=ζa hc1
 clear hr1 hc1
 have HB:=ζa (Below.refl w.heap.size w)
 have H:(if (a0.size:Int) > 1048576 then (some τ) else (if (a2.size:Int) > 1048576 then (some τ) else (if (a3.size:Int) > 1048576 then (some τ) else ((laws_szPairS.f k l1 1048576).bind fun t996=>(if t996<0 then (some τ) else ((laws_toPairS.f k l1).bind fun t997=>((spec_SwapPool.f k a0 t997 a2 a3 a4 a5).bind fun bt1000=>((laws_toPairS.f k l1).bind fun t1004=>((impl_SwapPool.f k a0 t1004 a2 a3 a4 a5).bind fun bt1007=>((laws_eqPairS.f k bt1007.1 bt1000.1).bind fun t1011=>(if t1011=τ then (laws_FnExactSwapPool.j0 k a0 l1 a2 a3 a4 a5 bt1000.1 bt1000.2 t1004 bt1007.1 bt1007.2 (bt1007.2 != bt1000.2)) else (laws_FnExactSwapPool.j0 k a0 l1 a2 a3 a4 a5 bt1000.1 bt1000.2 t1004 bt1007.1 bt1007.2 τ))))))))))))=some r:=h
 clear h
 by_cases c7:(a0.size:Int) > 1048576
 ·
  rw [if_pos c7] at H
  have c7b0:decide (1048576<(a0.size:Int))=τ:=decide_eq_true c7
  have c7b1:decide (1048576<a0.size)=τ:=decide_eq_true (by omega)
  clear c7
  obtain rfl:=Option.some.inj H
  go_enter Tryz.func12,Tryz.ntmps12
  go_wp2
  go_ret
  exact ⟨by rfl,by repeat ((with_reducible exact HB.out))⟩
 ·
  rw [if_neg c7] at H
  have c7b0:decide (1048576<(a0.size:Int))=φ:=decide_eq_false c7
  have c7b1:decide (1048576<a0.size)=φ:=decide_eq_false (by omega)
  clear c7
  by_cases c8:(a2.size:Int) > 1048576
  ·
   rw [if_pos c8] at H
   have c8b0:decide (1048576<(a2.size:Int))=τ:=decide_eq_true c8
   have c8b1:decide (1048576<a2.size)=τ:=decide_eq_true (by omega)
   clear c8
   obtain rfl:=Option.some.inj H
   go_enter Tryz.func12,Tryz.ntmps12
   go_wp2
   go_ret
   exact ⟨by rfl,by repeat ((with_reducible exact HB.out))⟩
  ·
   rw [if_neg c8] at H
   have c8b0:decide (1048576<(a2.size:Int))=φ:=decide_eq_false c8
   have c8b1:decide (1048576<a2.size)=φ:=decide_eq_false (by omega)
   clear c8
   by_cases c9:(a3.size:Int) > 1048576
   ·
    rw [if_pos c9] at H
    have c9b0:decide (1048576<(a3.size:Int))=τ:=decide_eq_true c9
    have c9b1:decide (1048576<a3.size)=τ:=decide_eq_true (by omega)
    clear c9
    obtain rfl:=Option.some.inj H
    go_enter Tryz.func12,Tryz.ntmps12
    go_wp2
    go_ret
    exact ⟨by rfl,by repeat ((with_reducible exact HB.out))⟩
   ·
    rw [if_neg c9] at H
    have c9b0:decide (1048576<(a3.size:Int))=φ:=decide_eq_false c9
    have c9b1:decide (1048576<a3.size)=φ:=decide_eq_false (by omega)
    clear c9
    replace H:=Option.bind_eq_some_iff.mp H
    obtain ⟨t996,A100,H⟩:=H
    replace H:(if t996<0 then (some τ) else ((laws_toPairS.f k l1).bind fun t997=>((spec_SwapPool.f k a0 t997 a2 a3 a4 a5).bind fun bt1000=>((laws_toPairS.f k l1).bind fun t1004=>((impl_SwapPool.f k a0 t1004 a2 a3 a4 a5).bind fun bt1007=>((laws_eqPairS.f k bt1007.1 bt1000.1).bind fun t1011=>(if t1011=τ then (laws_FnExactSwapPool.j0 k a0 l1 a2 a3 a4 a5 bt1000.1 bt1000.2 t1004 bt1007.1 bt1007.2 (bt1007.2 != bt1000.2)) else (laws_FnExactSwapPool.j0 k a0 l1 a2 a3 a4 a5 bt1000.1 bt1000.2 t1004 bt1007.1 bt1007.2 τ))))))))=some r:=H
    have A10:=ζa A100
    clear A100
    by_cases c11:t996<0
    ·
     rw [if_pos c11] at H
     have c11b0:decide (t996<0)=τ:=decide_eq_true c11
     clear c11
     obtain rfl:=Option.some.inj H
     go_enter Tryz.func12,Tryz.ntmps12
     go_wp2_with (((with_reducible refine δv (f:=14) rfl ?_);refine goesL_ (some 35) rfl rfl Tryz.func14 (by kernel_rfl) rfl #[.slice A1 l1.length c1,.int .i64 1048576] rfl (by (try simp only [δd,δe,δf]);rfl) ?_;(with_reducible refine (laws_szPairS.calls k _ _ l1 1048576 t996 _ ?side1 ?side2 A10.out).mono ?_);(case side1=>repeat (exact HR1.out));(case side2=>exact HC1.out);rintro e w12 ⟨rfl,hb⟩;refine ⟨_,rfl,?_⟩;replace HB:=ζa (δr (by exact HB.out) hb);(try clear hb);(try clear hb2);(try clear hk);(try clear hi)))
     go_ret
     exact ⟨by rfl,by repeat ((with_reducible exact HB.out))⟩
    ·
     rw [if_neg c11] at H
     have c11b0:decide (t996<0)=φ:=decide_eq_false c11
     clear c11
     replace H:=Option.bind_eq_some_iff.mp H
     obtain ⟨t997,A130,H⟩:=H
     replace H:((spec_SwapPool.f k a0 t997 a2 a3 a4 a5).bind fun bt1000=>((laws_toPairS.f k l1).bind fun t1004=>((impl_SwapPool.f k a0 t1004 a2 a3 a4 a5).bind fun bt1007=>((laws_eqPairS.f k bt1007.1 bt1000.1).bind fun t1011=>(if t1011=τ then (laws_FnExactSwapPool.j0 k a0 l1 a2 a3 a4 a5 bt1000.1 bt1000.2 t1004 bt1007.1 bt1007.2 (bt1007.2 != bt1000.2)) else (laws_FnExactSwapPool.j0 k a0 l1 a2 a3 a4 a5 bt1000.1 bt1000.2 t1004 bt1007.1 bt1007.2 τ))))))=some r:=H
     have A13:=ζa A130
     clear A130
     replace H:=Option.bind_eq_some_iff.mp H
     obtain ⟨⟨t1000,t1001⟩,A140,H⟩:=H
     replace H:((laws_toPairS.f k l1).bind fun t1004=>((impl_SwapPool.f k a0 t1004 a2 a3 a4 a5).bind fun bt1007=>((laws_eqPairS.f k bt1007.1 t1000).bind fun t1011=>(if t1011=τ then (laws_FnExactSwapPool.j0 k a0 l1 a2 a3 a4 a5 t1000 t1001 t1004 bt1007.1 bt1007.2 (bt1007.2 != t1001)) else (laws_FnExactSwapPool.j0 k a0 l1 a2 a3 a4 a5 t1000 t1001 t1004 bt1007.1 bt1007.2 τ)))))=some r:=H
     have A14:=ζa A140
     clear A140
     replace H:=Option.bind_eq_some_iff.mp H
     obtain ⟨t1004,A150,H⟩:=H
     replace H:((impl_SwapPool.f k a0 t1004 a2 a3 a4 a5).bind fun bt1007=>((laws_eqPairS.f k bt1007.1 t1000).bind fun t1011=>(if t1011=τ then (laws_FnExactSwapPool.j0 k a0 l1 a2 a3 a4 a5 t1000 t1001 t1004 bt1007.1 bt1007.2 (bt1007.2 != t1001)) else (laws_FnExactSwapPool.j0 k a0 l1 a2 a3 a4 a5 t1000 t1001 t1004 bt1007.1 bt1007.2 τ))))=some r:=H
     have A15:=ζa A150
     clear A150
     replace H:=Option.bind_eq_some_iff.mp H
     obtain ⟨⟨t1007,t1008⟩,A160,H⟩:=H
     replace H:((laws_eqPairS.f k t1007 t1000).bind fun t1011=>(if t1011=τ then (laws_FnExactSwapPool.j0 k a0 l1 a2 a3 a4 a5 t1000 t1001 t1004 t1007 t1008 (t1008 != t1001)) else (laws_FnExactSwapPool.j0 k a0 l1 a2 a3 a4 a5 t1000 t1001 t1004 t1007 t1008 τ)))=some r:=H
     have A16:=ζa A160
     clear A160
     have HC17:=ζa H
     clear H
     go_enter Tryz.func12,Tryz.ntmps12
     go_upto_region 14 with (first|((with_reducible refine δv (f:=14) rfl ?_);refine goesL_ (some 35) rfl rfl Tryz.func14 (by kernel_rfl) rfl #[.slice A1 l1.length c1,.int .i64 1048576] rfl (by (try simp only [δd,δe,δf]);rfl) ?_;(with_reducible refine (laws_szPairS.calls k _ _ l1 1048576 t996 _ ?side1 ?side2 A10.out).mono ?_);(case side1=>repeat (exact HR1.out));(case side2=>exact HC1.out);rintro e w18 ⟨rfl,hb⟩;refine ⟨_,rfl,?_⟩;replace HB:=ζa (δr (by exact HB.out) hb);(try clear hb);(try clear hb2);(try clear hk);(try clear hi))|((with_reducible refine δv (f:=16) rfl ?_);refine goesL_ (some 41) rfl rfl Tryz.func16 (by kernel_rfl) rfl #[.slice A1 l1.length c1] rfl (by (try simp only [δd,δe,δf]);rfl) ?_;(with_reducible refine (laws_toPairS.calls k _ _ l1 t997 _ ?side1 ?side2 A13.out).mono ?_);(case side1=>repeat (exact (Kd.C_below HR1.out HB.out)));(case side2=>exact HC1.out);rintro e w19 ⟨v998,rfl,ho0,hb⟩;refine ⟨_,rfl,?_⟩;have HO999:=ζa (Kd.R_lower ho0 (δs (by exact HB.out)));replace HB:=ζa (δr (by exact HB.out) hb);(try clear hb);(try clear hb2);(try clear hk);(try clear hi);(try clear ho0);obtain ⟨Ao20,co20,eo20⟩:=Kd.R_slice HO999.out;subst eo20)|((with_reducible refine δv (f:=37) rfl ?_);refine goesL_ (some 46) rfl rfl Tryz.func37 (by kernel_rfl) rfl #[.string a0,.slice Ao20 t997.length co20,.string a2,.string a3,.int .i64 a4,.int .i64 a5] rfl (by (try simp only [δd,δe,δf]);rfl) ?_;(with_reducible refine (spec_SwapPool.calls k a0 _ _ t997 a2 a3 a4 a5 t1000 t1001 _ ?side1 ?side2 A14.out).mono ?_);(case side1=>repeat (exact (ζg HO999.out).2.2));(case side2=>exact (ζg HO999.out).2.1);rintro e w21 ⟨v1002,rfl,ho0,hb⟩;refine ⟨_,rfl,?_⟩;have HO1003:=ζa (Kd.R_lower (Kd.R_new' ho0 (Kd.R_lt (by exact HO999.out))) (δs (by exact HB.out)));replace HO999:=ζa (Kd.R_elder' (by exact HO999.out) (Kd.R_base ho0) hb);replace HB:=ζa (δr (by exact HB.out) hb);(try clear hb);(try clear hb2);(try clear hk);(try clear hi);(try clear ho0))|((with_reducible refine δv (f:=16) rfl ?_);refine goesL_ (some 50) rfl rfl Tryz.func16 (by kernel_rfl) rfl #[.slice A1 l1.length c1] rfl (by (try simp only [δd,δe,δf]);rfl) ?_;(with_reducible refine (laws_toPairS.calls k _ _ l1 t1004 _ ?side1 ?side2 A15.out).mono ?_);(case side1=>repeat (exact (Kd.C_below HR1.out HB.out)));(case side2=>exact HC1.out);rintro e w22 ⟨v1005,rfl,ho0,hb⟩;refine ⟨_,rfl,?_⟩;have HO1006:=ζa (Kd.R_lower (Kd.R_new' (Kd.R_new' ho0 (Kd.R_lt (by exact HO999.out))) (Kd.R_lt (by exact HO1003.out))) (δs (by exact HB.out)));replace HO999:=ζa (Kd.R_elder' (by exact HO999.out) (Kd.R_base ho0) hb);replace HO1003:=ζa (Kd.R_elder' (by exact HO1003.out) (Kd.R_base ho0) hb);replace HB:=ζa (δr (by exact HB.out) hb);(try clear hb);(try clear hb2);(try clear hk);(try clear hi);(try clear ho0);obtain ⟨Ao23,co23,eo23⟩:=Kd.R_slice HO1006.out;subst eo23)|((with_reducible refine δv (f:=38) rfl ?_);refine goesL_ (some 58) rfl rfl Tryz.func38 (by kernel_rfl) rfl #[.string a0,.slice Ao23 t1004.length co23,.string a2,.string a3,.int .i64 a4,.int .i64 a5] rfl (by (try simp only [δd,δe,δf]);rfl) ?_;(with_reducible refine (impl_SwapPool.calls k a0 _ _ t1004 a2 a3 a4 a5 t1007 t1008 _ ?side1 ?side2 (HT0.out.below (by exact HB.out)) A16.out).mono ?_);(case side1=>repeat (exact (ζg HO1006.out).2.2));(case side2=>exact (ζg HO1006.out).2.1);rintro e w24 ⟨v1009,rfl,ho0,hb⟩;refine ⟨_,rfl,?_⟩;have HO1010:=ζa (Kd.R_lower (Kd.R_new' (Kd.R_new' (Kd.R_new' ho0 (Kd.R_lt (by exact HO999.out))) (Kd.R_lt (by exact HO1003.out))) (Kd.R_lt (by exact HO1006.out))) (δs (by exact HB.out)));replace HO999:=ζa (Kd.R_elder' (by exact HO999.out) (Kd.R_base ho0) hb);replace HO1003:=ζa (Kd.R_elder' (by exact HO1003.out) (Kd.R_base ho0) hb);replace HO1006:=ζa (Kd.R_elder' (by exact HO1006.out) (Kd.R_base ho0) hb);replace HB:=ζa (δr (by exact HB.out) hb);(try clear hb);(try clear hb2);(try clear hk);(try clear hi);(try clear ho0)))
     (try simp only [ζl,δa,δb,δc])
     go_cut [69] (fun v69 wc => ∃ (kq:Nat) (x69_16:Bool),v69 = .bool x69_16∧Aside0 (laws_FnExactSwapPool.j0 kq a0 l1 a2 a3 a4 a5 t1000 t1001 t1004 t1007 t1008 x69_16=some r)∧Aside0 (kq≤k)∧Aside0 (Kd.R k51 51 wc w.heap.size (fun k_=>some k_≠((.slice Ao23 t1004.length co23):Value).ownBlock∧some k_≠(v1009:Value).ownBlock) v1002 t1000)∧Aside0 (Kd.R k51 51 wc w.heap.size (fun k_=>some k_≠(v1002:Value).ownBlock∧some k_≠(v1009:Value).ownBlock) (.slice Ao23 t1004.length co23) t1004)∧Aside0 (Kd.R k51 51 wc w.heap.size (fun k_=>some k_≠(v1002:Value).ownBlock∧some k_≠((.slice Ao23 t1004.length co23):Value).ownBlock) v1009 t1007)∧Aside0 (Below w.heap.size w wc))
     case first =>
      have H:=HC17.out
      clear HC17
      replace H:=Option.bind_eq_some_iff.mp H
      obtain ⟨t1011,A250,H⟩:=H
      replace H:(if t1011=τ then (laws_FnExactSwapPool.j0 k a0 l1 a2 a3 a4 a5 t1000 t1001 t1004 t1007 t1008 (t1008 != t1001)) else (laws_FnExactSwapPool.j0 k a0 l1 a2 a3 a4 a5 t1000 t1001 t1004 t1007 t1008 τ))=some r:=H
      have A25:=ζa A250
      clear A250
      by_cases c26:t1011=τ
      ·
       subst c26
       have H1:(laws_FnExactSwapPool.j0 k a0 l1 a2 a3 a4 a5 t1000 t1001 t1004 t1007 t1008 (t1008 != t1001))=some r:=by rw [if_pos rfl] at H;exact H
       clear H
       have H:=H1
       clear H1
       have H':=ζa H
       clear H
       obtain ⟨Ao27,co27,eo27⟩:=Kd.R_slice HO1010.out
       subst eo27
       obtain ⟨Ao28,co28,eo28⟩:=Kd.R_slice HO1003.out
       subst eo28
       go_wp2_with (((with_reducible refine δv (f:=18) rfl ?_);refine goesL_ (some 63) rfl rfl Tryz.func18 (by kernel_rfl) rfl #[.slice Ao27 t1007.length co27,.slice Ao28 t1000.length co28] rfl (by (try simp only [δd,δe,δf]);rfl) ?_;(with_reducible refine (laws_eqPairS.calls k _ _ t1007 _ _ t1000 τ _ ?side1 ?side2 ?side3 ?side4 A25.out).mono ?_);(case side1=>repeat (exact (ζg HO1010.out).2.2));(case side2=>exact (ζg HO1010.out).2.1);(case side3=>repeat (exact (ζg HO1003.out).2.2));(case side4=>exact (ζg HO1003.out).2.1);rintro e w29 ⟨rfl,hb⟩;refine ⟨_,rfl,?_⟩;replace HO999:=ζa (ζh (by exact HO999.out) hb);replace HO1003:=ζa (ζh (by exact HO1003.out) hb);replace HO1006:=ζa (ζh (by exact HO1006.out) hb);replace HO1010:=ζa (ζh (by exact HO1010.out) hb);replace HB:=ζa (δr (by exact HB.out) hb);(try clear hb);(try clear hb2);(try clear hk);(try clear hi)))
       go_meet
       case rel=>exact ⟨_,((t1008 != t1001)),(by rfl),H',⟨by omega⟩,⟨by exact Kd.R_mono HO1003.out (fun _ hk=>⟨hk.1.2,hk.2⟩)⟩,⟨by exact Kd.R_mono HO1006.out (fun _ hk=>⟨hk.1.2,hk.2⟩)⟩,⟨by exact Kd.R_mono HO1010.out (fun _ hk=>⟨hk.1.2,hk.2⟩)⟩,⟨by repeat ((with_reducible exact HB.out))⟩⟩
      ·
       replace c26:=Bool.eq_false_iff.mpr c26
       subst c26
       have H1:(laws_FnExactSwapPool.j0 k a0 l1 a2 a3 a4 a5 t1000 t1001 t1004 t1007 t1008 τ)=some r:=by rw [if_neg (show ¬ (φ=τ) by decide)] at H;exact H
       clear H
       have H:=H1
       clear H1
       have H':=ζa H
       clear H
       obtain ⟨Ao30,co30,eo30⟩:=Kd.R_slice HO1010.out
       subst eo30
       obtain ⟨Ao31,co31,eo31⟩:=Kd.R_slice HO1003.out
       subst eo31
       go_wp2_with (((with_reducible refine δv (f:=18) rfl ?_);refine goesL_ (some 63) rfl rfl Tryz.func18 (by kernel_rfl) rfl #[.slice Ao30 t1007.length co30,.slice Ao31 t1000.length co31] rfl (by (try simp only [δd,δe,δf]);rfl) ?_;(with_reducible refine (laws_eqPairS.calls k _ _ t1007 _ _ t1000 φ _ ?side1 ?side2 ?side3 ?side4 A25.out).mono ?_);(case side1=>repeat (exact (ζg HO1010.out).2.2));(case side2=>exact (ζg HO1010.out).2.1);(case side3=>repeat (exact (ζg HO1003.out).2.2));(case side4=>exact (ζg HO1003.out).2.1);rintro e w32 ⟨rfl,hb⟩;refine ⟨_,rfl,?_⟩;replace HO999:=ζa (ζh (by exact HO999.out) hb);replace HO1003:=ζa (ζh (by exact HO1003.out) hb);replace HO1006:=ζa (ζh (by exact HO1006.out) hb);replace HO1010:=ζa (ζh (by exact HO1010.out) hb);replace HB:=ζa (δr (by exact HB.out) hb);(try clear hb);(try clear hb2);(try clear hk);(try clear hi)))
       go_meet
       case rel=>exact ⟨_,(τ),(by rfl),H',⟨by omega⟩,⟨by exact Kd.R_mono HO1003.out (fun _ hk=>⟨hk.1.2,hk.2⟩)⟩,⟨by exact Kd.R_mono HO1006.out (fun _ hk=>⟨hk.1.2,hk.2⟩)⟩,⟨by exact Kd.R_mono HO1010.out (fun _ hk=>⟨hk.1.2,hk.2⟩)⟩,⟨by repeat ((with_reducible exact HB.out))⟩⟩
     case rest =>
      clear HC17
      try clear c1
      try clear c2
      try clear p2
      try clear c3
      try clear c7
      try clear c7b0
      try clear c7b1
      try clear c8
      try clear c8b0
      try clear c8b1
      try clear c9
      try clear c9b0
      try clear c9b1
      try clear c11
      try clear c11b0
      try clear c12
      try clear c14
      try clear c16
      try clear c18
      try clear c26
      obtain ⟨kq,x69_16,rfl,HA,HJ16,HO_14,HO_16,HO_17,HB⟩:=hcut
      cases kq with
      | zero=>exact absurd HA.out (by simp [laws_FnExactSwapPool.j0])
      | succ kj16 =>
       have H:=HA.out
       clear HA
       simp only [laws_FnExactSwapPool.j0] at H
       by_cases c33:x69_16=τ
       ·
        subst c33
        have H1:(some φ)=some r:=by rw [if_pos rfl] at H;exact H
        clear H
        have H:=H1
        clear H1
        obtain rfl:=Option.some.inj H
        go_wp2
        go_ret
        exact ⟨by rfl,by repeat ((with_reducible exact HB.out))⟩
       ·
        replace c33:=Bool.eq_false_iff.mpr c33
        subst c33
        have H1:((laws_toPairS.f kj16 l1).bind fun t1012=>((laws_eqPairS.f kj16 t1004 t1012).bind fun t1015=>(if t1015=τ then ((laws_markPairS.f kj16 t1004 1).bind fun bt1016=>(if bt1016.1<0 then (laws_FnExactSwapPool.j1 kj16 a0 l1 a2 a3 a4 a5 t1000 t1001 t1007 τ) else ((laws_eqPairS.f kj16 t1007 t1000).bind fun t1018=>(if t1018=τ then (laws_FnExactSwapPool.j1 kj16 a0 l1 a2 a3 a4 a5 t1000 t1001 t1007 (t1008 != t1001)) else (laws_FnExactSwapPool.j1 kj16 a0 l1 a2 a3 a4 a5 t1000 t1001 t1007 τ))))) else (some φ))))=some r:=by rw [if_neg (show ¬ (φ=τ) by decide)] at H;exact H
        clear H
        have H:=H1
        clear H1
        replace H:=Option.bind_eq_some_iff.mp H
        obtain ⟨t1012,A340,H⟩:=H
        replace H:((laws_eqPairS.f kj16 t1004 t1012).bind fun t1015=>(if t1015=τ then ((laws_markPairS.f kj16 t1004 1).bind fun bt1016=>(if bt1016.1<0 then (laws_FnExactSwapPool.j1 kj16 a0 l1 a2 a3 a4 a5 t1000 t1001 t1007 τ) else ((laws_eqPairS.f kj16 t1007 t1000).bind fun t1018=>(if t1018=τ then (laws_FnExactSwapPool.j1 kj16 a0 l1 a2 a3 a4 a5 t1000 t1001 t1007 (t1008 != t1001)) else (laws_FnExactSwapPool.j1 kj16 a0 l1 a2 a3 a4 a5 t1000 t1001 t1007 τ))))) else (some φ)))=some r:=H
        have A34:=ζa A340
        clear A340
        replace H:=Option.bind_eq_some_iff.mp H
        obtain ⟨t1015,A350,H⟩:=H
        replace H:(if t1015=τ then ((laws_markPairS.f kj16 t1004 1).bind fun bt1016=>(if bt1016.1<0 then (laws_FnExactSwapPool.j1 kj16 a0 l1 a2 a3 a4 a5 t1000 t1001 t1007 τ) else ((laws_eqPairS.f kj16 t1007 t1000).bind fun t1018=>(if t1018=τ then (laws_FnExactSwapPool.j1 kj16 a0 l1 a2 a3 a4 a5 t1000 t1001 t1007 (t1008 != t1001)) else (laws_FnExactSwapPool.j1 kj16 a0 l1 a2 a3 a4 a5 t1000 t1001 t1007 τ))))) else (some φ))=some r:=H
        have A35:=ζa A350
        clear A350
        by_cases c36:t1015=τ
        ·
         subst c36
         have H1:((laws_markPairS.f kj16 t1004 1).bind fun bt1016=>(if bt1016.1<0 then (laws_FnExactSwapPool.j1 kj16 a0 l1 a2 a3 a4 a5 t1000 t1001 t1007 τ) else ((laws_eqPairS.f kj16 t1007 t1000).bind fun t1018=>(if t1018=τ then (laws_FnExactSwapPool.j1 kj16 a0 l1 a2 a3 a4 a5 t1000 t1001 t1007 (t1008 != t1001)) else (laws_FnExactSwapPool.j1 kj16 a0 l1 a2 a3 a4 a5 t1000 t1001 t1007 τ)))))=some r:=by rw [if_pos rfl] at H;exact H
         clear H
         have H:=H1
         clear H1
         replace H:=Option.bind_eq_some_iff.mp H
         obtain ⟨⟨t1016,t1017⟩,A370,H⟩:=H
         replace H:(if t1016<0 then (laws_FnExactSwapPool.j1 kj16 a0 l1 a2 a3 a4 a5 t1000 t1001 t1007 τ) else ((laws_eqPairS.f kj16 t1007 t1000).bind fun t1018=>(if t1018=τ then (laws_FnExactSwapPool.j1 kj16 a0 l1 a2 a3 a4 a5 t1000 t1001 t1007 (t1008 != t1001)) else (laws_FnExactSwapPool.j1 kj16 a0 l1 a2 a3 a4 a5 t1000 t1001 t1007 τ))))=some r:=H
         have A37:=ζa A370
         clear A370
         have HC38:=ζa H
         clear H
         go_upto_region 20 with (first|((with_reducible refine δv (f:=16) rfl ?_);refine goesL_ (some 72) rfl rfl Tryz.func16 (by kernel_rfl) rfl #[.slice A1 l1.length c1] rfl (by (try simp only [δd,δe,δf]);rfl) ?_;(with_reducible refine (laws_toPairS.calls kj16 _ _ l1 t1012 _ ?side1 ?side2 A34.out).mono ?_);(case side1=>repeat (exact (Kd.C_below HR1.out HB.out)));(case side2=>exact HC1.out);rintro e w39 ⟨v1013,rfl,ho0,hb⟩;refine ⟨_,rfl,?_⟩;have HO1014:=ζa (Kd.R_lower (Kd.R_new' (Kd.R_new' (Kd.R_new' ho0 (Kd.R_lt (by exact HO_14.out))) (Kd.R_lt (by exact HO_16.out))) (Kd.R_lt (by exact HO_17.out))) (δs (by exact HB.out)));replace HO_14:=ζa (Kd.R_elder' (by exact HO_14.out) (Kd.R_base ho0) hb);replace HO_16:=ζa (Kd.R_elder' (by exact HO_16.out) (Kd.R_base ho0) hb);replace HO_17:=ζa (Kd.R_elder' (by exact HO_17.out) (Kd.R_base ho0) hb);replace HB:=ζa (δr (by exact HB.out) hb);(try clear hb);(try clear hb2);(try clear hk);(try clear hi);(try clear ho0);obtain ⟨Ao40,co40,eo40⟩:=Kd.R_slice HO1014.out;subst eo40)|((with_reducible refine δv (f:=18) rfl ?_);refine goesL_ (some 73) rfl rfl Tryz.func18 (by kernel_rfl) rfl #[.slice Ao23 t1004.length co23,.slice Ao40 t1012.length co40] rfl (by (try simp only [δd,δe,δf]);rfl) ?_;(with_reducible refine (laws_eqPairS.calls kj16 _ _ t1004 _ _ t1012 τ _ ?side1 ?side2 ?side3 ?side4 A35.out).mono ?_);(case side1=>repeat (exact (ζg HO_16.out).2.2));(case side2=>exact (ζg HO_16.out).2.1);(case side3=>repeat (exact (ζg HO1014.out).2.2));(case side4=>exact (ζg HO1014.out).2.1);rintro e w41 ⟨rfl,hb⟩;refine ⟨_,rfl,?_⟩;replace HO_14:=ζa (ζh (by exact HO_14.out) hb);replace HO_16:=ζa (ζh (by exact HO_16.out) hb);replace HO_17:=ζa (ζh (by exact HO_17.out) hb);replace HO1014:=ζa (ζh (by exact HO1014.out) hb);replace HB:=ζa (δr (by exact HB.out) hb);(try clear hb);(try clear hb2);(try clear hk);(try clear hi))|((with_reducible refine δv (f:=19) rfl ?_);refine goesL_ (some 77) rfl rfl Tryz.func19 (by kernel_rfl) rfl #[.slice Ao23 t1004.length co23,.int .i64 1] rfl (by (try simp only [δd,δe,δf]);rfl) ?_;(with_reducible refine (laws_markPairS.calls kj16 (fun k_=>some k_=(.slice Ao23 t1004.length co23:Value).ownBlock) (.slice Ao23 t1004.length co23) t1004 1 t1016 t1017 w _ ?side1 ?side2 A37.out).mono ?_);(case side1=>repeat ((with_reducible exact HB.out)));(case side2=>exact Kd.R_tight rfl HO_16.out);rintro e w42 ⟨rfl,hy0,hb,hkp⟩;refine ⟨_,rfl,?_⟩;replace HO_14:=ζa (Kd.R_mono (ok':=fun k_=>some k_≠(.slice Ao23 t1004.length co23:Value).ownBlock∧some k_≠(v1009:Value).ownBlock∧some k_≠(.slice Ao40 t1012.length co40:Value).ownBlock) (Kd.R_keptB (HO_14.out) hkp (fun k_ hk_ hs_=>(hk_.1.1) hs_)) (fun k_ hk_=>⟨hk_.1.1.1,hk_.1.1.2,hk_.1.2⟩));replace HO_16:=ζa (Kd.R_reok rfl hy0 (fun k_ e_=>HO_16.out.1 k_ e_));replace HO_17:=ζa (Kd.R_mono (ok':=fun k_=>some k_≠(v1002:Value).ownBlock∧some k_≠(.slice Ao23 t1004.length co23:Value).ownBlock∧some k_≠(.slice Ao40 t1012.length co40:Value).ownBlock) (Kd.R_keptB (HO_17.out) hkp (fun k_ hk_ hs_=>(hk_.1.2) hs_)) (fun k_ hk_=>⟨hk_.1.1.1,hk_.1.1.2,hk_.1.2⟩));replace HO1014:=ζa (Kd.R_mono (ok':=fun k_=>some k_≠(v1002:Value).ownBlock∧some k_≠(.slice Ao23 t1004.length co23:Value).ownBlock∧some k_≠(v1009:Value).ownBlock) (Kd.R_keptB (HO1014.out) hkp (fun k_ hk_ hs_=>(hk_.1.2) hs_)) (fun k_ hk_=>⟨hk_.1.1.1.2,hk_.1.1.2,hk_.1.2⟩));replace HB:=ζa (hb);(try clear hb);(try clear hkp);(try clear hy0)))
         (try simp only [ζl,δa,δb,δc])
         go_cut [90] (fun v90 wc => ∃ (kq:Nat) (x90_37:Bool),v90 = .bool x90_37∧Aside0 (laws_FnExactSwapPool.j1 kq a0 l1 a2 a3 a4 a5 t1000 t1001 t1007 x90_37=some r)∧Aside0 (kq≤kj16)∧Aside0 (Kd.R k51 51 wc w.heap.size (fun k_=>some k_≠(v1009:Value).ownBlock) v1002 t1000)∧Aside0 (Kd.R k51 51 wc w.heap.size (fun k_=>some k_≠(v1002:Value).ownBlock) v1009 t1007)∧Aside0 (Below w.heap.size w wc))
         case first =>
          have H:=HC38.out
          clear HC38
          by_cases c43:t1016<0
          ·
           rw [if_pos c43] at H
           have c43b0:decide (t1016<0)=τ:=decide_eq_true c43
           clear c43
           (skip)
           have H':=ζa H
           clear H
           go_wp2
           go_meet
           case rel=>exact ⟨_,(τ),(by rfl),H',⟨by have:=HJ16.out;omega⟩,⟨by exact Kd.R_mono HO_14.out (fun _ hk=>hk.2.1)⟩,⟨by exact Kd.R_mono HO_17.out (fun _ hk=>hk.1)⟩,⟨by repeat ((with_reducible exact HB.out))⟩⟩
          ·
           rw [if_neg c43] at H
           have c43b0:decide (t1016<0)=φ:=decide_eq_false c43
           clear c43
           (skip)
           replace H:=Option.bind_eq_some_iff.mp H
           obtain ⟨t1018,A440,H⟩:=H
           replace H:(if t1018=τ then (laws_FnExactSwapPool.j1 kj16 a0 l1 a2 a3 a4 a5 t1000 t1001 t1007 (t1008 != t1001)) else (laws_FnExactSwapPool.j1 kj16 a0 l1 a2 a3 a4 a5 t1000 t1001 t1007 τ))=some r:=H
           have A44:=ζa A440
           clear A440
           by_cases c45:t1018=τ
           ·
            subst c45
            have H1:(laws_FnExactSwapPool.j1 kj16 a0 l1 a2 a3 a4 a5 t1000 t1001 t1007 (t1008 != t1001))=some r:=by rw [if_pos rfl] at H;exact H
            clear H
            have H:=H1
            clear H1
            have H':=ζa H
            clear H
            obtain ⟨Ao46,co46,eo46⟩:=Kd.R_slice HO_17.out
            subst eo46
            obtain ⟨Ao47,co47,eo47⟩:=Kd.R_slice HO_14.out
            subst eo47
            go_wp2_with ((go_at_call 18;(with_reducible refine (laws_eqPairS.calls kj16 _ _ t1007 _ _ t1000 τ _ ?side1 ?side2 ?side3 ?side4 A44.out).mono ?_);(case side1=>repeat (exact (ζg HO_17.out).2.2));(case side2=>exact (ζg HO_17.out).2.1);(case side3=>repeat (exact (ζg HO_14.out).2.2));(case side4=>exact (ζg HO_14.out).2.1);rintro e w48 ⟨rfl,hb⟩;replace HO_14:=ζa (ζh (by exact HO_14.out) hb);replace HO_16:=ζa (ζh (by exact HO_16.out) hb);replace HO_17:=ζa (ζh (by exact HO_17.out) hb);replace HO1014:=ζa (ζh (by exact HO1014.out) hb);replace HB:=ζa (δr (by exact HB.out) hb);(try clear hb);(try clear hb2);(try clear hk);(try clear hi)))
            go_meet
            case rel=>exact ⟨_,((t1008 != t1001)),(by rfl),H',⟨by have:=HJ16.out;omega⟩,⟨by exact Kd.R_mono HO_14.out (fun _ hk=>hk.2.1)⟩,⟨by exact Kd.R_mono HO_17.out (fun _ hk=>hk.1)⟩,⟨by repeat ((with_reducible exact HB.out))⟩⟩
           ·
            replace c45:=Bool.eq_false_iff.mpr c45
            subst c45
            have H1:(laws_FnExactSwapPool.j1 kj16 a0 l1 a2 a3 a4 a5 t1000 t1001 t1007 τ)=some r:=by rw [if_neg (show ¬ (φ=τ) by decide)] at H;exact H
            clear H
            have H:=H1
            clear H1
            have H':=ζa H
            clear H
            obtain ⟨Ao49,co49,eo49⟩:=Kd.R_slice HO_17.out
            subst eo49
            obtain ⟨Ao50,co50,eo50⟩:=Kd.R_slice HO_14.out
            subst eo50
            go_wp2_with ((go_at_call 18;(with_reducible refine (laws_eqPairS.calls kj16 _ _ t1007 _ _ t1000 φ _ ?side1 ?side2 ?side3 ?side4 A44.out).mono ?_);(case side1=>repeat (exact (ζg HO_17.out).2.2));(case side2=>exact (ζg HO_17.out).2.1);(case side3=>repeat (exact (ζg HO_14.out).2.2));(case side4=>exact (ζg HO_14.out).2.1);rintro e w51 ⟨rfl,hb⟩;replace HO_14:=ζa (ζh (by exact HO_14.out) hb);replace HO_16:=ζa (ζh (by exact HO_16.out) hb);replace HO_17:=ζa (ζh (by exact HO_17.out) hb);replace HO1014:=ζa (ζh (by exact HO1014.out) hb);replace HB:=ζa (δr (by exact HB.out) hb);(try clear hb);(try clear hb2);(try clear hk);(try clear hi)))
            go_meet
            case rel=>exact ⟨_,(τ),(by rfl),H',⟨by have:=HJ16.out;omega⟩,⟨by exact Kd.R_mono HO_14.out (fun _ hk=>hk.2.1)⟩,⟨by exact Kd.R_mono HO_17.out (fun _ hk=>hk.1)⟩,⟨by repeat ((with_reducible exact HB.out))⟩⟩
         case rest =>
          clear HC38
          try clear c1
          try clear c2
          try clear p2
          try clear c3
          try clear c4
          try clear c7
          try clear c7b0
          try clear c7b1
          try clear c8
          try clear c8b0
          try clear c8b1
          try clear c9
          try clear c9b0
          try clear c9b1
          try clear c11
          try clear c11b0
          try clear c12
          try clear c14
          try clear c16
          try clear c18
          try clear c19
          try clear c26
          try clear c33
          try clear c36
          try clear c37
          try clear c38
          try clear c43
          try clear c43b0
          try clear c45
          try clear p2
          obtain ⟨kq,x90_37,rfl,HA,HJ37,HO_14,HO_17,HB⟩:=hcut
          cases kq with
          | zero=>exact absurd HA.out (by simp [laws_FnExactSwapPool.j1])
          | succ kj37 =>
           have H:=HA.out
           clear HA
           simp only [laws_FnExactSwapPool.j1] at H
           by_cases c52:x90_37=τ
           ·
            subst c52
            have H1:(some φ)=some r:=by rw [if_pos rfl] at H;exact H
            clear H
            have H:=H1
            clear H1
            obtain rfl:=Option.some.inj H
            go_wp2
            go_ret
            exact ⟨by rfl,by repeat ((with_reducible exact HB.out))⟩
           ·
            replace c52:=Bool.eq_false_iff.mpr c52
            subst c52
            have H1:((laws_markPairS.f kj37 t1007 1).bind fun bt1019=>((laws_heldPairS.f kj37 bt1019.2 1).bind fun t1021=>(if t1021<0 then (some φ) else (if t1021=bt1019.1 then ((laws_toPairS.f kj37 l1).bind fun t1022=>((impl_SwapPool.f kj37 a0 t1022 a2 a3 a4 a5).bind fun bt1025=>((laws_eqPairS.f kj37 bt1025.1 t1000).bind fun t1029=>(if t1029=τ then (laws_FnExactSwapPool.j2 kj37 bt1019.2 bt1019.1 (bt1025.2 != t1001)) else (laws_FnExactSwapPool.j2 kj37 bt1019.2 bt1019.1 τ))))) else (some φ)))))=some r:=by rw [if_neg (show ¬ (φ=τ) by decide)] at H;exact H
            clear H
            have H:=H1
            clear H1
            replace H:=Option.bind_eq_some_iff.mp H
            obtain ⟨⟨t1019,t1020⟩,A530,H⟩:=H
            replace H:((laws_heldPairS.f kj37 t1020 1).bind fun t1021=>(if t1021<0 then (some φ) else (if t1021=t1019 then ((laws_toPairS.f kj37 l1).bind fun t1022=>((impl_SwapPool.f kj37 a0 t1022 a2 a3 a4 a5).bind fun bt1025=>((laws_eqPairS.f kj37 bt1025.1 t1000).bind fun t1029=>(if t1029=τ then (laws_FnExactSwapPool.j2 kj37 t1020 t1019 (bt1025.2 != t1001)) else (laws_FnExactSwapPool.j2 kj37 t1020 t1019 τ))))) else (some φ))))=some r:=H
            have A53:=ζa A530
            clear A530
            replace H:=Option.bind_eq_some_iff.mp H
            obtain ⟨t1021,A540,H⟩:=H
            replace H:(if t1021<0 then (some φ) else (if t1021=t1019 then ((laws_toPairS.f kj37 l1).bind fun t1022=>((impl_SwapPool.f kj37 a0 t1022 a2 a3 a4 a5).bind fun bt1025=>((laws_eqPairS.f kj37 bt1025.1 t1000).bind fun t1029=>(if t1029=τ then (laws_FnExactSwapPool.j2 kj37 t1020 t1019 (bt1025.2 != t1001)) else (laws_FnExactSwapPool.j2 kj37 t1020 t1019 τ))))) else (some φ)))=some r:=H
            have A54:=ζa A540
            clear A540
            by_cases c55:t1021<0
            ·
             rw [if_pos c55] at H
             have c55b0:decide (t1021<0)=τ:=decide_eq_true c55
             clear c55
             obtain rfl:=Option.some.inj H
             obtain ⟨Ao56,co56,eo56⟩:=Kd.R_slice HO_17.out
             subst eo56
             go_wp2_with (first|((with_reducible refine δv (f:=19) rfl ?_);refine goesL_ (some 93) rfl rfl Tryz.func19 (by kernel_rfl) rfl #[.slice Ao56 t1007.length co56,.int .i64 1] rfl (by (try simp only [δd,δe,δf]);rfl) ?_;(with_reducible refine (laws_markPairS.calls kj37 (fun k_=>some k_=(.slice Ao56 t1007.length co56:Value).ownBlock) (.slice Ao56 t1007.length co56) t1007 1 t1019 t1020 w _ ?side1 ?side2 A53.out).mono ?_);(case side1=>repeat ((with_reducible exact HB.out)));(case side2=>exact Kd.R_tight rfl HO_17.out);rintro e w57 ⟨rfl,hy0,hb,hkp⟩;refine ⟨_,rfl,?_⟩;replace HO_14:=ζa (Kd.R_mono (ok':=fun k_=>some k_≠(.slice Ao56 t1007.length co56:Value).ownBlock) (Kd.R_keptB (HO_14.out) hkp (fun k_ hk_ hs_=>(hk_) hs_)) (fun k_ hk_=>hk_.1));replace HO_17:=ζa (Kd.R_reok rfl hy0 (fun k_ e_=>HO_17.out.1 k_ e_));replace HB:=ζa (hb);(try clear hb);(try clear hkp);(try clear hy0))|((with_reducible refine δv (f:=20) rfl ?_);refine goesL_ (some 96) rfl rfl Tryz.func20 (by kernel_rfl) rfl #[.slice Ao56 t1020.length co56,.int .i64 1] rfl (by (try simp only [δd,δe,δf]);first|(rw [show t1020.length=t1007.length from (ζg HO_17.out).1.symm] <;> rfl)) ?_;(with_reducible refine (laws_heldPairS.calls kj37 _ _ t1020 1 t1021 _ ?side1 ?side2 A54.out).mono ?_);(case side1=>repeat (exact (ζg HO_17.out).2.2));(case side2=>rw [show t1020.length=t1007.length from (ζg HO_17.out).1.symm];exact (ζg HO_17.out).2.1);rintro e w58 ⟨rfl,hb⟩;refine ⟨_,rfl,?_⟩;replace HO_14:=ζa (ζh (by exact HO_14.out) hb);replace HO_17:=ζa (ζh (by exact HO_17.out) hb);replace HB:=ζa (δr (by exact HB.out) hb);(try clear hb);(try clear hb2);(try clear hk);(try clear hi)))
             go_ret
             exact ⟨by rfl,by repeat ((with_reducible exact HB.out))⟩
            ·
             rw [if_neg c55] at H
             have c55b0:decide (t1021<0)=φ:=decide_eq_false c55
             clear c55
             by_cases c59:t1021=t1019
             ·
              rw [if_pos c59] at H
              have c59b0:(t1021 == t1019)=τ:=beq_iff_eq.mpr c59
              have c59b1:(t1021 != t1019)=φ:=bne_eq_false_iff_eq.mpr c59
              clear c59
              replace H:=Option.bind_eq_some_iff.mp H
              obtain ⟨t1022,A600,H⟩:=H
              replace H:((impl_SwapPool.f kj37 a0 t1022 a2 a3 a4 a5).bind fun bt1025=>((laws_eqPairS.f kj37 bt1025.1 t1000).bind fun t1029=>(if t1029=τ then (laws_FnExactSwapPool.j2 kj37 t1020 t1019 (bt1025.2 != t1001)) else (laws_FnExactSwapPool.j2 kj37 t1020 t1019 τ))))=some r:=H
              have A60:=ζa A600
              clear A600
              replace H:=Option.bind_eq_some_iff.mp H
              obtain ⟨⟨t1025,t1026⟩,A610,H⟩:=H
              replace H:((laws_eqPairS.f kj37 t1025 t1000).bind fun t1029=>(if t1029=τ then (laws_FnExactSwapPool.j2 kj37 t1020 t1019 (t1026 != t1001)) else (laws_FnExactSwapPool.j2 kj37 t1020 t1019 τ)))=some r:=H
              have A61:=ζa A610
              clear A610
              have HC62:=ζa H
              clear H
              obtain ⟨Ao63,co63,eo63⟩:=Kd.R_slice HO_17.out
              subst eo63
              go_upto_region 31 with (first|((with_reducible refine δv (f:=19) rfl ?_);refine goesL_ (some 93) rfl rfl Tryz.func19 (by kernel_rfl) rfl #[.slice Ao63 t1007.length co63,.int .i64 1] rfl (by (try simp only [δd,δe,δf]);rfl) ?_;(with_reducible refine (laws_markPairS.calls kj37 (fun k_=>some k_=(.slice Ao63 t1007.length co63:Value).ownBlock) (.slice Ao63 t1007.length co63) t1007 1 t1019 t1020 w _ ?side1 ?side2 A53.out).mono ?_);(case side1=>repeat ((with_reducible exact HB.out)));(case side2=>exact Kd.R_tight rfl HO_17.out);rintro e w64 ⟨rfl,hy0,hb,hkp⟩;refine ⟨_,rfl,?_⟩;replace HO_14:=ζa (Kd.R_mono (ok':=fun k_=>some k_≠(.slice Ao63 t1007.length co63:Value).ownBlock) (Kd.R_keptB (HO_14.out) hkp (fun k_ hk_ hs_=>(hk_) hs_)) (fun k_ hk_=>hk_.1));replace HO_17:=ζa (Kd.R_reok rfl hy0 (fun k_ e_=>HO_17.out.1 k_ e_));replace HB:=ζa (hb);(try clear hb);(try clear hkp);(try clear hy0))|((with_reducible refine δv (f:=20) rfl ?_);refine goesL_ (some 96) rfl rfl Tryz.func20 (by kernel_rfl) rfl #[.slice Ao63 t1020.length co63,.int .i64 1] rfl (by (try simp only [δd,δe,δf]);first|(rw [show t1020.length=t1007.length from (ζg HO_17.out).1.symm] <;> rfl)) ?_;(with_reducible refine (laws_heldPairS.calls kj37 _ _ t1020 1 t1021 _ ?side1 ?side2 A54.out).mono ?_);(case side1=>repeat (exact (ζg HO_17.out).2.2));(case side2=>rw [show t1020.length=t1007.length from (ζg HO_17.out).1.symm];exact (ζg HO_17.out).2.1);rintro e w65 ⟨rfl,hb⟩;refine ⟨_,rfl,?_⟩;replace HO_14:=ζa (ζh (by exact HO_14.out) hb);replace HO_17:=ζa (ζh (by exact HO_17.out) hb);replace HB:=ζa (δr (by exact HB.out) hb);(try clear hb);(try clear hb2);(try clear hk);(try clear hi))|((with_reducible refine δv (f:=16) rfl ?_);refine goesL_ (some 105) rfl rfl Tryz.func16 (by kernel_rfl) rfl #[.slice A1 l1.length c1] rfl (by (try simp only [δd,δe,δf]);rfl) ?_;(with_reducible refine (laws_toPairS.calls kj37 _ _ l1 t1022 _ ?side1 ?side2 A60.out).mono ?_);(case side1=>repeat (exact (Kd.C_below HR1.out HB.out)));(case side2=>exact HC1.out);rintro e w66 ⟨v1023,rfl,ho0,hb⟩;refine ⟨_,rfl,?_⟩;have HO1024:=ζa (Kd.R_lower (Kd.R_new' (Kd.R_new' ho0 (Kd.R_lt (by exact HO_14.out))) (Kd.R_lt (by exact HO_17.out))) (δs (by exact HB.out)));replace HO_14:=ζa (Kd.R_elder' (by exact HO_14.out) (Kd.R_base ho0) hb);replace HO_17:=ζa (Kd.R_elder' (by exact HO_17.out) (Kd.R_base ho0) hb);replace HB:=ζa (δr (by exact HB.out) hb);(try clear hb);(try clear hb2);(try clear hk);(try clear hi);(try clear ho0);obtain ⟨Ao67,co67,eo67⟩:=Kd.R_slice HO1024.out;subst eo67)|((with_reducible refine δv (f:=38) rfl ?_);refine goesL_ (some 110) rfl rfl Tryz.func38 (by kernel_rfl) rfl #[.string a0,.slice Ao67 t1022.length co67,.string a2,.string a3,.int .i64 a4,.int .i64 a5] rfl (by (try simp only [δd,δe,δf]);rfl) ?_;(with_reducible refine (impl_SwapPool.calls kj37 a0 _ _ t1022 a2 a3 a4 a5 t1025 t1026 _ ?side1 ?side2 (HT0.out.below (by exact HB.out)) A61.out).mono ?_);(case side1=>repeat (exact (ζg HO1024.out).2.2));(case side2=>exact (ζg HO1024.out).2.1);rintro e w68 ⟨v1027,rfl,ho0,hb⟩;refine ⟨_,rfl,?_⟩;have HO1028:=ζa (Kd.R_lower (Kd.R_new' (Kd.R_new' (Kd.R_new' ho0 (Kd.R_lt (by exact HO_14.out))) (Kd.R_lt (by exact HO_17.out))) (Kd.R_lt (by exact HO1024.out))) (δs (by exact HB.out)));replace HO_14:=ζa (Kd.R_elder' (by exact HO_14.out) (Kd.R_base ho0) hb);replace HO_17:=ζa (Kd.R_elder' (by exact HO_17.out) (Kd.R_base ho0) hb);replace HO1024:=ζa (Kd.R_elder' (by exact HO1024.out) (Kd.R_base ho0) hb);replace HB:=ζa (δr (by exact HB.out) hb);(try clear hb);(try clear hb2);(try clear hk);(try clear hi);(try clear ho0)))
              (try simp only [ζl,δa,δb,δc])
              go_cut [121] (fun v121 wc => ∃ (kq:Nat) (x121_61:Bool),v121 = .bool x121_61∧Aside0 (laws_FnExactSwapPool.j2 kq t1020 t1019 x121_61=some r)∧Aside0 (kq≤kj37)∧Aside0 (Kd.R k51 51 wc w.heap.size (fun _=>True) (.slice Ao63 t1007.length co63) t1020)∧Aside0 (Below w.heap.size w wc))
              case first =>
               have H:=HC62.out
               clear HC62
               replace H:=Option.bind_eq_some_iff.mp H
               obtain ⟨t1029,A690,H⟩:=H
               replace H:(if t1029=τ then (laws_FnExactSwapPool.j2 kj37 t1020 t1019 (t1026 != t1001)) else (laws_FnExactSwapPool.j2 kj37 t1020 t1019 τ))=some r:=H
               have A69:=ζa A690
               clear A690
               by_cases c70:t1029=τ
               ·
                subst c70
                have H1:(laws_FnExactSwapPool.j2 kj37 t1020 t1019 (t1026 != t1001))=some r:=by rw [if_pos rfl] at H;exact H
                clear H
                have H:=H1
                clear H1
                have H':=ζa H
                clear H
                obtain ⟨Ao71,co71,eo71⟩:=Kd.R_slice HO1028.out
                subst eo71
                obtain ⟨Ao72,co72,eo72⟩:=Kd.R_slice HO_14.out
                subst eo72
                go_wp2_with (((with_reducible refine δv (f:=18) rfl ?_);refine goesL_ (some 115) rfl rfl Tryz.func18 (by kernel_rfl) rfl #[.slice Ao71 t1025.length co71,.slice Ao72 t1000.length co72] rfl (by (try simp only [δd,δe,δf]);rfl) ?_;(with_reducible refine (laws_eqPairS.calls kj37 _ _ t1025 _ _ t1000 τ _ ?side1 ?side2 ?side3 ?side4 A69.out).mono ?_);(case side1=>repeat (exact (ζg HO1028.out).2.2));(case side2=>exact (ζg HO1028.out).2.1);(case side3=>repeat (exact (ζg HO_14.out).2.2));(case side4=>exact (ζg HO_14.out).2.1);rintro e w73 ⟨rfl,hb⟩;refine ⟨_,rfl,?_⟩;replace HO_14:=ζa (ζh (by exact HO_14.out) hb);replace HO_17:=ζa (ζh (by exact HO_17.out) hb);replace HO1024:=ζa (ζh (by exact HO1024.out) hb);replace HO1028:=ζa (ζh (by exact HO1028.out) hb);replace HB:=ζa (δr (by exact HB.out) hb);(try clear hb);(try clear hb2);(try clear hk);(try clear hi)))
                go_meet
                case rel=>exact ⟨_,((t1026 != t1001)),(by rfl),H',⟨by have:=HJ16.out;have:=HJ37.out;omega⟩,⟨by exact Kd.R_mono HO_17.out (fun _ hk=>trivial)⟩,⟨by repeat ((with_reducible exact HB.out))⟩⟩
               ·
                replace c70:=Bool.eq_false_iff.mpr c70
                subst c70
                have H1:(laws_FnExactSwapPool.j2 kj37 t1020 t1019 τ)=some r:=by rw [if_neg (show ¬ (φ=τ) by decide)] at H;exact H
                clear H
                have H:=H1
                clear H1
                have H':=ζa H
                clear H
                obtain ⟨Ao74,co74,eo74⟩:=Kd.R_slice HO1028.out
                subst eo74
                obtain ⟨Ao75,co75,eo75⟩:=Kd.R_slice HO_14.out
                subst eo75
                go_wp2_with (((with_reducible refine δv (f:=18) rfl ?_);refine goesL_ (some 115) rfl rfl Tryz.func18 (by kernel_rfl) rfl #[.slice Ao74 t1025.length co74,.slice Ao75 t1000.length co75] rfl (by (try simp only [δd,δe,δf]);rfl) ?_;(with_reducible refine (laws_eqPairS.calls kj37 _ _ t1025 _ _ t1000 φ _ ?side1 ?side2 ?side3 ?side4 A69.out).mono ?_);(case side1=>repeat (exact (ζg HO1028.out).2.2));(case side2=>exact (ζg HO1028.out).2.1);(case side3=>repeat (exact (ζg HO_14.out).2.2));(case side4=>exact (ζg HO_14.out).2.1);rintro e w76 ⟨rfl,hb⟩;refine ⟨_,rfl,?_⟩;replace HO_14:=ζa (ζh (by exact HO_14.out) hb);replace HO_17:=ζa (ζh (by exact HO_17.out) hb);replace HO1024:=ζa (ζh (by exact HO1024.out) hb);replace HO1028:=ζa (ζh (by exact HO1028.out) hb);replace HB:=ζa (δr (by exact HB.out) hb);(try clear hb);(try clear hb2);(try clear hk);(try clear hi)))
                go_meet
                case rel=>exact ⟨_,(τ),(by rfl),H',⟨by have:=HJ16.out;have:=HJ37.out;omega⟩,⟨by exact Kd.R_mono HO_17.out (fun _ hk=>trivial)⟩,⟨by repeat ((with_reducible exact HB.out))⟩⟩
              case rest =>
               clear HC62
               try clear c1
               try clear c2
               try clear p2
               try clear c3
               try clear c4
               try clear c5
               try clear c7
               try clear c7b0
               try clear c7b1
               try clear c8
               try clear c8b0
               try clear c8b1
               try clear c9
               try clear c9b0
               try clear c9b1
               try clear c11
               try clear c11b0
               try clear c12
               try clear c14
               try clear c16
               try clear c18
               try clear c19
               try clear c20
               try clear c26
               try clear c33
               try clear c36
               try clear c37
               try clear c38
               try clear c43
               try clear c43b0
               try clear c45
               try clear c52
               try clear c55
               try clear c55b0
               try clear c59
               try clear c59b0
               try clear c59b1
               try clear c70
               try clear p2
               obtain ⟨kq,x121_61,rfl,HA,HJ61,HO_17,HB⟩:=hcut
               have hl17_61:=(ζg HO_17.out).1
               rw [hl17_61] at HO_17
               (try simp only [hl17_61])
               cases kq with
               | zero=>exact absurd HA.out (by simp [laws_FnExactSwapPool.j2])
               | succ kj61 =>
                have H:=HA.out
                clear HA
                simp only [laws_FnExactSwapPool.j2] at H
                by_cases c77:x121_61=τ
                ·
                 subst c77
                 have H1:(some φ)=some r:=by rw [if_pos rfl] at H;exact H
                 clear H
                 have H:=H1
                 clear H1
                 obtain rfl:=Option.some.inj H
                 go_wp2
                 go_ret
                 exact ⟨by rfl,by repeat ((with_reducible exact HB.out))⟩
                ·
                 replace c77:=Bool.eq_false_iff.mpr c77
                 subst c77
                 have H1:((laws_heldPairS.f kj61 t1020 1).bind fun t1030=>(if t1030<0 then (some φ) else (if t1030=t1019 then (some τ) else (some φ))))=some r:=by rw [if_neg (show ¬ (φ=τ) by decide)] at H;exact H
                 clear H
                 have H:=H1
                 clear H1
                 replace H:=Option.bind_eq_some_iff.mp H
                 obtain ⟨t1030,A780,H⟩:=H
                 replace H:(if t1030<0 then (some φ) else (if t1030=t1019 then (some τ) else (some φ)))=some r:=H
                 have A78:=ζa A780
                 clear A780
                 by_cases c79:t1030<0
                 ·
                  rw [if_pos c79] at H
                  have c79b0:decide (t1030<0)=τ:=decide_eq_true c79
                  clear c79
                  obtain rfl:=Option.some.inj H
                  go_wp2_with (((with_reducible refine δv (f:=20) rfl ?_);refine goesL_ (some 124) rfl rfl Tryz.func20 (by kernel_rfl) rfl #[.slice Ao63 t1020.length co63,.int .i64 1] rfl (by (try simp only [δd,δe,δf]);rfl) ?_;(with_reducible refine (laws_heldPairS.calls kj61 _ _ t1020 1 t1030 _ ?side1 ?side2 A78.out).mono ?_);(case side1=>repeat (exact (ζg HO_17.out).2.2));(case side2=>exact (ζg HO_17.out).2.1);rintro e w80 ⟨rfl,hb⟩;refine ⟨_,rfl,?_⟩;replace HO_17:=ζa (ζh (by exact HO_17.out) hb);replace HB:=ζa (δr (by exact HB.out) hb);(try clear hb);(try clear hb2);(try clear hk);(try clear hi)))
                  go_ret
                  exact ⟨by rfl,by repeat ((with_reducible exact HB.out))⟩
                 ·
                  rw [if_neg c79] at H
                  have c79b0:decide (t1030<0)=φ:=decide_eq_false c79
                  clear c79
                  by_cases c81:t1030=t1019
                  ·
                   rw [if_pos c81] at H
                   have c81b0:(t1030 == t1019)=τ:=beq_iff_eq.mpr c81
                   have c81b1:(t1030 != t1019)=φ:=bne_eq_false_iff_eq.mpr c81
                   clear c81
                   obtain rfl:=Option.some.inj H
                   go_wp2_with (((with_reducible refine δv (f:=20) rfl ?_);refine goesL_ (some 124) rfl rfl Tryz.func20 (by kernel_rfl) rfl #[.slice Ao63 t1020.length co63,.int .i64 1] rfl (by (try simp only [δd,δe,δf]);rfl) ?_;(with_reducible refine (laws_heldPairS.calls kj61 _ _ t1020 1 t1030 _ ?side1 ?side2 A78.out).mono ?_);(case side1=>repeat (exact (ζg HO_17.out).2.2));(case side2=>exact (ζg HO_17.out).2.1);rintro e w82 ⟨rfl,hb⟩;refine ⟨_,rfl,?_⟩;replace HO_17:=ζa (ζh (by exact HO_17.out) hb);replace HB:=ζa (δr (by exact HB.out) hb);(try clear hb);(try clear hb2);(try clear hk);(try clear hi)))
                   go_ret
                   exact ⟨by rfl,by repeat ((with_reducible exact HB.out))⟩
                  ·
                   rw [if_neg c81] at H
                   have c81b0:(t1030 == t1019)=φ:=beq_eq_false_iff_ne.mpr c81
                   have c81b1:(t1030 != t1019)=τ:=bne_iff_ne.mpr c81
                   obtain rfl:=Option.some.inj H
                   go_wp2_with (((with_reducible refine δv (f:=20) rfl ?_);refine goesL_ (some 124) rfl rfl Tryz.func20 (by kernel_rfl) rfl #[.slice Ao63 t1020.length co63,.int .i64 1] rfl (by (try simp only [δd,δe,δf]);rfl) ?_;(with_reducible refine (laws_heldPairS.calls kj61 _ _ t1020 1 t1030 _ ?side1 ?side2 A78.out).mono ?_);(case side1=>repeat (exact (ζg HO_17.out).2.2));(case side2=>exact (ζg HO_17.out).2.1);rintro e w83 ⟨rfl,hb⟩;refine ⟨_,rfl,?_⟩;replace HO_17:=ζa (ζh (by exact HO_17.out) hb);replace HB:=ζa (δr (by exact HB.out) hb);(try clear hb);(try clear hb2);(try clear hk);(try clear hi)))
                   go_ret
                   exact ⟨by rfl,by repeat ((with_reducible exact HB.out))⟩
             ·
              rw [if_neg c59] at H
              have c59b0:(t1021 == t1019)=φ:=beq_eq_false_iff_ne.mpr c59
              have c59b1:(t1021 != t1019)=τ:=bne_iff_ne.mpr c59
              obtain rfl:=Option.some.inj H
              obtain ⟨Ao84,co84,eo84⟩:=Kd.R_slice HO_17.out
              subst eo84
              go_wp2_with (first|((with_reducible refine δv (f:=19) rfl ?_);refine goesL_ (some 93) rfl rfl Tryz.func19 (by kernel_rfl) rfl #[.slice Ao84 t1007.length co84,.int .i64 1] rfl (by (try simp only [δd,δe,δf]);rfl) ?_;(with_reducible refine (laws_markPairS.calls kj37 (fun k_=>some k_=(.slice Ao84 t1007.length co84:Value).ownBlock) (.slice Ao84 t1007.length co84) t1007 1 t1019 t1020 w _ ?side1 ?side2 A53.out).mono ?_);(case side1=>repeat ((with_reducible exact HB.out)));(case side2=>exact Kd.R_tight rfl HO_17.out);rintro e w85 ⟨rfl,hy0,hb,hkp⟩;refine ⟨_,rfl,?_⟩;replace HO_14:=ζa (Kd.R_mono (ok':=fun k_=>some k_≠(.slice Ao84 t1007.length co84:Value).ownBlock) (Kd.R_keptB (HO_14.out) hkp (fun k_ hk_ hs_=>(hk_) hs_)) (fun k_ hk_=>hk_.1));replace HO_17:=ζa (Kd.R_reok rfl hy0 (fun k_ e_=>HO_17.out.1 k_ e_));replace HB:=ζa (hb);(try clear hb);(try clear hkp);(try clear hy0))|((with_reducible refine δv (f:=20) rfl ?_);refine goesL_ (some 96) rfl rfl Tryz.func20 (by kernel_rfl) rfl #[.slice Ao84 t1020.length co84,.int .i64 1] rfl (by (try simp only [δd,δe,δf]);first|(rw [show t1020.length=t1007.length from (ζg HO_17.out).1.symm] <;> rfl)) ?_;(with_reducible refine (laws_heldPairS.calls kj37 _ _ t1020 1 t1021 _ ?side1 ?side2 A54.out).mono ?_);(case side1=>repeat (exact (ζg HO_17.out).2.2));(case side2=>rw [show t1020.length=t1007.length from (ζg HO_17.out).1.symm];exact (ζg HO_17.out).2.1);rintro e w86 ⟨rfl,hb⟩;refine ⟨_,rfl,?_⟩;replace HO_14:=ζa (ζh (by exact HO_14.out) hb);replace HO_17:=ζa (ζh (by exact HO_17.out) hb);replace HB:=ζa (δr (by exact HB.out) hb);(try clear hb);(try clear hb2);(try clear hk);(try clear hi)))
              go_ret
              exact ⟨by rfl,by repeat ((with_reducible exact HB.out))⟩
        ·
         replace c36:=Bool.eq_false_iff.mpr c36
         subst c36
         have H1:(some φ)=some r:=by rw [if_neg (show ¬ (φ=τ) by decide)] at H;exact H
         clear H
         have H:=H1
         clear H1
         obtain rfl:=Option.some.inj H
         go_wp2_with (first|((with_reducible refine δv (f:=16) rfl ?_);refine goesL_ (some 72) rfl rfl Tryz.func16 (by kernel_rfl) rfl #[.slice A1 l1.length c1] rfl (by (try simp only [δd,δe,δf]);rfl) ?_;(with_reducible refine (laws_toPairS.calls kj16 _ _ l1 t1012 _ ?side1 ?side2 A34.out).mono ?_);(case side1=>repeat (exact (Kd.C_below HR1.out HB.out)));(case side2=>exact HC1.out);rintro e w87 ⟨v1013,rfl,ho0,hb⟩;refine ⟨_,rfl,?_⟩;have HO1014:=ζa (Kd.R_lower (Kd.R_new' (Kd.R_new' (Kd.R_new' ho0 (Kd.R_lt (by exact HO_14.out))) (Kd.R_lt (by exact HO_16.out))) (Kd.R_lt (by exact HO_17.out))) (δs (by exact HB.out)));replace HO_14:=ζa (Kd.R_elder' (by exact HO_14.out) (Kd.R_base ho0) hb);replace HO_16:=ζa (Kd.R_elder' (by exact HO_16.out) (Kd.R_base ho0) hb);replace HO_17:=ζa (Kd.R_elder' (by exact HO_17.out) (Kd.R_base ho0) hb);replace HB:=ζa (δr (by exact HB.out) hb);(try clear hb);(try clear hb2);(try clear hk);(try clear hi);(try clear ho0);obtain ⟨Ao88,co88,eo88⟩:=Kd.R_slice HO1014.out;subst eo88)|((with_reducible refine δv (f:=18) rfl ?_);refine goesL_ (some 73) rfl rfl Tryz.func18 (by kernel_rfl) rfl #[.slice Ao23 t1004.length co23,.slice Ao88 t1012.length co88] rfl (by (try simp only [δd,δe,δf]);rfl) ?_;(with_reducible refine (laws_eqPairS.calls kj16 _ _ t1004 _ _ t1012 φ _ ?side1 ?side2 ?side3 ?side4 A35.out).mono ?_);(case side1=>repeat (exact (ζg HO_16.out).2.2));(case side2=>exact (ζg HO_16.out).2.1);(case side3=>repeat (exact (ζg HO1014.out).2.2));(case side4=>exact (ζg HO1014.out).2.1);rintro e w89 ⟨rfl,hb⟩;refine ⟨_,rfl,?_⟩;replace HO_14:=ζa (ζh (by exact HO_14.out) hb);replace HO_16:=ζa (ζh (by exact HO_16.out) hb);replace HO_17:=ζa (ζh (by exact HO_17.out) hb);replace HO1014:=ζa (ζh (by exact HO1014.out) hb);replace HB:=ζa (δr (by exact HB.out) hb);(try clear hb);(try clear hb2);(try clear hk);(try clear hi)))
         go_ret
         exact ⟨by rfl,by repeat ((with_reducible exact HB.out))⟩


open Bool renaming true → τ

/-! ### impl_supplyKey: function 156 -/
def impl_supplyKey.f (a0:ByteArray):Option (ByteArray):=if 2+a0.size≤9223372036854775807 then (some ((⟨#[115,47]⟩:ByteArray) ++ a0)) else (none)
set_option maxHeartbeats 8000000 in
set_option maxRecDepth 100000 in
theorem impl_supplyKey.calls (a0:ByteArray) (r:ByteArray) (w:World) (h:impl_supplyKey.f a0=some r) :
  Calls Tryz.prog 156 #[.string a0] w fun e w'=>e = .returned (.string r)∧Drawn0 w w':=by
 have H:(if 2+a0.size≤9223372036854775807 then (some ((⟨#[115,47]⟩:ByteArray) ++ a0)) else (none))=some r:=h
 clear h
 by_cases c2:2+a0.size≤9223372036854775807
 ·
  rw [if_pos c2] at H
  have c2b0:=eq_true c2
  have c2b1:decide (2+a0.size≤9223372036854775807)=τ:=decide_eq_true c2
  try have c2b2:(9223372036854775807<2+a0.size)=False:=eq_false (Nat.not_lt.2 c2)
  obtain rfl:=Option.some.inj H
  go_enter Tryz.func156,Tryz.ntmps156
  go_wp2
  go_ret
  exact ⟨by rfl,by repeat (exact Drawn0.refl _)⟩
 ·
  rw [if_neg c2] at H
  exact absurd H (by simp)


open Go.Proofs.YtabmfhnhmoiljaaGreatDoorW.PrintWords renaming below_drew1 → δj, pw_below_drewN → δi, below_step → δr

/-! ### impl_burn_1_1: function 154 -/
set_option maxHeartbeats 2000000 in
set_option maxRecDepth 100000 in
theorem impl_burn_1_1.calls (k:Nat) (A0:Option Addr) (c0:Nat) (l0:List S51) (pd pa pn_:Addr) (d a:ByteArray) (n_:Int) (r1:List S51) (r2:Int) (w:World) (hr0:Kd.C k51 w A0 l0.length l0) (hc0:l0.length≤c0) (hT0:TabsOK w) (hd:w.cell? pd=some (.string d)) (ha:w.cell? pa=some (.string a)) (hn_:w.cell? pn_=some (.int .i64 n_))
  (h:((impl_balanceKey.f d a).bind fun key=>impl_fewer.f k l0 key n_)=some (r1,r2)) :
  Calls Tryz.prog 154 #[.slice A0 l0.length c0,.pointer (some pd),.pointer (some pa),.pointer (some pn_)] w fun e w' => ∃ v0_:Value,e = .returned (.tuple #[v0_,.int .i64 r2])∧(r2=0→Kd.R k51 51 w' w.heap.size (fun _=>True) v0_ r1)∧Below w.heap.size w w':=by
 obtain ⟨key,hk,h⟩:=Option.bind_eq_some_iff.mp h
 have HK:=ζa hk
 have HF:=ζa h
 have HR0:=ζa hr0
 have HC0:=ζa hc0
 have HT0:=ζa hT0
 have HB0:=ζa (Below.refl w.heap.size w)
 have Hd:=ζa hd
 have Ha:=ζa ha
 have Hn_:=ζa hn_
 clear hk h hr0 hc0 hT0
 go_enter Tryz.func154,Tryz.ntmps154
 go_wp2_with fail
 go_region_held3 (fun w'=>w'.cell? pd=some (.string d)∧w'.cell? pa=some (.string a)∧w'.cell? pn_=some (.int .i64 n_)) (first|go_keep|exact ⟨cell_keep HB3.out Hd.out,cell_keep HB3.out Ha.out,cell_keep HB3.out Hn_.out⟩)
  (first
   | (go_at_call 143;refine (impl_balanceKey.calls d a key _ HK.out).mono ?_;rintro e w' ⟨rfl,⟨q',rfl⟩⟩)
   | (go_at_call 142;refine (impl_fewer.calls k A0 c0 l0 key n_ r1 r2 _ (by repeat (first|exact HR0.out|apply Kd.C_drew|apply Kd.C_drewN)) HC0.out (by first|exact HT0.out|exact HT0.out.below (by repeat (first|exact HB0.out|apply δj|apply δi))) HF.out).mono ?_;rintro e w3 ⟨v3,rfl,ho,hb⟩;have HO3:=ζa ho;have HB3:Aside0 (Below w.heap.size w w3):=⟨δr (by repeat (first|exact HB0.out|apply δj|apply δi)) hb⟩;clear ho hb))
 all_goals go_wp2
 all_goals (go_ret2;exact ⟨_,rfl,fun h0=>HO3.out h0,HB3.out⟩)



/-! ### impl_burn_1_2: function 155 -/
set_option maxHeartbeats 2000000 in
set_option maxRecDepth 100000 in
theorem impl_burn_1_2.calls (k:Nat) (A0:Option Addr) (c0:Nat) (l0:List S51) (pd pn_:Addr) (d:ByteArray) (n_:Int) (r1:List S51) (r2:Int) (w:World) (hr0:Kd.C k51 w A0 l0.length l0) (hc0:l0.length≤c0) (hT0:TabsOK w) (hd:w.cell? pd=some (.string d)) (hn_:w.cell? pn_=some (.int .i64 n_))
  (h:((impl_supplyKey.f d).bind fun key=>impl_fewer.f k l0 key n_)=some (r1,r2)) :
  Calls Tryz.prog 155 #[.slice A0 l0.length c0,.pointer (some pd),.pointer (some pn_)] w fun e w' => ∃ v0_:Value,e = .returned (.tuple #[v0_,.int .i64 r2])∧(r2=0→Kd.R k51 51 w' w.heap.size (fun _=>True) v0_ r1)∧Below w.heap.size w w':=by
 obtain ⟨key,hk,h⟩:=Option.bind_eq_some_iff.mp h
 have HK:=ζa hk
 have HF:=ζa h
 have HR0:=ζa hr0
 have HC0:=ζa hc0
 have HT0:=ζa hT0
 have HB0:=ζa (Below.refl w.heap.size w)
 have Hd:=ζa hd
 have Hn_:=ζa hn_
 clear hk h hr0 hc0 hT0
 go_enter Tryz.func155,Tryz.ntmps155
 go_wp2_with fail
 go_region_held3 (fun w'=>w'.cell? pd=some (.string d)∧w'.cell? pn_=some (.int .i64 n_)) (first|go_keep|exact ⟨cell_keep HB3.out Hd.out,cell_keep HB3.out Hn_.out⟩)
  (first
   | (go_at_call 156;refine (impl_supplyKey.calls d key _ HK.out).mono ?_;rintro e w' ⟨rfl,⟨q',rfl⟩⟩)
   | (go_at_call 142;refine (impl_fewer.calls k A0 c0 l0 key n_ r1 r2 _ (by repeat (first|exact HR0.out|apply Kd.C_drew|apply Kd.C_drewN)) HC0.out (by first|exact HT0.out|exact HT0.out.below (by repeat (first|exact HB0.out|apply δj|apply δi))) HF.out).mono ?_;rintro e w3 ⟨v3,rfl,ho,hb⟩;have HO3:=ζa ho;have HB3:Aside0 (Below w.heap.size w w3):=⟨δr (by repeat (first|exact HB0.out|apply δj|apply δi)) hb⟩;clear ho hb))
 all_goals go_wp2
 all_goals (go_ret2;exact ⟨_,rfl,fun h0=>HO3.out h0,HB3.out⟩)


open Go.Proofs.YtabmfhnhmoiljaaGreatDoorW.PrintWords renaming below_alloc → δk, below_step → δr

/-! ### impl_burn_1: function 153 -/
def impl_burn.F (k:Nat) (a d:ByteArray) (n_:Int):List S51→Option (List S51 × Int):=fun l0=>impl_all.f k l0 [(fun l=>(impl_balanceKey.f d a).bind fun key=>impl_fewer.f k l key n_),(fun l=>(impl_supplyKey.f d).bind fun key=>impl_fewer.f k l key n_)]
set_option maxHeartbeats 2000000 in
set_option maxRecDepth 100000 in
theorem impl_burn_1.calls (k:Nat) (A0:Option Addr) (c0:Nat) (l0:List S51) (pa pd pn_:Addr) (a d:ByteArray) (n_:Int) (r1:List S51) (r2:Int) (w:World) (hr0:Kd.C k51 w A0 l0.length l0) (hc0:l0.length≤c0) (hT0:TabsOK w) (ha:w.cell? pa=some (.string a)) (hd:w.cell? pd=some (.string d)) (hn_:w.cell? pn_=some (.int .i64 n_)) (h:impl_burn.F k a d n_ l0=some (r1,r2)) :
  Calls Tryz.prog 153 #[.slice A0 l0.length c0,.pointer (some pd),.pointer (some pa),.pointer (some pn_)] w fun e w' => ∃ v0_:Value,e = .returned (.tuple #[v0_,.int .i64 r2])∧Kd.R k51 51 w' w.heap.size (fun _=>True) v0_ r1∧Below w.heap.size w w':=by
 have HH:=ζa h
 have HR0:=ζa hr0
 have HC0:=ζa hc0
 have HT0:=ζa hT0
 have Ha:=ζa ha
 have Hd:=ζa hd
 have Hn_:=ζa hn_
 have HB:=ζa (Below.refl w.heap.size w)
 clear h hr0 hc0 hT0 ha hd hn_
 go_enter Tryz.func153,Tryz.ntmps153
 go_wp2_with fail
 have HB1:Aside0 (Below w.heap.size w (w.alloc (.cells ([((154,#[.pointer (some pd),.pointer (some pa),.pointer (some pn_)]):FV),(155,#[.pointer (some pd),.pointer (some pn_)])].map encF).toArray 79))):=⟨δk HB.out _⟩
 refine (impl_all.calls k A0 c0 l0 _ _ [(154,#[.pointer (some pd),.pointer (some pa),.pointer (some pn_)]),(155,#[.pointer (some pd),.pointer (some pn_)])] [(fun l=>(impl_balanceKey.f d a).bind fun key=>impl_fewer.f k l key n_),(fun l=>(impl_supplyKey.f d).bind fun key=>impl_fewer.f k l key n_)] r1 r2 _ (Kd.C_alloc HR0.out _) HC0.out (rowF _ (show 2≤1000 by decide) (heap_alloc_new _ _)) rfl ?_ HH.out).mono ?_
 ·
  intro i x F hx hF
  rcases i with _|_|i
  ·
   simp only [List.getElem?_cons_zero,Option.some.injEq] at hx hF
   subst hx hF
   exact ⟨enters_of Tryz.func154 (by kernel_rfl) rfl,fun W A c l r code hb hr hc hF=>impl_burn_1_1.calls k A c l pd pa pn_ d a n_ r code W hr hc ((HT0.out.below HB1.out).below hb) (cell_keep hb (cell_keep HB1.out Hd.out)) (cell_keep hb (cell_keep HB1.out Ha.out)) (cell_keep hb (cell_keep HB1.out Hn_.out)) hF⟩
  ·
   simp only [List.getElem?_cons_succ,List.getElem?_cons_zero,Option.some.injEq] at hx hF
   subst hx hF
   exact ⟨enters_of Tryz.func155 (by kernel_rfl) rfl,fun W A c l r code hb hr hc hF=>impl_burn_1_2.calls k A c l pd pn_ d n_ r code W hr hc ((HT0.out.below HB1.out).below hb) (cell_keep hb (cell_keep HB1.out Hd.out)) (cell_keep hb (cell_keep HB1.out Hn_.out)) hF⟩
  · simp at hx
 rintro e w3 ⟨v3,rfl,ho,hb⟩
 have HO3:=ζa (Kd.R_lower ho HB1.out.size)
 have HB3:=ζa (δr HB1.out hb)
 clear ho hb
 go_wp2
 go_ret2
 exact ⟨_,rfl,HO3.out,HB3.out⟩


open Go.Proofs.YtabmfhnhmoiljaaGreatDoorW.PrintWords renaming gate_dst → δx, box_event → δz, below_step → δr, below_alloc → δk, pw_below_drewN → δi, below_drew1 → δj, blk_cell → δl

/-! ### impl_burn: function 95 -/
set_option maxHeartbeats 2000000 in
set_option maxRecDepth 100000 in
theorem impl_burn.calls (k:Nat) (a d:ByteArray) (n_:Int) (w:World) (hT0:TabsOK w) :
  Calls Tryz.prog 95 #[.string a,.string d,.int .i64 n_] w fun e w' => ∃ (g:Nat) (lb:Array Value),e = .returned (.func (.func g) #[] lb)∧ChgR w' (g,lb) (impl_burn.F k a d n_)∧Below w.heap.size w w':=by
 have HT0:=ζa hT0
 have HB:=ζa (Below.refl w.heap.size w)
 clear hT0
 go_enter Tryz.func95,Tryz.ntmps95
 go_wp2_with (first
  | ((with_reducible refine δx (N:=3) rfl ?_);refine δz ?hg (N:=3) ?hd (cs:=#[(.string a)]) (t:=9) ?hr ?_;(case hd=>rfl);(case hg=>rfl);(case hr=>first|(go_simp;done)|(go_simp;rfl));intro gba hg wa hbox hb;replace HB:=ζa (δr (by repeat (first|exact HB.out|apply δk|apply δi|apply δj)) hb);have BKa:=ζa hbox;clear hb hbox hg)
  | ((with_reducible refine δx (N:=4) rfl ?_);refine δz ?hg (N:=4) ?hd (cs:=#[(.string d)]) (t:=9) ?hr ?_;(case hd=>rfl);(case hg=>rfl);(case hr=>first|(go_simp;done)|(go_simp;rfl));intro gbd hg wd hbox hb;replace HB:=ζa (δr (by repeat (first|exact HB.out|apply δk|apply δi|apply δj)) hb);have BKd:=ζa hbox;have ma:=ζa (blk_below BKa.out hb);clear BKa;have BKa:=ma;clear ma;clear hb hbox hg)
  | ((with_reducible refine δx (N:=5) rfl ?_);refine δz ?hg (N:=5) ?hd (cs:=#[(.int .i64 n_)]) (t:=3) ?hr ?_;(case hd=>rfl);(case hg=>rfl);(case hr=>first|(go_simp;done)|(go_simp;rfl));intro gbn_ hg wn_ hbox hb;replace HB:=ζa (δr (by repeat (first|exact HB.out|apply δk|apply δi|apply δj)) hb);have BKn_:=ζa hbox;have ma:=ζa (blk_below BKa.out hb);clear BKa;have BKa:=ma;clear ma;have md:=ζa (blk_below BKd.out hb);clear BKd;have BKd:=md;clear md;clear hb hbox hg))
 go_ret
 refine ⟨_,_,rfl,⟨enters_of Tryz.func153 (by kernel_rfl) rfl,fun W A c l r code hb hr hc hF => ?_⟩,HB.out⟩
 exact (impl_burn_1.calls k A c l _ _ _ a d n_ r code W hr hc ((HT0.out.below HB.out).below hb) ((δl (blk_below BKa.out hb) 0).trans rfl) ((δl (blk_below BKd.out hb) 0).trans rfl) ((δl (blk_below BKn_.out hb) 0).trans rfl) hF)



/-! ### impl_mint_1_1: function 158 -/
set_option maxHeartbeats 2000000 in
set_option maxRecDepth 100000 in
theorem impl_mint_1_1.calls (k:Nat) (A0:Option Addr) (c0:Nat) (l0:List S51) (pd pn_:Addr) (d:ByteArray) (n_:Int) (r1:List S51) (r2:Int) (w:World) (hr0:Kd.C k51 w A0 l0.length l0) (hc0:l0.length≤c0) (hT0:TabsOK w) (hd:w.cell? pd=some (.string d)) (hn_:w.cell? pn_=some (.int .i64 n_))
  (h:((impl_supplyKey.f d).bind fun key=>impl_more.f k l0 key n_)=some (r1,r2)) :
  Calls Tryz.prog 158 #[.slice A0 l0.length c0,.pointer (some pd),.pointer (some pn_)] w fun e w' => ∃ v0_:Value,e = .returned (.tuple #[v0_,.int .i64 r2])∧(r2=0→Kd.R k51 51 w' w.heap.size (fun _=>True) v0_ r1)∧Below w.heap.size w w':=by
 obtain ⟨key,hk,h⟩:=Option.bind_eq_some_iff.mp h
 have HK:=ζa hk
 have HF:=ζa h
 have HR0:=ζa hr0
 have HC0:=ζa hc0
 have HT0:=ζa hT0
 have HB0:=ζa (Below.refl w.heap.size w)
 have Hd:=ζa hd
 have Hn_:=ζa hn_
 clear hk h hr0 hc0 hT0
 go_enter Tryz.func158,Tryz.ntmps158
 go_wp2_with fail
 go_region_held3 (fun w'=>w'.cell? pd=some (.string d)∧w'.cell? pn_=some (.int .i64 n_)) (first|go_keep|exact ⟨cell_keep HB3.out Hd.out,cell_keep HB3.out Hn_.out⟩)
  (first
   | (go_at_call 156;refine (impl_supplyKey.calls d key _ HK.out).mono ?_;rintro e w' ⟨rfl,⟨q',rfl⟩⟩)
   | (go_at_call 145;refine (impl_more.calls k A0 c0 l0 key n_ r1 r2 _ (by repeat (first|exact HR0.out|apply Kd.C_drew|apply Kd.C_drewN)) HC0.out (by first|exact HT0.out|exact HT0.out.below (by repeat (first|exact HB0.out|apply δj|apply δi))) HF.out).mono ?_;rintro e w3 ⟨v3,rfl,ho,hb⟩;have HO3:=ζa ho;have HB3:Aside0 (Below w.heap.size w w3):=⟨δr (by repeat (first|exact HB0.out|apply δj|apply δi)) hb⟩;clear ho hb))
 all_goals go_wp2
 all_goals (go_ret2;exact ⟨_,rfl,fun h0=>HO3.out h0,HB3.out⟩)



/-! ### impl_mint_1_2: function 159 -/
set_option maxHeartbeats 2000000 in
set_option maxRecDepth 100000 in
theorem impl_mint_1_2.calls (k:Nat) (A0:Option Addr) (c0:Nat) (l0:List S51) (pd pa pn_:Addr) (d a:ByteArray) (n_:Int) (r1:List S51) (r2:Int) (w:World) (hr0:Kd.C k51 w A0 l0.length l0) (hc0:l0.length≤c0) (hT0:TabsOK w) (hd:w.cell? pd=some (.string d)) (ha:w.cell? pa=some (.string a)) (hn_:w.cell? pn_=some (.int .i64 n_))
  (h:((impl_balanceKey.f d a).bind fun key=>impl_more.f k l0 key n_)=some (r1,r2)) :
  Calls Tryz.prog 159 #[.slice A0 l0.length c0,.pointer (some pd),.pointer (some pa),.pointer (some pn_)] w fun e w' => ∃ v0_:Value,e = .returned (.tuple #[v0_,.int .i64 r2])∧(r2=0→Kd.R k51 51 w' w.heap.size (fun _=>True) v0_ r1)∧Below w.heap.size w w':=by
 obtain ⟨key,hk,h⟩:=Option.bind_eq_some_iff.mp h
 have HK:=ζa hk
 have HF:=ζa h
 have HR0:=ζa hr0
 have HC0:=ζa hc0
 have HT0:=ζa hT0
 have HB0:=ζa (Below.refl w.heap.size w)
 have Hd:=ζa hd
 have Ha:=ζa ha
 have Hn_:=ζa hn_
 clear hk h hr0 hc0 hT0
 go_enter Tryz.func159,Tryz.ntmps159
 go_wp2_with fail
 go_region_held3 (fun w'=>w'.cell? pd=some (.string d)∧w'.cell? pa=some (.string a)∧w'.cell? pn_=some (.int .i64 n_)) (first|go_keep|exact ⟨cell_keep HB3.out Hd.out,cell_keep HB3.out Ha.out,cell_keep HB3.out Hn_.out⟩)
  (first
   | (go_at_call 143;refine (impl_balanceKey.calls d a key _ HK.out).mono ?_;rintro e w' ⟨rfl,⟨q',rfl⟩⟩)
   | (go_at_call 145;refine (impl_more.calls k A0 c0 l0 key n_ r1 r2 _ (by repeat (first|exact HR0.out|apply Kd.C_drew|apply Kd.C_drewN)) HC0.out (by first|exact HT0.out|exact HT0.out.below (by repeat (first|exact HB0.out|apply δj|apply δi))) HF.out).mono ?_;rintro e w3 ⟨v3,rfl,ho,hb⟩;have HO3:=ζa ho;have HB3:Aside0 (Below w.heap.size w w3):=⟨δr (by repeat (first|exact HB0.out|apply δj|apply δi)) hb⟩;clear ho hb))
 all_goals go_wp2
 all_goals (go_ret2;exact ⟨_,rfl,fun h0=>HO3.out h0,HB3.out⟩)



/-! ### impl_mint_1: function 157 -/
def impl_mint.F (k:Nat) (a d:ByteArray) (n_:Int):List S51→Option (List S51 × Int):=fun l0=>impl_all.f k l0 [(fun l=>(impl_supplyKey.f d).bind fun key=>impl_more.f k l key n_),(fun l=>(impl_balanceKey.f d a).bind fun key=>impl_more.f k l key n_)]
set_option maxHeartbeats 2000000 in
set_option maxRecDepth 100000 in
theorem impl_mint_1.calls (k:Nat) (A0:Option Addr) (c0:Nat) (l0:List S51) (pa pd pn_:Addr) (a d:ByteArray) (n_:Int) (r1:List S51) (r2:Int) (w:World) (hr0:Kd.C k51 w A0 l0.length l0) (hc0:l0.length≤c0) (hT0:TabsOK w) (ha:w.cell? pa=some (.string a)) (hd:w.cell? pd=some (.string d)) (hn_:w.cell? pn_=some (.int .i64 n_)) (h:impl_mint.F k a d n_ l0=some (r1,r2)) :
  Calls Tryz.prog 157 #[.slice A0 l0.length c0,.pointer (some pd),.pointer (some pn_),.pointer (some pa)] w fun e w' => ∃ v0_:Value,e = .returned (.tuple #[v0_,.int .i64 r2])∧Kd.R k51 51 w' w.heap.size (fun _=>True) v0_ r1∧Below w.heap.size w w':=by
 have HH:=ζa h
 have HR0:=ζa hr0
 have HC0:=ζa hc0
 have HT0:=ζa hT0
 have Ha:=ζa ha
 have Hd:=ζa hd
 have Hn_:=ζa hn_
 have HB:=ζa (Below.refl w.heap.size w)
 clear h hr0 hc0 hT0 ha hd hn_
 go_enter Tryz.func157,Tryz.ntmps157
 go_wp2_with fail
 have HB1:Aside0 (Below w.heap.size w (w.alloc (.cells ([((158,#[.pointer (some pd),.pointer (some pn_)]):FV),(159,#[.pointer (some pd),.pointer (some pa),.pointer (some pn_)])].map encF).toArray 79))):=⟨δk HB.out _⟩
 refine (impl_all.calls k A0 c0 l0 _ _ [(158,#[.pointer (some pd),.pointer (some pn_)]),(159,#[.pointer (some pd),.pointer (some pa),.pointer (some pn_)])] [(fun l=>(impl_supplyKey.f d).bind fun key=>impl_more.f k l key n_),(fun l=>(impl_balanceKey.f d a).bind fun key=>impl_more.f k l key n_)] r1 r2 _ (Kd.C_alloc HR0.out _) HC0.out (rowF _ (show 2≤1000 by decide) (heap_alloc_new _ _)) rfl ?_ HH.out).mono ?_
 ·
  intro i x F hx hF
  rcases i with _|_|i
  ·
   simp only [List.getElem?_cons_zero,Option.some.injEq] at hx hF
   subst hx hF
   exact ⟨enters_of Tryz.func158 (by kernel_rfl) rfl,fun W A c l r code hb hr hc hF=>impl_mint_1_1.calls k A c l pd pn_ d n_ r code W hr hc ((HT0.out.below HB1.out).below hb) (cell_keep hb (cell_keep HB1.out Hd.out)) (cell_keep hb (cell_keep HB1.out Hn_.out)) hF⟩
  ·
   simp only [List.getElem?_cons_succ,List.getElem?_cons_zero,Option.some.injEq] at hx hF
   subst hx hF
   exact ⟨enters_of Tryz.func159 (by kernel_rfl) rfl,fun W A c l r code hb hr hc hF=>impl_mint_1_2.calls k A c l pd pa pn_ d a n_ r code W hr hc ((HT0.out.below HB1.out).below hb) (cell_keep hb (cell_keep HB1.out Hd.out)) (cell_keep hb (cell_keep HB1.out Ha.out)) (cell_keep hb (cell_keep HB1.out Hn_.out)) hF⟩
  · simp at hx
 rintro e w3 ⟨v3,rfl,ho,hb⟩
 have HO3:=ζa (Kd.R_lower ho HB1.out.size)
 have HB3:=ζa (δr HB1.out hb)
 clear ho hb
 go_wp2
 go_ret2
 exact ⟨_,rfl,HO3.out,HB3.out⟩



/-! ### impl_mint: function 100 -/
set_option maxHeartbeats 2000000 in
set_option maxRecDepth 100000 in
theorem impl_mint.calls (k:Nat) (a d:ByteArray) (n_:Int) (w:World) (hT0:TabsOK w) :
  Calls Tryz.prog 100 #[.string a,.string d,.int .i64 n_] w fun e w' => ∃ (g:Nat) (lb:Array Value),e = .returned (.func (.func g) #[] lb)∧ChgR w' (g,lb) (impl_mint.F k a d n_)∧Below w.heap.size w w':=by
 have HT0:=ζa hT0
 have HB:=ζa (Below.refl w.heap.size w)
 clear hT0
 go_enter Tryz.func100,Tryz.ntmps100
 go_wp2_with (first
  | ((with_reducible refine δx (N:=3) rfl ?_);refine δz ?hg (N:=3) ?hd (cs:=#[(.string a)]) (t:=9) ?hr ?_;(case hd=>rfl);(case hg=>rfl);(case hr=>first|(go_simp;done)|(go_simp;rfl));intro gba hg wa hbox hb;replace HB:=ζa (δr (by repeat (first|exact HB.out|apply δk|apply δi|apply δj)) hb);have BKa:=ζa hbox;clear hb hbox hg)
  | ((with_reducible refine δx (N:=4) rfl ?_);refine δz ?hg (N:=4) ?hd (cs:=#[(.string d)]) (t:=9) ?hr ?_;(case hd=>rfl);(case hg=>rfl);(case hr=>first|(go_simp;done)|(go_simp;rfl));intro gbd hg wd hbox hb;replace HB:=ζa (δr (by repeat (first|exact HB.out|apply δk|apply δi|apply δj)) hb);have BKd:=ζa hbox;have ma:=ζa (blk_below BKa.out hb);clear BKa;have BKa:=ma;clear ma;clear hb hbox hg)
  | ((with_reducible refine δx (N:=5) rfl ?_);refine δz ?hg (N:=5) ?hd (cs:=#[(.int .i64 n_)]) (t:=3) ?hr ?_;(case hd=>rfl);(case hg=>rfl);(case hr=>first|(go_simp;done)|(go_simp;rfl));intro gbn_ hg wn_ hbox hb;replace HB:=ζa (δr (by repeat (first|exact HB.out|apply δk|apply δi|apply δj)) hb);have BKn_:=ζa hbox;have ma:=ζa (blk_below BKa.out hb);clear BKa;have BKa:=ma;clear ma;have md:=ζa (blk_below BKd.out hb);clear BKd;have BKd:=md;clear md;clear hb hbox hg))
 go_ret
 refine ⟨_,_,rfl,⟨enters_of Tryz.func157 (by kernel_rfl) rfl,fun W A c l r code hb hr hc hF => ?_⟩,HB.out⟩
 exact (impl_mint_1.calls k A c l _ _ _ a d n_ r code W hr hc ((HT0.out.below HB.out).below hb) ((δl (blk_below BKa.out hb) 0).trans rfl) ((δl (blk_below BKd.out hb) 0).trans rfl) ((δl (blk_below BKn_.out hb) 0).trans rfl) hF)

end Go.Proofs.YtabmfhnhmoiljaaGreatDoor.Q

/- Plain arithmetic: products of two amounts in halves of nine digits; long division digit by digit. No program. -/
namespace Go.Proofs.YtabmfhnhmoiljaaGreatDoor.U
open Go Go.RowKit
set_option linter.unusedVariables false
set_option linter.unusedSimpArgs false

theorem wid {n : Int} (h0 : -9223372036854775808 ≤ n) (h1 : n ≤ 9223372036854775807) : wrap64 n = n := IntWalk.wrap64_in n ⟨h0, h1⟩
theorem tdiv_nn {a b : Int} (h : 0 ≤ a) : Int.tdiv a b = a / b := Int.tdiv_eq_ediv_of_nonneg h
theorem tmod_nn {a b : Int} (h : 0 ≤ a) : Int.tmod a b = a % b := Int.tmod_eq_emod_of_nonneg h
theorem u64w (n : Int) : IntKind.u64.wrap n = n % 18446744073709551616 := by simp [IntKind.wrap, IntKind.bits, IntKind.signed]
theorem u64id {n : Int} (h0 : 0 ≤ n) (h1 : n < 18446744073709551616) : IntKind.u64.wrap n = n := by rw [u64w]; exact Int.emod_eq_of_lt h0 h1

theorem mul_bd {x y X Y : Int} (hx : 0 ≤ x) (hx' : x ≤ X) (hy : 0 ≤ y) (hy' : y ≤ Y) : 0 ≤ x * y ∧ x * y ≤ X * Y :=
  ⟨Int.mul_nonneg hx hy, Int.mul_le_mul hx' hy' hy (Int.le_trans hx hx')⟩

theorem wide_eq (a b : Int) (ha : 0 ≤ a) (ha' : a ≤ 1000000000000000000) (hb : 0 ≤ b) (hb' : b ≤ 1000000000000000000) :
    a * b = (a / 1000000000) * (b / 1000000000) * 1000000000000000000 + ((a / 1000000000) * (b % 1000000000) + (a % 1000000000) * (b / 1000000000)) * 1000000000 + (a % 1000000000) * (b % 1000000000) := by
  have e1 : a = (a / 1000000000) * 1000000000 + a % 1000000000 := by omega
  have e2 : b = (b / 1000000000) * 1000000000 + b % 1000000000 := by omega
  generalize a / 1000000000 = x at *
  generalize a % 1000000000 = y at *
  generalize b / 1000000000 = z at *
  generalize b % 1000000000 = u at *
  subst e1 e2
  grind

/-- One digit more of a long division. -/
theorem digit_step (c T out rest low : Int) (hc : 1 ≤ c) (hT : 1 ≤ T) (hr : 0 ≤ rest) (hl : 0 ≤ low) :
    (out * 10 + (10 * rest + low / T % 10) / c) * T + ((10 * rest + low / T % 10) % c * T + low % T) / c = out * (10 * T) + (rest * (10 * T) + low % (10 * T)) / c := by
  have e1 : low % (10 * T) = low / T % 10 * T + low % T := by
    have h1 : low / (10 * T) = low / T / 10 := by rw [Int.mul_comm, Int.ediv_ediv_of_nonneg (by omega)]
    have h2 := Int.mul_ediv_add_emod low (10 * T)
    have h3 := Int.mul_ediv_add_emod low T
    have h4 := Int.mul_ediv_add_emod (low / T) 10
    rw [h1] at h2
    generalize low / T / 10 = p at *
    generalize low / T % 10 = d at *
    generalize low / T = m at *
    subst h4
    generalize low % T = e at *
    generalize low % (10 * T) = f at *
    grind
  have h5 := Int.mul_ediv_add_emod (10 * rest + low / T % 10) c
  generalize low / T % 10 = d at *
  generalize (10 * rest + d) / c = q at *
  generalize (10 * rest + d) % c = s at *
  have e2 : rest * (10 * T) + low % (10 * T) = c * (q * T) + (s * T + low % T) := by
    rw [e1]
    generalize low % T = e at *
    grind
  rw [e2, Int.mul_add_ediv_left _ _ (by omega)]
  grind

/-- Knuth's step: a digit that is guessed too great is told by the lower half. -/
theorem knuth_lower (Y yn1 yn0 u v q : Int) (hY : Y = yn1 * 4294967296 + yn0) (h0 : 0 ≤ yn0) (hv : 0 ≤ v) (hv' : v < 4294967296) (hq : 0 ≤ q) (h : q * Y ≤ u * 4294967296 + v) : q * yn1 ≤ u := by
  have h1 : q * Y = q * yn1 * 4294967296 + q * yn0 := by subst hY; grind
  have h2 : 0 ≤ q * yn0 := Int.mul_nonneg hq h0
  omega

end Go.Proofs.YtabmfhnhmoiljaaGreatDoor.U

/- A number's digits: the reference's are the library's. -/
namespace Go.Proofs.YtabmfhnhmoiljaaGreatDoor.U
open Go Go.RowKit Go.Proofs.YtabmfhnhmoiljaaGreatDoor.Q Go.Proofs.YtabmfhnhmoiljaaGreatDoorW.PrintWords Go.Proofs.YtabmfhnhmoiljaaGreatDoorW.PrintLast Go.Proofs.YtabmfhnhmoiljaaGreatDoorW.PrintMore
set_option linter.unusedVariables false
set_option linter.unusedSimpArgs false

def digV (u : Nat) : ByteArray := ⟨(Lib.decDigits u).toArray⟩
theorem one_digit (u : Nat) (h : u < 10) : strOfNums [(wrap64 (48 + (u : Int))) % 256] = ⟨#[UInt8.ofNat (48 + u)]⟩ := by
  rw [wid (by omega) (by omega)]
  have : ((48 + (u : Int)) % 256) = ((48 + u : Nat) : Int) := by omega
  rw [this]
  rfl
theorem digits_ev (u : Nat) (hu : u ≤ 1000000000000000000) : Ev (fun k => spec_l00Digits.f k (u : Int)) (digV u) := by
  induction u using Nat.strongRecOn with
  | _ u ih =>
    by_cases h : u < 10
    · refine Ev.step (fun k => ?_) (Ev.now _)
      rw [spec_l00Digits.f, if_neg (by omega), if_neg (by omega), if_pos (by omega), one_digit u h, digV, Lib.decDigits_one h]
    · have e1 : wrap64 (Int.tdiv (u : Int) 10) = ((u / 10 : Nat) : Int) := by rw [tdiv_nn (by omega), wid (by omega) (by omega)]; omega
      have e2 : Int.tmod (u : Int) 10 = ((u % 10 : Nat) : Int) := by rw [tmod_nn (by omega)]; omega
      have hs : (digV (u / 10)).size ≤ u := by
        show (Lib.decDigits (u / 10)).toArray.size ≤ u
        rw [List.size_toArray, Lib.decDigits_length]
        have hn : ∀ v : Nat, 1 ≤ v → Lib.nDigits v ≤ v := by
          intro v
          induction v using Nat.strongRecOn with
          | _ v ihv =>
            intro h1
            rw [Lib.nDigits]
            split
            · exact h1
            · have := ihv (v / 10) (by omega) (by omega); omega
        have := hn (u / 10) (by omega)
        omega
      refine Ev.step (f := fun k => (spec_l00Digits.f k ((u / 10 : Nat) : Int)).bind fun t => if t.size + 1 ≤ 9223372036854775807 then some (t ++ (⟨#[UInt8.ofNat (48 + u % 10)]⟩ : ByteArray)) else none) (fun k => ?_) ?_
      · rw [spec_l00Digits.f, if_neg (by omega), if_neg (by omega), if_neg (by omega), e1, e2]
        simp only [Option.bind_some, one_digit (u % 10) (by omega)]
        rfl
      · refine Ev.bind (ih (u / 10) (by omega) (by omega)) ?_
        simp only [if_pos (show (digV (u / 10)).size + 1 ≤ 9223372036854775807 by omega)]
        have : digV (u / 10) ++ (⟨#[UInt8.ofNat (48 + u % 10)]⟩ : ByteArray) = digV u := by
          unfold digV
          conv => rhs; rw [Lib.decDigits, dif_neg h]
          apply ByteArray.ext
          simp
        rw [this]
        exact Ev.now _
theorem itoa_eq (n : Int) (h : 0 ≤ n) : (⟨(Lib.itoa n).toArray⟩ : ByteArray) = digV n.toNat := by
  unfold Lib.itoa digV
  rw [if_neg (by omega)]
end Go.Proofs.YtabmfhnhmoiljaaGreatDoor.U

/- Amounts: the number that a text tells, as the program and as the reference read it. -/
namespace Go.Proofs.YtabmfhnhmoiljaaGreatDoor.U
open Go Go.RowKit Go.Proofs.YtabmfhnhmoiljaaGreatDoor.Q Go.Proofs.YtabmfhnhmoiljaaGreatDoorW.PrintWords Go.Proofs.YtabmfhnhmoiljaaGreatDoorW.PrintLast Go.Proofs.YtabmfhnhmoiljaaGreatDoorW.PrintMore
set_option linter.unusedVariables false
set_option linter.unusedSimpArgs false

theorem nd_small (j v : Nat) (h : v < 10 ^ (j + 1)) : Lib.nDigits v ≤ j + 1 := by
  induction j generalizing v with
  | zero => rw [Lib.nDigits, dif_pos (by simpa using h)]; omega
  | succ j ih =>
    rw [Lib.nDigits]
    split
    · omega
    · have := ih (v / 10) (by rw [Nat.pow_succ] at h; omega); omega
theorem digV_size (v : Nat) (h : v ≤ 1000000000000000000) : (digV v).size ≤ 19 := by
  show (Lib.decDigits v).toArray.size ≤ 19
  rw [List.size_toArray, Lib.decDigits_length]
  exact nd_small 18 v (by omega)
theorem dec_big {v : Nat} (h : ¬ v < 10) : Lib.decDigits v = Lib.decDigits (v / 10) ++ [UInt8.ofNat (48 + v % 10)] := by
  conv => lhs; rw [Lib.decDigits, dif_neg h]
theorem chr_nat (d : Nat) (h : d < 10) : (UInt8.ofNat (48 + d)).toNat = 48 + d := by
  rw [UInt8.toNat_ofNat']; omega

/-- Digits, one behind the other, onto what those ahead tell. -/
def telD (x : Nat) : List UInt8 → Option Nat
  | [] => some x
  | c :: r => if c.toNat < 48 ∨ 57 < c.toNat then none else if (1000000000000000000 - (c.toNat - 48)) / 10 < x then none else telD (x * 10 + (c.toNat - 48)) r
theorem telD_append (l r : List UInt8) : ∀ x, telD x (l ++ r) = (telD x l).bind fun y => telD y r := by
  induction l with
  | nil => intro x; rfl
  | cons c l ih =>
    intro x
    simp only [List.cons_append, telD]
    split
    · rfl
    · split
      · rfl
      · exact ih _
theorem telD_one (x d : Nat) (hd : d < 10) (h : x * 10 + d ≤ 1000000000000000000) : telD x [UInt8.ofNat (48 + d)] = some (x * 10 + d) := by
  simp only [telD, chr_nat d hd]
  rw [if_neg (by omega), if_neg (by omega)]
  congr 1; omega
theorem telD_dec (v : Nat) (h : v ≤ 1000000000000000000) : telD 0 (Lib.decDigits v) = some v := by
  induction v using Nat.strongRecOn with
  | _ v ih =>
    by_cases hv : v < 10
    · rw [Lib.decDigits_one hv, telD_one 0 v hv (by omega)]; congr 1; omega
    · rw [dec_big hv, telD_append, ih (v / 10) (by omega) (by omega)]
      show telD (v / 10) _ = _
      rw [telD_one _ _ (by omega) (by omega)]; congr 1; omega
/-- No needless naught ahead. -/
def plainB (l : List UInt8) : Bool := decide (l ≠ []) && (decide (l.length = 1) || decide (l.head? ≠ some 48))
theorem snoc_cases {α : Type} (l : List α) : l = [] ∨ ∃ (i : List α) (c : α), l = i ++ [c] := by
  rcases List.eq_nil_or_concat l with h | ⟨i, c, h⟩
  · exact .inl h
  · exact .inr ⟨i, c, by rw [h, List.concat_eq_append]⟩
theorem telD_snoc {l : List UInt8} {c : UInt8} {n : Nat} (h : telD 0 (l ++ [c]) = some n) :
    ∃ m, telD 0 l = some m ∧ 48 ≤ c.toNat ∧ c.toNat ≤ 57 ∧ n = m * 10 + (c.toNat - 48) ∧ n ≤ 1000000000000000000 := by
  rw [telD_append] at h
  obtain ⟨m, h1, h2⟩ := Option.bind_eq_some_iff.mp h
  refine ⟨m, h1, ?_⟩
  simp only [telD] at h2
  split at h2
  · cases h2
  · split at h2
    · cases h2
    · injection h2 with h2
      omega
theorem dec_of_telD (k : Nat) : ∀ (l : List UInt8) (n : Nat), l.length = k → plainB l = true → telD 0 l = some n → l = Lib.decDigits n ∧ n ≤ 1000000000000000000 := by
  induction k with
  | zero =>
    intro l n hl hp h
    have : l = [] := List.length_eq_zero_iff.1 hl
    subst this
    simp [plainB] at hp
  | succ k ih =>
    intro l n hl hp h
    rcases snoc_cases l with rfl | ⟨i, c, rfl⟩
    · simp at hl
    obtain ⟨m, h1, h2, h3, h4, h5⟩ := telD_snoc h
    refine ⟨?_, h5⟩
    by_cases hi : i = []
    · subst hi
      simp only [telD, Option.some.injEq] at h1
      subst h1
      rw [Lib.decDigits_one (by omega), h4]
      simp only [List.nil_append, List.cons.injEq, and_true]
      apply UInt8.toNat_inj.1
      rw [chr_nat _ (by omega)]; omega
    · have hne : i.head? ≠ some 48 := by
        simp only [plainB, Bool.and_eq_true, Bool.or_eq_true, decide_eq_true_iff] at hp
        rcases hp.2 with hp | hp
        · rw [List.length_append, List.length_singleton] at hp
          exact absurd (List.length_eq_zero_iff.1 (by omega)) hi
        · cases i with
          | nil => exact absurd rfl hi
          | cons a i => simpa using hp
      obtain ⟨e, _⟩ := ih i m (by rw [List.length_append, List.length_singleton] at hl; omega) (by simp only [plainB, Bool.and_eq_true, Bool.or_eq_true, decide_eq_true_iff]; exact ⟨hi, .inr hne⟩) h1
      have hm : m ≠ 0 := by
        rintro rfl
        rw [e, Lib.decDigits_one (by omega)] at hne
        exact hne rfl
      rw [dec_big (v := n) (by omega)]
      have e1 : n / 10 = m := by omega
      have e2 : n % 10 = c.toNat - 48 := by omega
      rw [e1, e2, ← e]
      congr 2
      apply UInt8.toNat_inj.1
      rw [chr_nat _ (by omega)]; omega
theorem dec_head (v : Nat) : ∃ d r, d < 10 ∧ Lib.decDigits v = UInt8.ofNat (48 + d) :: r := by
  induction v using Nat.strongRecOn with
  | _ v ih =>
    by_cases hv : v < 10
    · exact ⟨v, [], hv, Lib.decDigits_one hv⟩
    · obtain ⟨d, r, hd, e⟩ := ih (v / 10) (by omega)
      exact ⟨d, r ++ [UInt8.ofNat (48 + v % 10)], hd, by rw [dec_big hv, e]; rfl⟩
theorem dec_plain (v : Nat) : plainB (Lib.decDigits v) = true := by
  have hne : Lib.decDigits v ≠ [] := fun e => by
    have h := Lib.decDigits_length v
    rw [e] at h
    have := Lib.nDigits_pos v
    simp at h; omega
  have hd : Lib.nDigits v = 1 ∨ (Lib.decDigits v).head? ≠ some 48 := by
    induction v using Nat.strongRecOn with
    | _ v ih =>
      by_cases hv : v < 10
      · exact .inl (Lib.nDigits_small hv)
      · right
        obtain ⟨d, r, hd, e⟩ := dec_head (v / 10)
        by_cases hv2 : v / 10 < 10
        · rw [dec_big hv, Lib.decDigits_one hv2]
          simp only [List.cons_append, List.head?_cons, ne_eq, Option.some.injEq]
          intro e
          have := congrArg UInt8.toNat e
          rw [chr_nat _ hv2] at this
          have e48 : (48 : UInt8).toNat = 48 := rfl
          omega
        · rcases ih (v / 10) (by omega) (by rw [e]; simp) with h | h
          · rw [Lib.nDigits_big hv2] at h
            have := Lib.nDigits_pos (v / 10 / 10)
            omega
          · rw [e] at h
            rw [dec_big hv, e]
            exact h
  simp only [plainB, Bool.and_eq_true, Bool.or_eq_true, decide_eq_true_iff]
  refine ⟨hne, ?_⟩
  rcases hd with h | h
  · left; rw [Lib.decDigits_length, h]
  · exact .inr h
/-- The amount of a text, where it tells one. -/
def amtO (a : ByteArray) : Option Nat := if plainB a.data.toList = true then telD 0 a.data.toList else none
theorem amtO_iff (a : ByteArray) (n : Nat) : amtO a = some n ↔ a = digV n ∧ n ≤ 1000000000000000000 := by
  unfold amtO
  constructor
  · intro h
    split at h
    · rename_i hp
      obtain ⟨e, hn⟩ := dec_of_telD _ _ n rfl hp h
      refine ⟨?_, hn⟩
      apply ByteArray.ext
      apply Array.toList_inj.mp
      rw [e]
      rfl
    · cases h
  · rintro ⟨rfl, hn⟩
    have e : (digV n).data.toList = Lib.decDigits n := rfl
    rw [e, if_pos (dec_plain n)]
    exact telD_dec n hn
def amtV (a : ByteArray) : Int := match amtO a with | some n => (n : Int) | none => -1
theorem amtV_digV (n : Nat) (h : n ≤ 1000000000000000000) : amtV (digV n) = n := by
  unfold amtV
  rw [(amtO_iff _ n).2 ⟨rfl, h⟩]
theorem amtV_eq {a : ByteArray} (h : 0 ≤ amtV a) : a = digV (amtV a).toNat ∧ amtV a ≤ 1000000000000000000 := by
  unfold amtV at *
  cases e : amtO a with
  | none => rw [e] at h; simp at h
  | some n =>
    obtain ⟨h1, h2⟩ := (amtO_iff a n).1 e
    exact ⟨by simpa using h1, by simp only; omega⟩
theorem amtV_low (a : ByteArray) : -1 ≤ amtV a := by
  unfold amtV
  split <;> omega

/-! ### the program's -/
theorem parse_append (l r : List UInt8) : ∀ x, Lib.parseUint10 x (l ++ r) = match Lib.parseUint10 x l with | .ok u => Lib.parseUint10 u r | .syntax => .syntax | .range => .range := by
  induction l with
  | nil => intro x; rfl
  | cons c l ih =>
    intro x
    simp only [List.cons_append, Lib.parseUint10]
    split
    · split
      · rfl
      · split
        · rfl
        · exact ih _
    · rfl
theorem parse_one (x d : Nat) (hd : d < 10) (h : x * 10 + d < 9223372036854775808) : Lib.parseUint10 x [UInt8.ofNat (48 + d)] = .ok (x * 10 + d) := by
  simp only [Lib.parseUint10, chr_nat d hd]
  rw [if_pos (by omega), if_neg (by omega), if_neg (by omega)]
  congr 1; omega
theorem parse_dec (v : Nat) (h : v < 9223372036854775808) : Lib.parseUint10 0 (Lib.decDigits v) = .ok v := by
  induction v using Nat.strongRecOn with
  | _ v ih =>
    by_cases hv : v < 10
    · rw [Lib.decDigits_one hv, parse_one 0 v hv (by omega)]; congr 1; omega
    · rw [dec_big hv, parse_append, ih (v / 10) (by omega) (by omega)]
      show Lib.parseUint10 (v / 10) _ = _
      rw [parse_one _ _ (by omega) (by omega)]; congr 1; omega
theorem atoi_dec (v : Nat) (h : v < 9223372036854775808) : Lib.atoiAll (Lib.decDigits v) = .ok (v : Int) := by
  obtain ⟨d, r, hd, e⟩ := dec_head v
  have h1 := parse_dec v h
  rw [e] at h1 ⊢
  rw [Lib.atoiAll_plain _ _ (by rw [chr_nat d hd]; omega) (by rw [chr_nat d hd]; omega)]
  unfold Lib.parseMag
  rw [if_neg (by simp), h1]
  simp only [Lib.signless]
  rw [if_neg (by omega)]
theorem toList_eq_iff (a b : ByteArray) : a.toList = b.toList ↔ a = b := by
  constructor
  · intro h
    rw [ByteArray.toList_eq, ByteArray.toList_eq] at h
    exact ByteArray.ext (Array.toList_inj.mp h)
  · rintro rfl; rfl
theorem readAmount_eq (a : ByteArray) (hs : a.size ≤ 281474976710656) : impl_readAmount.f a = some (if 0 ≤ amtV a then (amtV a, true) else (0, false)) := by
  unfold impl_readAmount.f
  rw [if_pos hs]
  by_cases h : 0 ≤ amtV a
  · obtain ⟨e, hn⟩ := amtV_eq h
    rw [if_pos h]
    generalize amtV a = n at *
    have e1 : Lib.atoiAll a.data.toList = .ok n := by
      have := atoi_dec n.toNat (by omega)
      rw [e]
      rw [show ((n.toNat : Nat) : Int) = n by omega] at this
      exact this
    rw [e1]
    simp only [if_pos h, if_pos hn]
    rw [itoa_eq n h, ← e, if_pos rfl]
  · rw [if_neg h]
    cases hh : Lib.atoiAll a.data.toList with
    | «syntax» => rfl
    | range => rfl
    | ok v =>
      simp only
      by_cases h0 : 0 ≤ v
      · rw [if_pos h0]
        by_cases h1 : v ≤ 1000000000000000000
        · rw [if_pos h1, itoa_eq v h0]
          by_cases h2 : (digV v.toNat).toList = a.toList
          · exfalso
            have e := (toList_eq_iff _ _).1 h2
            apply h
            rw [← e, amtV_digV _ (by omega)]
            omega
          · rw [if_neg h2]
        · rw [if_neg h1]
      · rw [if_neg h0]

/-! ### the reference's -/
theorem bt_get (a : ByteArray) (i : Nat) (h : i < a.size) : bt a (i : Int) = ((a.data.toList[i]'(by rw [Array.length_toList]; exact h)).toNat : Int) := by
  unfold bt
  rw [dif_pos (by simpa using h)]
  simp
  rfl
def telI (x : Nat) (l : List UInt8) : Int := match telD x l with | some n => (n : Int) | none => -1
theorem l02Of_go (a : ByteArray) (hs : a.size ≤ 19) : ∀ (d i x : Nat), i + d = a.size → x ≤ 1000000000000000000 → Ev (fun k => spec_l02Of.l0 k a (x : Int) (i : Int)) (telI x (a.data.toList.drop i)) := by
  intro d
  induction d with
  | zero =>
    intro i x hi hx
    refine Ev.step (fun k => ?_) (Ev.now _)
    rw [spec_l02Of.l0, if_neg (by omega), List.drop_of_length_le (by rw [Array.length_toList]; show a.size ≤ i; omega)]
    rfl
  | succ d ih =>
    intro i x hi hx
    have hlt : i < a.size := by omega
    have hb := bt_get a i hlt
    have hl : i < a.data.toList.length := by rw [Array.length_toList]; exact hlt
    rw [List.drop_eq_getElem_cons hl]
    generalize a.data.toList[i] = c at *
    have hc := UInt8.toNat_lt c
    unfold telI
    simp only [telD]
    by_cases h1 : c.toNat < 48 ∨ 57 < c.toNat
    · rw [if_pos h1]
      refine Ev.step (f := fun k => spec_l02Of.j2 k a (x : Int) (i : Int) true) (fun k => ?_) (Ev.step (fun k => by rw [spec_l02Of.j2, if_pos rfl]) (Ev.now _))
      rw [spec_l02Of.l0, if_pos (by omega), if_pos (by omega), hb]
      by_cases h2 : c.toNat < 48
      · rw [if_pos (by omega)]
      · rw [if_neg (by omega), decide_eq_true (by omega)]
    · rw [if_neg h1]
      refine Ev.step (f := fun k => spec_l02Of.j2 k a (x : Int) (i : Int) false) (fun k => ?_) ?_
      · rw [spec_l02Of.l0, if_pos (by omega), if_pos (by omega), hb, if_neg (by omega), decide_eq_false (by omega)]
      · have e1 : ((c.toNat : Int) - 48) % 256 = ((c.toNat - 48 : Nat) : Int) := by omega
        by_cases h3 : (1000000000000000000 - (c.toNat - 48)) / 10 < x
        · rw [if_pos h3]
          refine Ev.step (fun k => ?_) (Ev.now _)
          rw [spec_l02Of.j2, if_neg (by decide), if_pos (by omega), if_pos (by omega), hb, e1, if_pos (by omega)]
        · rw [if_neg h3]
          have := ih (i + 1) (x * 10 + (c.toNat - 48)) (by omega) (by omega)
          refine Ev.step (fun k => ?_) this
          rw [spec_l02Of.j2, if_neg (by decide), if_pos (by omega), if_pos (by omega), hb, e1, if_neg (by omega), wid (n := (x : Int) * 10) (by omega) (by omega), wid (n := (x : Int) * 10 + _) (by omega) (by omega), wid (n := (i : Int) + 1) (by omega) (by omega)]
          rfl
theorem l02Of_ev (a : ByteArray) (hs : a.size ≤ 9223372036854775807) : Ev (fun k => spec_l02Of.f k a) (amtV a) := by
  have hbad : amtV a = -1 → Ev (fun k => spec_l02Of.j0 k a true) (amtV a) := fun e => by
    rw [e]; exact Ev.step (fun k => by rw [spec_l02Of.j0, if_pos rfl]) (Ev.now _)
  have hln : a.data.toList.length = a.size := by rw [Array.length_toList]; rfl
  have hbig : 19 < a.size → amtV a = -1 := fun h => by
    by_cases h0 : 0 ≤ amtV a
    · obtain ⟨e, hn⟩ := amtV_eq h0
      have := digV_size (amtV a).toNat (by omega)
      rw [← e] at this
      omega
    · have := amtV_low a; omega
  have hgo : Ev (fun k => spec_l02Of.l0 k a 0 0) (telI 0 a.data.toList) ∨ 19 < a.size := by
    by_cases h : 19 < a.size
    · exact .inr h
    · exact .inl (by have := l02Of_go a (by omega) a.size 0 0 (by omega) (by omega); simpa using this)
  unfold spec_l02Of.f spec_l01In.f
  by_cases h1 : (a.size : Int) ≥ 1
  · simp only [if_pos h1, Option.bind_some]
    by_cases h2 : (a.size : Int) ≤ 19
    · simp only [decide_eq_true h2, if_true]
      have hg : Ev (fun k => spec_l02Of.l0 k a 0 0) (telI 0 a.data.toList) := by
        rcases hgo with h | h
        · exact h
        · omega
      by_cases h3 : (a.size : Int) > 1
      · simp only [if_pos h3, if_pos (show (0 : Int) < (a.size : Int) by omega)]
        have hb := bt_get a 0 (by omega)
        have hh : a.data.toList.head? = some (a.data.toList[0]'(by omega)) := by rw [List.head?_eq_getElem?, List.getElem?_eq_getElem]
        by_cases h4 : a.data.toList[0]'(by omega) = 48
        · have e : (bt a 0 == 48) = true := by rw [beq_iff_eq]; have := hb; rw [h4] at this; exact this
          simp only [e]
          refine hbad ?_
          unfold amtV amtO
          rw [if_neg]
          simp only [plainB, Bool.and_eq_true, Bool.or_eq_true, decide_eq_true_iff, hh, h4]
          rintro ⟨_, h | h⟩
          · omega
          · exact h rfl
        · have e : (bt a 0 == 48) = false := by
            rw [beq_eq_false_iff_ne]
            intro h5
            apply h4
            apply UInt8.toNat_inj.1
            have e48 : (48 : UInt8).toNat = 48 := rfl
            have := hb.symm.trans h5
            omega
          simp only [e]
          refine Ev.step (fun k => by rw [spec_l02Of.j0, if_neg (by decide)]) ?_
          have e2 : amtV a = telI 0 a.data.toList := by
            unfold amtV amtO telI
            rw [if_pos]
            simp only [plainB, Bool.and_eq_true, Bool.or_eq_true, decide_eq_true_iff, hh]
            refine ⟨fun e0 => ?_, .inr (fun e0 => h4 (Option.some.inj e0))⟩
            rw [e0] at hln; simp at hln; omega
          rw [e2]
          exact hg
      · simp only [if_neg h3]
        refine Ev.step (fun k => by rw [spec_l02Of.j0, if_neg (by decide)]) ?_
        have e2 : amtV a = telI 0 a.data.toList := by
          unfold amtV amtO telI
          rw [if_pos]
          simp only [plainB, Bool.and_eq_true, Bool.or_eq_true, decide_eq_true_iff]
          refine ⟨fun e0 => ?_, .inl (by omega)⟩
          rw [e0] at hln; simp at hln; omega
        rw [e2]
        exact hg
    · simp only [decide_eq_false h2, Bool.false_eq_true, if_false]
      exact hbad (hbig (by omega))
  · simp only [if_neg h1, Option.bind_some, Bool.false_eq_true, if_false]
    refine hbad ?_
    unfold amtV amtO
    have : a.data.toList = [] := List.length_eq_zero_iff.1 (by omega)
    rw [this]
    rfl
end Go.Proofs.YtabmfhnhmoiljaaGreatDoor.U

/- Fields: how the program writes texts in line. -/
namespace Go.Proofs.YtabmfhnhmoiljaaGreatDoor.U
open Go Go.RowKit Go.Proofs.YtabmfhnhmoiljaaGreatDoor.Q Go.Proofs.YtabmfhnhmoiljaaGreatDoorW.PrintWords Go.Proofs.YtabmfhnhmoiljaaGreatDoorW.PrintLast Go.Proofs.YtabmfhnhmoiljaaGreatDoorW.PrintMore
set_option linter.unusedVariables false
set_option linter.unusedSimpArgs false

theorem w00 : wrap64 (0 - 1) = -1 := by rw [wid (n := 0 - 1) (by decide) (by decide)]; rfl
theorem w10 : wrap64 (1 - 1) = 0 := by rw [wid (n := 1 - 1) (by decide) (by decide)]; rfl
theorem w21 : wrap64 (2 - 1) = 1 := by rw [wid (n := 2 - 1) (by decide) (by decide)]; rfl
theorem number_end (n : Int) (l : List Int) : Ev (fun k => impl_number.l0 k n l (-1)) (strOfNums l) := Ev.step (fun k => by rw [impl_number.l0, if_neg (by decide)]) (Ev.now _)
theorem number1_ev (n : Int) : Ev (fun k => impl_number.f k n 1) (strOfNums [n % 256]) := by
  unfold impl_number.f
  simp only [if_pos (show (0 : Int) ≤ 1 by omega), if_pos (show (1 : Int).toNat ≤ 281474976710656 by decide), w10, show List.replicate (1 : Int).toNat (0 : Int) = [0] from rfl]
  refine Ev.step (fun k => ?_) (number_end (n / 256) [n % 256])
  rw [impl_number.l0, if_pos (by decide), if_pos (by decide), if_pos (by decide), w00]
  rfl
theorem number2_ev (n : Int) : Ev (fun k => impl_number.f k n 2) (strOfNums [n / 256 % 256, n % 256]) := by
  unfold impl_number.f
  simp only [if_pos (show (0 : Int) ≤ 2 by omega), if_pos (show (2 : Int).toNat ≤ 281474976710656 by decide), w21, show List.replicate (2 : Int).toNat (0 : Int) = [0, 0] from rfl]
  refine Ev.step (f := fun k => impl_number.l0 k (n / 256) [0, n % 256] 0) (fun k => ?_) (Ev.step (fun k => ?_) (number_end (n / 256 / 256) [n / 256 % 256, n % 256]))
  · rw [impl_number.l0, if_pos (by decide), if_pos (by decide), if_pos (by decide), w10]
    rfl
  · rw [impl_number.l0, if_pos (by decide), if_pos (by decide), if_pos (by simp), w00]
    rfl
/-- One text behind its length. -/
def fieldV (t : ByteArray) : ByteArray := strOfNums [(t.size : Int) / 256 % 256, (t.size : Int) % 256] ++ t
def restV : List ByteArray → ByteArray
  | [] => ByteArray.empty
  | t :: ts => fieldV t ++ restV ts
def fieldsV (l : List ByteArray) : ByteArray := strOfNums [(l.length : Int) % 256] ++ restV l
theorem nums_size (l : List Int) : (strOfNums l).size = l.length := by simp [strOfNums, ByteArray.size]
theorem fields_go (l : List ByteArray) (M : Nat) (hl : l.length ≤ 1000) (hM : M ≤ 4611686018427387904) (hx : ∀ x ∈ l, x.size ≤ 1048576) : ∀ (d i : Nat) (o : ByteArray), i + d = l.length → o.size ≤ i * 1048580 + 1048580 →
    Ev (fun k => impl_fields.l0 k o l (l.length : Int) (i : Int)) (o ++ restV (l.drop i)) := by
  intro d
  induction d with
  | zero =>
    intro i o hi ho
    refine Ev.step (fun k => ?_) (Ev.now _)
    rw [impl_fields.l0, if_neg (by omega), List.drop_of_length_le (by omega)]
    simp [restV]
  | succ d ih =>
    intro i o hi ho
    have hlt : i < l.length := by omega
    have hr : rdOf ByteArray.empty l (i : Int) = l[i] := by simp [rdOf, List.getD_eq_getElem?_getD, List.getElem?_eq_getElem hlt]
    have hs := hx _ (List.getElem_mem hlt)
    refine Ev.step (f := fun k => (impl_number.f k (l[i].size : Int) 2).bind fun t => if t.size + l[i].size ≤ 9223372036854775807 then (if o.size + (t ++ l[i]).size ≤ 9223372036854775807 then impl_fields.l0 k (o ++ (t ++ l[i])) l (l.length : Int) ((i + 1 : Nat) : Int) else none) else none) (fun k => ?_) ?_
    · rw [impl_fields.l0, if_pos (by omega), if_pos (by omega), if_pos (by omega), hr, wid (n := (i : Int) + 1) (by omega) (by omega)]
      rfl
    · refine Ev.bind (number2_ev _) ?_
      have h1 : (strOfNums [(l[i].size : Int) / 256 % 256, (l[i].size : Int) % 256]).size = 2 := by rw [nums_size]; rfl
      have h2 : (strOfNums [(l[i].size : Int) / 256 % 256, (l[i].size : Int) % 256] ++ l[i]).size = 2 + l[i].size := by rw [ByteArray.size_append, h1]
      simp only [h1, h2, if_pos (show 2 + l[i].size ≤ 9223372036854775807 by omega), if_pos (show o.size + (2 + l[i].size) ≤ 9223372036854775807 by omega)]
      have h3 := ih (i + 1) (o ++ fieldV l[i]) (by omega) (by rw [ByteArray.size_append]; show o.size + (fieldV l[i]).size ≤ _; unfold fieldV; rw [h2]; omega)
      rw [List.drop_eq_getElem_cons hlt, restV]
      rw [ByteArray.append_assoc] at h3
      exact h3
theorem fields_ev (l : List ByteArray) (hl : l.length ≤ 1000) (hx : ∀ x ∈ l, x.size ≤ 1048576) : Ev (fun k => impl_fields.f k l) (fieldsV l) := by
  unfold impl_fields.f fieldsV
  refine Ev.bind (number1_ev _) ?_
  have := fields_go l 0 hl (by omega) hx l.length 0 (strOfNums [(l.length : Int) % 256]) (by omega) (by rw [nums_size]; simp)
  simpa using this
end Go.Proofs.YtabmfhnhmoiljaaGreatDoor.U

/- Fields that are read back from a text: as the program and as the reference read them. -/
namespace Go.Proofs.YtabmfhnhmoiljaaGreatDoor.U
open Go Go.RowKit Go.Proofs.YtabmfhnhmoiljaaGreatDoor.Q Go.Proofs.YtabmfhnhmoiljaaGreatDoorW.PrintWords Go.Proofs.YtabmfhnhmoiljaaGreatDoorW.PrintLast Go.Proofs.YtabmfhnhmoiljaaGreatDoorW.PrintMore
set_option linter.unusedVariables false
set_option linter.unusedSimpArgs false

theorem size_data (a : ByteArray) : a.data.toList.length = a.size := by rw [Array.length_toList]; rfl
theorem ext_list {a b : ByteArray} (h : a.data.toList = b.data.toList) : a = b := ByteArray.ext (Array.toList_inj.mp h)
theorem extract_list (a : ByteArray) (i j : Nat) : (a.extract i j).data.toList = (a.data.toList.take j).drop i := by
  rw [ByteArray.data_extract, Array.toList_extract]
  simp [List.extract_eq_take_drop, List.drop_take]
theorem bt_list (a : ByteArray) (i : Nat) (h : i < a.size) : bt a (i : Int) = ((a.data.toList.getD i 0).toNat : Int) := by
  unfold bt
  rw [dif_pos (by simpa using h), List.getD_eq_getElem?_getD, List.getElem?_eq_getElem (by rw [size_data]; exact h)]
  simp
  rfl
theorem size_ext (a : ByteArray) (i j : Nat) : (a.extract i j).size = min j a.size - i := by
  rw [← size_data, extract_list, List.length_drop, List.length_take, size_data]
theorem ext_ext (a : ByteArray) (p i j : Nat) : (a.extract p a.size).extract i j = a.extract (p + i) (p + j) := by
  apply ext_list
  rw [extract_list, extract_list, extract_list, List.take_of_length_le (i := a.size) (by rw [size_data]; exact Nat.le_refl _)]
  rw [List.take_drop, List.drop_drop]
theorem ext_cap (a : ByteArray) (i j : Nat) (h : a.size ≤ j) : a.extract i j = a.extract i a.size := by
  apply ext_list
  rw [extract_list, extract_list, List.take_of_length_le (by rw [size_data]; exact h), List.take_of_length_le (by rw [size_data]; exact Nat.le_refl _)]
theorem bt_ext (a : ByteArray) (p j i : Nat) (h : p + i < min j a.size) : bt (a.extract p j) (i : Int) = bt a ((p + i : Nat) : Int) := by
  rw [bt_list _ _ (by rw [size_ext]; omega), bt_list _ _ (by omega), extract_list]
  congr 2
  rw [List.getD_eq_getElem?_getD, List.getD_eq_getElem?_getD, List.getElem?_drop, List.getElem?_take, if_pos (by omega)]

/-- The first two bytes' number. -/
def hd2 (s : ByteArray) : Nat := (bt s 0 * 256 + bt s 1).toNat
def readN : Nat → ByteArray → Option (List ByteArray)
  | 0, s => if s.size = 0 then some [] else none
  | n + 1, s => if s.size < 2 then none else if 1000 < hd2 s then none else if s.size < 2 + hd2 s then none else (readN n (s.extract (2 + hd2 s) s.size)).map (s.extract 2 (2 + hd2 s) :: ·)
def readV (a : ByteArray) : Option (List ByteArray) := if a.size = 0 then none else if 40 < bt a 0 then none else readN (bt a 0).toNat (a.extract 1 a.size)
/-- What a reader answers. -/
def readR (x : List ByteArray) (out : List ByteArray) : Option (List ByteArray) → List ByteArray × Bool
  | some l => (out ++ l, true)
  | none => (x, false)

theorem hd2_bd (s : ByteArray) : hd2 s ≤ 65535 ∧ ((hd2 s : Nat) : Int) = bt s 0 * 256 + bt s 1 := by
  have h0 := bt_range s 0
  have h1 := bt_range s 1
  unfold hd2
  omega
theorem numberOf_ev (s : ByteArray) (h : s.size = 2) : Ev (fun k => impl_numberOf.f k s) (hd2 s : Int) := by
  have h0 := bt_range s 0
  have h1 := bt_range s 1
  rw [(hd2_bd s).2]
  unfold impl_numberOf.f
  rw [show ((s.size : Nat) : Int) = 2 by omega]
  refine Ev.step (f := fun k => impl_numberOf.l0 k s (bt s 0) 2 1) (fun k => ?_) (Ev.step (f := fun k => impl_numberOf.l0 k s (bt s 0 * 256 + bt s 1) 2 2) (fun k => ?_) (Ev.step (fun k => ?_) (Ev.now _)))
  · rw [impl_numberOf.l0, if_pos (by decide), if_pos (by decide), if_pos (by omega)]
    rw [wid (n := 0 * 256) (by decide) (by decide), wid (n := bt s 0) (by omega) (by omega), wid (by omega) (by omega), wid (n := 0 + 1) (by decide) (by decide)]
    congr 1; omega
  · rw [impl_numberOf.l0, if_pos (by decide), if_pos (by decide), if_pos (by omega)]
    rw [wid (n := bt s 0 * 256) (by omega) (by omega), wid (n := bt s 1) (by omega) (by omega), wid (by omega) (by omega), wid (n := 1 + 1) (by decide) (by decide)]
    rfl
  · rw [impl_numberOf.l0, if_neg (by decide)]
set_option maxHeartbeats 2000000 in
theorem readFields_go (N : Nat) (hN : N ≤ 40) : ∀ (d i : Nat) (out : List ByteArray) (s : ByteArray), i + d = N → out.length ≤ i → s.size ≤ 9223372036854000000 →
    ∃ x, Ev (fun k => impl_readFields.l0 k out s (N : Int) (i : Int)) (readR x out (readN d s)) := by
  intro d
  induction d with
  | zero =>
    intro i out s hi ho hs
    refine ⟨out, Ev.step (fun k => ?_) (Ev.now _)⟩
    rw [impl_readFields.l0, if_neg (by omega), readN]
    by_cases h : s.size = 0
    · have e : s.toList = [] := by rw [ByteArray.toList_eq]; exact List.length_eq_zero_iff.1 (by rw [size_data]; exact h)
      rw [if_pos h, e]
      simp [readR]
    · have e : (s.toList == []) = false := by
        rw [beq_eq_false_iff_ne]
        intro e
        rw [ByteArray.toList_eq] at e
        apply h
        rw [← size_data, e]; rfl
      rw [if_neg h, e]
      rfl
  | succ d ih =>
    intro i out s hi ho hs
    have hb := hd2_bd s
    rw [readN]
    by_cases h1 : s.size < 2
    · refine ⟨[], ?_⟩
      rw [if_pos h1]
      refine Ev.step (fun k => ?_) (Ev.now _)
      rw [impl_readFields.l0, if_pos (by omega), if_pos (by omega)]
      rfl
    rw [if_neg h1]
    have hz : (s.extract 0 2).size = 2 := by rw [size_ext]; omega
    have e2 : hd2 (s.extract 0 2) = hd2 s := by
      unfold hd2
      have a0 := bt_ext s 0 2 0 (by omega)
      have a1 := bt_ext s 0 2 1 (by omega)
      simp only [Nat.zero_add] at a0 a1
      rw [show ((0 : Nat) : Int) = 0 from rfl] at a0
      rw [show ((1 : Nat) : Int) = 1 from rfl] at a1
      rw [a0, a1]
    have hn := numberOf_ev (s.extract 0 2) hz
    rw [e2] at hn
    clear e2 hz
    generalize hd2 s = m at *
    have key : ∀ (x : List ByteArray) (r : List ByteArray × Bool), Ev (fun k => if (m : Int) > 1000 then (some (([] : List ByteArray), false)) else (if (s.size : Int) < 2 + (m : Int) then (some (([] : List ByteArray), false)) else impl_readFields.l0 k (out ++ [s.extract 2 (2 + m)]) (s.extract (2 + m) s.size) (N : Int) ((i + 1 : Nat) : Int))) r →
        Ev (fun k => impl_readFields.l0 k out s (N : Int) (i : Int)) r := by
      intro x r hr
      refine Ev.step (f := fun k => (impl_numberOf.f k (s.extract 0 2)).bind fun t => if t > 1000 then (some (([] : List ByteArray), false)) else (if (s.size : Int) < (wrap64 (2 + t)) then (some (([] : List ByteArray), false)) else (if 2 ≤ (wrap64 (2 + t)) then (if (wrap64 (2 + t)) ≤ (s.size : Int) then (if out.length < 8796093022208 then (if 0 ≤ (wrap64 (2 + t)) then (impl_readFields.l0 k (out ++ [s.extract 2 ((wrap64 (2 + t)) : Int).toNat]) (s.extract ((wrap64 (2 + t)) : Int).toNat s.size) (N : Int) (wrap64 ((i : Int) + 1))) else (none)) else (none)) else (none)) else (none)))) (fun k => ?_) (Ev.bind hn ?_)
      · rw [impl_readFields.l0, if_pos (by omega), if_neg (by omega), if_pos (by decide), if_pos (by omega)]
      · have ew : wrap64 (2 + (m : Int)) = 2 + (m : Int) := wid (by omega) (by omega)
        have ei : wrap64 ((i : Int) + 1) = ((i + 1 : Nat) : Int) := by rw [wid (by omega) (by omega)]; rfl
        rw [ew, ei]
        refine Ev.congr (fun k => ?_) hr
        by_cases c1 : (m : Int) > 1000
        · rw [if_pos c1, if_pos c1]
        rw [if_neg c1, if_neg c1]
        by_cases c2 : (s.size : Int) < 2 + (m : Int)
        · rw [if_pos c2, if_pos c2]
        rw [if_neg c2, if_neg c2, if_pos (by omega), if_pos (by omega), if_pos (by omega), if_pos (by omega)]
        rw [show (2 + (m : Int)).toNat = 2 + m by omega]
    by_cases h2 : 1000 < m
    · rw [if_pos h2]
      exact ⟨[], key [] _ (by simp only [if_pos (show (m : Int) > 1000 by omega)]; exact Ev.now _)⟩
    rw [if_neg h2]
    by_cases h3 : s.size < 2 + m
    · rw [if_pos h3]
      exact ⟨[], key [] _ (by simp only [if_neg (show ¬ (m : Int) > 1000 by omega), if_pos (show (s.size : Int) < 2 + (m : Int) by omega)]; exact Ev.now _)⟩
    rw [if_neg h3]
    obtain ⟨x, hx⟩ := ih (i + 1) (out ++ [s.extract 2 (2 + m)]) (s.extract (2 + m) s.size) (by omega) (by rw [List.length_append, List.length_singleton]; omega) (by rw [size_ext]; omega)
    refine ⟨x, key x _ ?_⟩
    simp only [if_neg (show ¬ (m : Int) > 1000 by omega), if_neg (show ¬ (s.size : Int) < 2 + (m : Int) by omega)]
    have e : readR x (out ++ [s.extract 2 (2 + m)]) (readN d (s.extract (2 + m) s.size)) = readR x out ((readN d (s.extract (2 + m) s.size)).map (s.extract 2 (2 + m) :: ·)) := by
      cases readN d (s.extract (2 + m) s.size) with
      | none => rfl
      | some l => simp [readR]
    rw [← e]
    exact hx
theorem toList_nil_iff (a : ByteArray) : a.toList = ([] : List UInt8) ↔ a.size = 0 := by
  rw [ByteArray.toList_eq]
  constructor
  · intro h; rw [← size_data, h]; rfl
  · intro h; exact List.length_eq_zero_iff.1 (by rw [size_data]; exact h)
theorem readFields_ev (a : ByteArray) (hs : a.size ≤ 9223372036854000000) : ∃ x, Ev (fun k => impl_readFields.f k a) (readR x [] (readV a)) := by
  have h0 := bt_range a 0
  unfold impl_readFields.f readV
  by_cases h1 : a.size = 0
  · refine ⟨[], ?_⟩
    simp only [if_pos ((toList_nil_iff a).2 h1), if_pos h1]
    exact Ev.step (fun k => by rw [impl_readFields.j0, if_pos rfl]; rfl) (Ev.now _)
  simp only [if_neg (mt (toList_nil_iff a).1 h1), if_neg h1, if_pos (show (0 : Int) < (a.size : Int) by omega)]
  by_cases h2 : 40 < bt a 0
  · refine ⟨[], ?_⟩
    simp only [if_pos h2, decide_eq_true (show bt a 0 > 40 from h2)]
    exact Ev.step (fun k => by rw [impl_readFields.j0, if_pos rfl]; rfl) (Ev.now _)
  simp only [if_neg h2, decide_eq_false (show ¬ bt a 0 > 40 from h2)]
  obtain ⟨x, hx⟩ := readFields_go (bt a 0).toNat (by omega) (bt a 0).toNat 0 [] (a.extract 1 a.size) (by omega) (by simp) (by rw [size_ext]; omega)
  refine ⟨x, Ev.step (fun k => ?_) hx⟩
  rw [impl_readFields.j0, if_neg (by decide), if_pos (by omega), if_pos (by omega), wid (n := bt a 0) (by omega) (by omega), show (((bt a 0).toNat : Nat) : Int) = bt a 0 by omega]
  rfl

set_option maxHeartbeats 2000000 in
theorem l02Read_go (a : ByteArray) (hs : a.size ≤ 9223372036854000000) : ∀ (d p : Nat) (out : List ByteArray), d ≤ 40 → out.length + d ≤ 40 → p ≤ a.size →
    ∃ x, Ev (fun k => spec_l02Read.l0 k a out (p : Int) (d : Int)) (readR x out (readN d (a.extract p a.size))) := by
  intro d
  induction d with
  | zero =>
    intro p out hd ho hp
    rw [readN, size_ext]
    by_cases h : p = a.size
    · rw [if_pos (by omega)]
      refine ⟨[], Ev.step (fun k => ?_) (Ev.now _)⟩
      rw [spec_l02Read.l0, if_neg (by decide), if_pos (by omega)]
      simp [readR]
    · rw [if_neg (by omega)]
      refine ⟨[], Ev.step (fun k => ?_) (Ev.now _)⟩
      rw [spec_l02Read.l0, if_neg (by decide), if_neg (by omega)]
      rfl
  | succ d ih =>
    intro p out hd ho hp
    have hsz : (a.extract p a.size).size = a.size - p := by rw [size_ext]; omega
    rw [readN, hsz]
    by_cases h1 : a.size - p < 2
    · rw [if_pos h1]
      refine ⟨[], Ev.step (fun k => ?_) (Ev.now _)⟩
      rw [spec_l02Read.l0, if_pos (by omega), wid (n := (p : Int) + 2) (by omega) (by omega), if_pos (by omega)]
      rfl
    rw [if_neg h1]
    have hb := hd2_bd (a.extract p a.size)
    have b0 := bt_ext a p a.size 0 (by omega)
    have b1 := bt_ext a p a.size 1 (by omega)
    have r0 := bt_range a (p : Int)
    have r1 := bt_range a ((p + 1 : Nat) : Int)
    have em : bt a (p : Int) * 256 + bt a ((p + 1 : Nat) : Int) = (hd2 (a.extract p a.size) : Int) := by
      rw [hb.2]
      have e0 : bt (a.extract p a.size) 0 = bt a (p : Int) := b0
      have e1 : bt (a.extract p a.size) 1 = bt a ((p + 1 : Nat) : Int) := b1
      rw [e0, e1]
    generalize hm : hd2 (a.extract p a.size) = m at *
    have ep1 : (p : Int) + 1 = ((p + 1 : Nat) : Int) := by omega
    have key : ∀ k, spec_l02Read.l0 (k + 1) a out (p : Int) ((d + 1 : Nat) : Int) = if 1000 < m then some (([] : List ByteArray), false) else if a.size < p + 2 + m then some (([] : List ByteArray), false) else spec_l02Read.l0 k a (out ++ [a.extract (p + 2) (p + 2 + m)]) ((p + 2 + m : Nat) : Int) (d : Int) := by
      intro k
      rw [spec_l02Read.l0, if_pos (by omega), wid (n := (p : Int) + 2) (by omega) (by omega), if_neg (by omega), if_pos (by omega), if_pos (by omega), wid (n := (p : Int) + 1) (by omega) (by omega), if_pos (by omega), if_pos (by omega),
        wid (n := bt a (p : Int)) (by omega) (by omega), ep1, wid (n := bt a ((p + 1 : Nat) : Int)) (by omega) (by omega), wid (n := bt a (p : Int) * 256) (by omega) (by omega), em, wid (n := (m : Int)) (by omega) (by omega)]
      by_cases c1 : 1000 < m
      · rw [if_pos (by omega), if_pos c1]
      rw [if_neg (by omega), if_neg c1, wid (n := (p : Int) + 2 + (m : Int)) (by omega) (by omega)]
      by_cases c2 : a.size < p + 2 + m
      · rw [if_pos (by omega), if_pos c2]
      rw [if_neg (by omega), if_neg c2, if_pos (by omega), if_pos (by omega), if_pos (by omega), if_pos (by omega), wid (n := 2 + (m : Int)) (by omega) (by omega), wid (n := (p : Int) + (2 + (m : Int))) (by omega) (by omega), wid (by omega) (by omega)]
      rw [show ((p : Int) + 2).toNat = p + 2 by omega, show ((p : Int) + 2 + (m : Int)).toNat = p + 2 + m by omega, show (p : Int) + (2 + (m : Int)) = ((p + 2 + m : Nat) : Int) by omega, show (((d + 1 : Nat) : Int) - 1) = (d : Int) by omega]
    by_cases h2 : 1000 < m
    · rw [if_pos h2]
      exact ⟨[], Ev.step (fun k => by rw [key k, if_pos h2]; rfl) (Ev.now _)⟩
    rw [if_neg h2]
    by_cases h3 : a.size - p < 2 + m
    · rw [if_pos h3]
      exact ⟨[], Ev.step (fun k => by rw [key k, if_neg h2, if_pos (by omega)]; rfl) (Ev.now _)⟩
    rw [if_neg h3]
    obtain ⟨x, hx⟩ := ih (p + 2 + m) (out ++ [a.extract (p + 2) (p + 2 + m)]) (by omega) (by rw [List.length_append, List.length_singleton]; omega) (by omega)
    refine ⟨x, Ev.step (f := fun k => spec_l02Read.l0 k a (out ++ [a.extract (p + 2) (p + 2 + m)]) ((p + 2 + m : Nat) : Int) (d : Int)) (fun k => by rw [key k, if_neg h2, if_neg (by omega)]) ?_⟩
    have ea : (a.extract p a.size).extract 2 (2 + m) = a.extract (p + 2) (p + 2 + m) := by rw [ext_ext, Nat.add_assoc]
    have eb : (a.extract p a.size).extract (2 + m) (a.size - p) = a.extract (p + 2 + m) a.size := by rw [ext_ext, show p + (a.size - p) = a.size by omega, Nat.add_assoc]
    rw [ea, eb]
    have e : readR x (out ++ [a.extract (p + 2) (p + 2 + m)]) (readN d (a.extract (p + 2 + m) a.size)) = readR x out ((readN d (a.extract (p + 2 + m) a.size)).map (a.extract (p + 2) (p + 2 + m) :: ·)) := by
      cases readN d (a.extract (p + 2 + m) a.size) with
      | none => rfl
      | some l => simp [readR]
    rw [← e]
    exact hx
theorem l02Read_ev (a : ByteArray) (hs : a.size ≤ 9223372036854000000) : ∃ x, Ev (fun k => spec_l02Read.f k a) (readR x [] (readV a)) := by
  have h0 := bt_range a 0
  unfold spec_l02Read.f readV
  simp only [Option.bind_some]
  by_cases h1 : a.size = 0
  · refine ⟨[], ?_⟩
    simp only [if_pos ((toList_nil_iff a).2 h1), if_pos h1]
    exact Ev.step (fun k => by rw [spec_l02Read.j0, if_pos rfl]; rfl) (Ev.now _)
  simp only [if_neg (mt (toList_nil_iff a).1 h1), if_neg h1, if_pos (show (0 : Int) < (a.size : Int) by omega)]
  by_cases h2 : 40 < bt a 0
  · refine ⟨[], ?_⟩
    simp only [if_pos h2, decide_eq_true (show bt a 0 > 40 from h2)]
    exact Ev.step (fun k => by rw [spec_l02Read.j0, if_pos rfl]; rfl) (Ev.now _)
  simp only [if_neg h2, decide_eq_false (show ¬ bt a 0 > 40 from h2)]
  obtain ⟨x, hx⟩ := l02Read_go a hs (bt a 0).toNat 1 [] (by omega) (by simp; omega) (by omega)
  refine ⟨x, Ev.step (fun k => ?_) hx⟩
  rw [spec_l02Read.j0, if_neg (by decide), if_pos (by omega), wid (n := bt a 0) (by omega) (by omega), show (((bt a 0).toNat : Nat) : Int) = bt a 0 by omega]
  rfl

/-! ### what is read is written so -/
theorem ofNat_nat (c : UInt8) (n : Int) (h : n = (c.toNat : Int)) : UInt8.ofNat n.toNat = c := by
  subst h
  simp
theorem restV_of (n : Nat) : ∀ (s : ByteArray) (l : List ByteArray), readN n s = some l → s = restV l ∧ l.length = n ∧ ∀ x ∈ l, x.size ≤ 1000 := by
  induction n with
  | zero =>
    intro s l h
    rw [readN] at h
    split at h
    · rename_i h0
      injection h with h
      subst h
      exact ⟨ext_list (List.length_eq_zero_iff.1 (by rw [size_data]; exact h0)), rfl, by simp⟩
    · cases h
  | succ n ih =>
    intro s l h
    rw [readN] at h
    split at h
    · cases h
    rename_i h1
    split at h
    · cases h
    rename_i h2
    split at h
    · cases h
    rename_i h3
    obtain ⟨l', h4, rfl⟩ := Option.map_eq_some_iff.1 h
    obtain ⟨e1, e2, e3⟩ := ih _ _ h4
    have hsz : (s.extract 2 (2 + hd2 s)).size = hd2 s := by rw [size_ext]; omega
    refine ⟨?_, by rw [List.length_cons, e2], ?_⟩
    · rw [restV, ← e1]
      have hb := hd2_bd s
      have r0 := bt_range s 0
      have r1 := bt_range s 1
      have b0 := bt_list s 0 (by omega)
      have b1 := bt_list s 1 (by omega)
      apply ext_list
      rw [ByteArray.data_append, Array.toList_append]
      unfold fieldV
      rw [ByteArray.data_append, Array.toList_append, extract_list, extract_list, hsz, List.take_of_length_le (i := s.size) (by rw [size_data]; exact Nat.le_refl _)]
      have hl := size_data s
      match hd : s.data.toList with
      | [] => rw [hd] at hl; simp at hl; omega
      | [_] => rw [hd] at hl; simp at hl; omega
      | c0 :: c1 :: r =>
        rw [hd] at b0 b1
        simp only [List.getD_cons_zero, List.getD_cons_succ] at b0 b1
        have c0b := UInt8.toNat_lt c0
        have c1b := UInt8.toNat_lt c1
        have f0 : bt s 0 = (c0.toNat : Int) := b0
        have f1 : bt s 1 = (c1.toNat : Int) := b1
        have g0 : (hd2 s : Int) / 256 % 256 = (c0.toNat : Int) := by rw [hb.2, f0, f1]; omega
        have g1 : (hd2 s : Int) % 256 = (c1.toNat : Int) := by rw [hb.2, f0, f1]; omega
        rw [g0, g1]
        have hr : (strOfNums [(c0.toNat : Int), (c1.toNat : Int)]).data.toList = [c0, c1] := by simp [strOfNums]
        rw [hr]
        rw [show 2 + hd2 s = hd2 s + 1 + 1 by omega]
        simp
    · intro x hx
      rcases List.mem_cons.1 hx with rfl | hx
      · rw [hsz]; omega
      · exact e3 x hx
theorem readV_of {a : ByteArray} {l : List ByteArray} (h : readV a = some l) : a = fieldsV l ∧ l.length ≤ 40 ∧ ∀ x ∈ l, x.size ≤ 1000 := by
  unfold readV at h
  split at h
  · cases h
  rename_i h1
  split at h
  · cases h
  rename_i h2
  obtain ⟨e1, e2, e3⟩ := restV_of _ _ _ h
  have r0 := bt_range a 0
  have b0 := bt_list a 0 (by omega)
  refine ⟨?_, by omega, e3⟩
  unfold fieldsV
  rw [← e1, e2]
  apply ext_list
  rw [ByteArray.data_append, Array.toList_append, extract_list, List.take_of_length_le (i := a.size) (by rw [size_data]; exact Nat.le_refl _)]
  have hl := size_data a
  match hd : a.data.toList with
  | [] => rw [hd] at hl; simp at hl; omega
  | c0 :: r =>
    rw [hd] at b0
    simp only [List.getD_cons_zero] at b0
    have c0b := UInt8.toNat_lt c0
    have f0 : bt a 0 = (c0.toNat : Int) := b0
    have g0 : (((bt a 0).toNat : Nat) : Int) % 256 = (c0.toNat : Int) := by rw [f0]; omega
    rw [g0]
    have hr : (strOfNums [(c0.toNat : Int)]).data.toList = [c0] := by simp [strOfNums]
    rw [hr]
    simp
end Go.Proofs.YtabmfhnhmoiljaaGreatDoor.U

namespace Go.Proofs.YtabmfhnhmoiljaaGreatDoor.Q
open Go.RowKit Go.Proofs.YtabmfhnhmoiljaaGreatDoorW.PrintWords Go.Proofs.YtabmfhnhmoiljaaGreatDoorW.PrintLast Go.Proofs.YtabmfhnhmoiljaaGreatDoorW.PrintMore
open Go.Proofs.YtabmfhnhmoiljaaGreatDoorW.PrintWords.Aside0 renaming mk → ζa
open Go.Proofs.YtabmfhnhmoiljaaGreatDoorW.PrintWords renaming gate_callee → δv, pw_below_drewN → δi, below_step → δr
open List renaming map_toArray → δd, map_cons → δe, map_nil → δf
open Bool renaming true → τ, false → φ
attribute [local go_sem] max2_int min2_int max_two min_two max_three min_three max_four min_four   -- for this text's walks alone
set_option linter.unusedVariables false
set_option linter.unusedSimpArgs false

/-! ### impl_storeCode: function 62 -/
def impl_storeCode.j0:Nat→List (S51)→Bool→Option (Int)
 | 0,_,_=>none
 | k+1,x0,x5=>if x5=τ then (some 2) else ((impl_StoreOK.f k x0).bind fun t720=>(if t720=τ then (some 0) else (some 1)))
def impl_storeCode.f (k:Nat) (l0:List (S51)) (l1:List ByteArray):Option (Int):=(impl_isList_impl_Pair.f l0).bind fun t718=>(if t718=τ then ((impl_isText.f l1).bind fun t719=>(impl_storeCode.j0 k l0 (!t719))) else (impl_storeCode.j0 k l0 τ))
set_option maxHeartbeats 8000000 in
set_option maxRecDepth 100000 in
theorem impl_storeCode.calls (k:Nat) (A0:Option Addr) (c0:Nat) (l0:List (S51)) (A1:Option Addr) (c1:Nat) (l1:List ByteArray) (r:Int) (w:World) (hr0:Kd.C k51 w A0 l0.length l0) (hc0:l0.length≤c0) (hr1:Kd.C Kd.string w A1 l1.length l1) (hc1:l1.length≤c1) (h:impl_storeCode.f k l0 l1=some r) :
  Calls Tryz.prog 62 #[.slice A0 l0.length c0,.slice A1 l1.length c1] w fun e w'=>e = .returned (.int .i64 r)∧Below w.heap.size w w':=by
 have HR0:=ζa hr0
 have HC0:=ζa hc0
 clear hr0 hc0
 have HR1:=ζa hr1
 have HC1:=ζa hc1
 clear hr1 hc1
 have HB:=ζa (Below.refl w.heap.size w)
 have H:((impl_isList_impl_Pair.f l0).bind fun t718=>(if t718=τ then ((impl_isText.f l1).bind fun t719=>(impl_storeCode.j0 k l0 (!t719))) else (impl_storeCode.j0 k l0 τ)))=some r:=h
 clear h
 have HC3:=ζa H
 clear H
 go_enter Tryz.func62,Tryz.ntmps62
 go_upto_region 1 with (fail)
 go_cut [5] (fun v5 wc => ∃ (kq:Nat) (x5_2:Bool),v5 = .bool x5_2∧Aside0 (impl_storeCode.j0 kq l0 x5_2=some r)∧Aside0 (kq≤k)∧Aside0 (Below w.heap.size w wc))
 case first =>
  have H:=HC3.out
  clear HC3
  replace H:=Option.bind_eq_some_iff.mp H
  obtain ⟨t718,A40,H⟩:=H
  replace H:(if t718=τ then ((impl_isText.f l1).bind fun t719=>(impl_storeCode.j0 k l0 (!t719))) else (impl_storeCode.j0 k l0 τ))=some r:=H
  have A4:=ζa A40
  clear A40
  by_cases c5:t718=τ
  ·
   subst c5
   have H1:((impl_isText.f l1).bind fun t719=>(impl_storeCode.j0 k l0 (!t719)))=some r:=by rw [if_pos rfl] at H;exact H
   clear H
   have H:=H1
   clear H1
   replace H:=Option.bind_eq_some_iff.mp H
   obtain ⟨t719,A60,H⟩:=H
   replace H:(impl_storeCode.j0 k l0 (!t719))=some r:=H
   have A6:=ζa A60
   clear A60
   have H':=ζa H
   clear H
   go_wp2_with (first|((with_reducible refine δv (f:=80) rfl ?_);refine goesL_ (some 7) rfl rfl Tryz.func80 (by kernel_rfl) rfl #[.slice A0 l0.length c0] rfl (by (try simp only [δd,δe,δf]);rfl) ?_;(with_reducible refine (impl_isList_impl_Pair.calls _ _ l0 τ _ ?side1 ?side2 A4.out).mono ?_);(case side1=>repeat (exact (Kd.C_below HR0.out HB.out)));(case side2=>exact HC0.out);rintro e w' ⟨rfl,⟨nd,rfl⟩⟩;refine ⟨_,rfl,?_⟩)|(go_at_call 61;(with_reducible refine (impl_isText.calls _ _ l1 t719 _ ?side1 ?side2 A6.out).mono ?_);(case side1=>repeat (exact (Kd.C_below HR1.out (by repeat ((with_reducible first|exact HB.out|apply δi))))));(case side2=>exact HC1.out);rintro e w' ⟨rfl,⟨nd,rfl⟩⟩))
   go_meet
   case rel=>exact ⟨_,(!t719),(by rfl),H',⟨by omega⟩,⟨by repeat ((with_reducible first|exact HB.out|apply δi))⟩⟩
  ·
   replace c5:=Bool.eq_false_iff.mpr c5
   subst c5
   have H1:(impl_storeCode.j0 k l0 τ)=some r:=by rw [if_neg (show ¬ (φ=τ) by decide)] at H;exact H
   clear H
   have H:=H1
   clear H1
   have H':=ζa H
   clear H
   go_wp2_with (((with_reducible refine δv (f:=80) rfl ?_);refine goesL_ (some 7) rfl rfl Tryz.func80 (by kernel_rfl) rfl #[.slice A0 l0.length c0] rfl (by (try simp only [δd,δe,δf]);rfl) ?_;(with_reducible refine (impl_isList_impl_Pair.calls _ _ l0 φ _ ?side1 ?side2 A4.out).mono ?_);(case side1=>repeat (exact (Kd.C_below HR0.out HB.out)));(case side2=>exact HC0.out);rintro e w' ⟨rfl,⟨nd,rfl⟩⟩;refine ⟨_,rfl,?_⟩))
   go_meet
   case rel=>exact ⟨_,(τ),(by rfl),H',⟨by omega⟩,⟨by repeat ((with_reducible first|exact HB.out|apply δi))⟩⟩
 case rest =>
  clear HC3
  try clear c1
  try clear p2
  try clear c5
  try clear c6
  obtain ⟨kq,x5_2,rfl,HA,HJ2,HB⟩:=hcut
  cases kq with
  | zero=>exact absurd HA.out (by simp [impl_storeCode.j0])
  | succ kj2 =>
   have H:=HA.out
   clear HA
   simp only [impl_storeCode.j0] at H
   by_cases c7:x5_2=τ
   ·
    subst c7
    have H1:(some 2)=some r:=by rw [if_pos rfl] at H;exact H
    clear H
    have H:=H1
    clear H1
    obtain rfl:=Option.some.inj H
    go_wp2
    go_ret
    exact ⟨by rfl,by repeat ((with_reducible exact HB.out))⟩
   ·
    replace c7:=Bool.eq_false_iff.mpr c7
    subst c7
    have H1:((impl_StoreOK.f kj2 l0).bind fun t720=>(if t720=τ then (some 0) else (some 1)))=some r:=by rw [if_neg (show ¬ (φ=τ) by decide)] at H;exact H
    clear H
    have H:=H1
    clear H1
    replace H:=Option.bind_eq_some_iff.mp H
    obtain ⟨t720,A80,H⟩:=H
    replace H:(if t720=τ then (some 0) else (some 1))=some r:=H
    have A8:=ζa A80
    clear A80
    by_cases c9:t720=τ
    ·
     subst c9
     have H1:(some 0)=some r:=by rw [if_pos rfl] at H;exact H
     clear H
     have H:=H1
     clear H1
     obtain rfl:=Option.some.inj H
     go_wp2_with (((with_reducible refine δv (f:=81) rfl ?_);refine goesL_ (some 16) rfl rfl Tryz.func81 (by kernel_rfl) rfl #[.slice A0 l0.length c0] rfl (by (try simp only [δd,δe,δf]);rfl) ?_;(with_reducible refine (impl_StoreOK.calls kj2 _ _ l0 τ _ ?side1 ?side2 A8.out).mono ?_);(case side1=>repeat (exact (Kd.C_below HR0.out HB.out)));(case side2=>exact HC0.out);rintro e w10 ⟨rfl,hb⟩;refine ⟨_,rfl,?_⟩;replace HB:=ζa (δr (by exact HB.out) hb);(try clear hb);(try clear hb2);(try clear hk);(try clear hi)))
     go_ret
     exact ⟨by rfl,by repeat ((with_reducible exact HB.out))⟩
    ·
     replace c9:=Bool.eq_false_iff.mpr c9
     subst c9
     have H1:(some 1)=some r:=by rw [if_neg (show ¬ (φ=τ) by decide)] at H;exact H
     clear H
     have H:=H1
     clear H1
     obtain rfl:=Option.some.inj H
     go_wp2_with (((with_reducible refine δv (f:=81) rfl ?_);refine goesL_ (some 16) rfl rfl Tryz.func81 (by kernel_rfl) rfl #[.slice A0 l0.length c0] rfl (by (try simp only [δd,δe,δf]);rfl) ?_;(with_reducible refine (impl_StoreOK.calls kj2 _ _ l0 φ _ ?side1 ?side2 A8.out).mono ?_);(case side1=>repeat (exact (Kd.C_below HR0.out HB.out)));(case side2=>exact HC0.out);rintro e w11 ⟨rfl,hb⟩;refine ⟨_,rfl,?_⟩;replace HB:=ζa (δr (by exact HB.out) hb);(try clear hb);(try clear hb2);(try clear hk);(try clear hi)))
     go_ret
     exact ⟨by rfl,by repeat ((with_reducible exact HB.out))⟩

end Go.Proofs.YtabmfhnhmoiljaaGreatDoor.Q

/- A store is a row of pairs: its size, its copy, whether it stands, and what is found in it. -/
namespace Go.Proofs.YtabmfhnhmoiljaaGreatDoor.U
open Go Go.RowKit Go.Proofs.YtabmfhnhmoiljaaGreatDoor.Q Go.Proofs.YtabmfhnhmoiljaaGreatDoorW.PrintWords Go.Proofs.YtabmfhnhmoiljaaGreatDoorW.PrintLast Go.Proofs.YtabmfhnhmoiljaaGreatDoorW.PrintMore
set_option linter.unusedVariables false
set_option linter.unusedSimpArgs false

abbrev LP := S49
abbrev IP := S51
def toP (x : LP) : IP := ⟨x.f0, x.f1⟩
theorem rdL (l : List LP) (i : Nat) (h : i < l.length) : rd_T49 l (i : Int) = l[i] := by simp [rd_T49, List.getD_eq_getElem?_getD, List.getElem?_eq_getElem h]
theorem rdI (l : List IP) (i : Nat) (h : i < l.length) : rd_T51 l (i : Int) = l[i] := by simp [rd_T51, List.getD_eq_getElem?_getD, List.getElem?_eq_getElem h]

theorem szPair_ok (a b : ByteArray) (n : Int) (ha : a.size ≤ 9223372036854775807) (hb : b.size ≤ 9223372036854775807) (h0 : 0 ≤ n) (h1 : n ≤ 1048576) :
    ∃ z, laws_szPair.f a b n = some z ∧ (z < 0 ∨ (0 ≤ z ∧ z ≤ n ∧ a.size ≤ 1048576 ∧ b.size ≤ 1048576)) := by
  unfold laws_szPair.f
  rw [wid (n := n - (a.size : Int)) (by omega) (by omega)]
  by_cases c1 : n - (a.size : Int) < 0
  · exact ⟨-1, by rw [if_pos c1], .inl (by decide)⟩
  rw [if_neg c1, wid (n := n - (a.size : Int) - (b.size : Int)) (by omega) (by omega)]
  by_cases c2 : n - (a.size : Int) - (b.size : Int) < 0
  · exact ⟨-1, by rw [if_pos c2], .inl (by decide)⟩
  exact ⟨_, by rw [if_neg c2], .inr (by omega)⟩
/-- All pairs are short. -/
def Short (l : List LP) : Prop := l.length ≤ 1048576 ∧ ∀ x ∈ l, x.f0.size ≤ 1048576 ∧ x.f1.size ≤ 1048576
theorem szPairS_go (l : List LP) (hl : l.length ≤ 1048576) (hx : ∀ x ∈ l, x.f0.size ≤ 9223372036854775807 ∧ x.f1.size ≤ 9223372036854775807) : ∀ (d i : Nat) (n : Int), i + d = l.length → 0 ≤ n → n ≤ 1048576 →
    ∃ z, Ev (fun k => laws_szPairS.l0 k l n (i : Int)) z ∧ (z < 0 ∨ (0 ≤ z ∧ z ≤ n ∧ ∀ x ∈ l.drop i, x.f0.size ≤ 1048576 ∧ x.f1.size ≤ 1048576)) := by
  intro d
  induction d with
  | zero =>
    intro i n hi h0 h1
    refine ⟨n, Ev.step (fun k => ?_) (Ev.now _), .inr ⟨h0, Int.le_refl _, ?_⟩⟩
    · rw [laws_szPairS.l0, if_neg (by omega)]
    · rw [List.drop_of_length_le (by omega)]; simp
  | succ d ih =>
    intro i n hi h0 h1
    have hlt : i < l.length := by omega
    obtain ⟨z1, e1, hz1⟩ := szPair_ok l[i].f0 l[i].f1 n (hx _ (List.getElem_mem hlt)).1 (hx _ (List.getElem_mem hlt)).2 h0 h1
    have hstep : ∀ k, laws_szPairS.l0 (k + 1) l n (i : Int) = if z1 < 0 then some (-1) else laws_szPairS.l0 k l z1 ((i + 1 : Nat) : Int) := by
      intro k
      rw [laws_szPairS.l0, if_pos (by omega), if_pos (by omega), rdL l i hlt, e1, wid (n := (i : Int) + 1) (by omega) (by omega)]
      rfl
    by_cases hn : z1 < 0
    · exact ⟨-1, Ev.step hstep (by simp only [if_pos hn]; exact Ev.now _), .inl (by decide)⟩
    rcases hz1 with hz1 | ⟨hz0, hzn, ha, hb⟩
    · exact absurd hz1 hn
    obtain ⟨z, e2, hz⟩ := ih (i + 1) z1 (by omega) hz0 (by omega)
    refine ⟨z, Ev.step hstep (by simp only [if_neg hn]; exact e2), ?_⟩
    rcases hz with hz | ⟨hz1, hz2, hz3⟩
    · exact .inl hz
    refine .inr ⟨hz1, by omega, ?_⟩
    rw [List.drop_eq_getElem_cons hlt]
    intro x hxm
    rcases List.mem_cons.1 hxm with rfl | hxm
    · exact ⟨ha, hb⟩
    · exact hz3 x hxm
theorem szPairS_ev (l : List LP) (n : Int) (hl : l.length ≤ 9223372036854775807) (hx : ∀ x ∈ l, x.f0.size ≤ 9223372036854775807 ∧ x.f1.size ≤ 9223372036854775807) (h0 : 0 ≤ n) (h1 : n ≤ 1048576) :
    ∃ z, Ev (fun k => laws_szPairS.f k l n) z ∧ (z < 0 ∨ (0 ≤ z ∧ z ≤ n ∧ Short l)) := by
  unfold laws_szPairS.f
  rw [wid (n := n - (l.length : Int)) (by omega) (by omega)]
  by_cases c1 : n - (l.length : Int) < 0
  · exact ⟨-1, by simp only [if_pos c1]; exact Ev.now _, .inl (by decide)⟩
  simp only [if_neg c1]
  obtain ⟨z, e, hz⟩ := szPairS_go l (by omega) hx l.length 0 (n - (l.length : Int)) (by omega) (by omega) (by omega)
  refine ⟨z, e, ?_⟩
  rcases hz with hz | ⟨hz1, hz2, hz3⟩
  · exact .inl hz
  · exact .inr ⟨hz1, by omega, by omega, by simpa using hz3⟩

theorem toPairS_go (l : List LP) (hl : l.length ≤ 1048576) : ∀ (d i : Nat) (o : List IP), i + d = l.length → o.length = l.length → (∀ j, j < i → o[j]? = (l.map toP)[j]?) →
    Ev (fun k => laws_toPairS.l0 k l o (i : Int)) (l.map toP) := by
  intro d
  induction d with
  | zero =>
    intro i o hi ho hj
    have e : o = l.map toP := by
      apply List.ext_getElem?
      intro j
      by_cases h : j < i
      · exact hj j h
      · rw [List.getElem?_eq_none (by omega), List.getElem?_eq_none (by simp; omega)]
    refine Ev.step (fun k => ?_) (Ev.now _)
    rw [laws_toPairS.l0, if_neg (by omega), e]
  | succ d ih =>
    intro i o hi ho hj
    have hlt : i < l.length := by omega
    refine Ev.step (f := fun k => laws_toPairS.l0 k l (o.set i (toP l[i])) ((i + 1 : Nat) : Int)) (fun k => ?_) (ih (i + 1) (o.set i (toP l[i])) (by omega) (by simpa using ho) ?_)
    · rw [laws_toPairS.l0, if_pos (by omega), if_pos (by omega), rdL l i hlt]
      simp only [laws_toPair.f, Option.bind_some]
      rw [if_pos (by omega), wid (n := (i : Int) + 1) (by omega) (by omega)]
      rfl
    · intro j hji
      rw [List.getElem?_set]
      by_cases h : i = j
      · subst h
        rw [if_pos rfl, if_pos (by omega)]
        simp [hlt]
      · rw [if_neg h]
        exact hj j (by omega)
theorem toPairS_ev (l : List LP) (hl : l.length ≤ 1048576) : Ev (fun k => laws_toPairS.f k l) (l.map toP) := by
  unfold laws_toPairS.f
  simp only [if_pos (show (0 : Int) ≤ (l.length : Int) by omega), if_pos (show (l.length : Int).toNat ≤ 8796093022208 by omega)]
  exact toPairS_go l hl l.length 0 _ (by omega) (by simp) (by simp)
theorem eqPair_self (a b : ByteArray) : laws_eqPair.f a b a b = some true := by unfold laws_eqPair.f; rw [if_pos rfl, if_pos rfl]
theorem eqPairS_go (l : List IP) (hl : l.length ≤ 1048576) : ∀ (d i : Nat), i + d = l.length → Ev (fun k => laws_eqPairS.l0 k l l (i : Int)) true := by
  intro d
  induction d with
  | zero =>
    intro i hi
    exact Ev.step (fun k => by rw [laws_eqPairS.l0, if_neg (by omega)]) (Ev.now _)
  | succ d ih =>
    intro i hi
    refine Ev.step (f := fun k => laws_eqPairS.l0 k l l ((i + 1 : Nat) : Int)) (fun k => ?_) (ih (i + 1) (by omega))
    rw [laws_eqPairS.l0, if_pos (by omega), if_pos (by omega), if_pos (by omega), eqPair_self, wid (n := (i : Int) + 1) (by omega) (by omega)]
    rfl
theorem eqPairS_ev (l : List IP) (hl : l.length ≤ 1048576) : Ev (fun k => laws_eqPairS.f k l l) true := by
  unfold laws_eqPairS.f
  simp only [if_true]
  exact eqPairS_go l hl l.length 0 (by omega)

/-! ### whether it stands -/
def keyB (x : ByteArray) : Bool := decide (1 ≤ x.size ∧ x.size ≤ 60)
def valueB (x : ByteArray) : Bool := decide (x.size ≤ 1000)
def lessB (l : List IP) (i : Nat) : Bool := decide (i = 0) || Op.bytesLess ((rd_T51 l ((i : Int) - 1)).f0).toList ((rd_T51 l (i : Int)).f0).toList
def pairB (l : List IP) (i : Nat) : Bool := keyB (rd_T51 l (i : Int)).f0 && (valueB (rd_T51 l (i : Int)).f1 && lessB l i)
def fromB (l : List IP) : Nat → Nat → Bool
  | 0, _ => true
  | d + 1, i => pairB l i && fromB l d (i + 1)
/-- The store stands: keys and values are in their bounds, keys rise, and there are at most 400. -/
def storeB (l : List IP) : Bool := fromB l l.length 0 && decide (l.length ≤ 400)
theorem implKey_eq (x : ByteArray) : impl_isKey.f x = some (keyB x) := by
  unfold impl_isKey.f impl_within.f keyB
  by_cases h : (x.size : Int) ≥ 1
  · simp only [if_pos h, Option.bind_some]; congr 1; rw [decide_eq_decide]; omega
  · simp only [if_neg h, Option.bind_some]; congr 1; rw [eq_comm, decide_eq_false_iff_not]; omega
theorem specKey_eq (x : ByteArray) : spec_l03Key.f x = some (keyB x) := by
  unfold spec_l03Key.f spec_l01In.f keyB
  by_cases h : (x.size : Int) ≥ 1
  · simp only [if_pos h, Option.bind_some]; congr 1; rw [decide_eq_decide]; omega
  · simp only [if_neg h, Option.bind_some]; congr 1; rw [eq_comm, decide_eq_false_iff_not]; omega
theorem implValue_eq (x : ByteArray) : impl_isValue.f x = some (valueB x) := by
  unfold impl_isValue.f valueB; congr 1; rw [decide_eq_decide]; omega
theorem specPair_eq (x y : ByteArray) : spec_l03Pair.f x y = some (keyB x && valueB y) := by
  unfold spec_l03Pair.f valueB
  rw [specKey_eq]
  simp only [Option.bind_some]
  cases keyB x with
  | false => rfl
  | true => simp only [if_true, Bool.true_and]; congr 1; rw [decide_eq_decide]; omega
theorem specStore_go (l : List IP) (hl : l.length ≤ 1048576) : ∀ (d i : Nat), i + d = l.length → Ev (fun k => spec_StoreOK.l0 k l (i : Int)) (fromB l d i) := by
  intro d
  induction d with
  | zero =>
    intro i hi
    exact Ev.step (fun k => by rw [spec_StoreOK.l0, if_neg (by omega)]; rfl) (Ev.now _)
  | succ d ih =>
    intro i hi
    have hstep : ∀ k, spec_StoreOK.l0 (k + 1) l (i : Int) = if pairB l i = true then spec_StoreOK.l0 k l ((i + 1 : Nat) : Int) else some false := by
      intro k
      rw [spec_StoreOK.l0, if_pos (by omega), if_pos (by omega), specPair_eq]
      simp only [Option.bind_some, pairB, lessB]
      rw [wid (n := (i : Int) + 1) (by omega) (by omega)]
      rcases Bool.eq_false_or_eq_true (keyB (rd_T51 l (i : Int)).f0) with hk | hk
      · rcases Bool.eq_false_or_eq_true (valueB (rd_T51 l (i : Int)).f1) with hv | hv
        · simp only [hk, hv, Bool.true_and, Bool.and_self, if_true]
          by_cases h0 : i = 0
          · subst h0; simp
          · rw [if_pos (show (i : Int) > 0 by omega), wid (n := (i : Int) - 1) (by omega) (by omega), if_pos (by omega), if_pos (by omega), decide_eq_false h0, Bool.false_or]
            rfl
        · simp only [hk, hv, Bool.true_and, Bool.and_false, Bool.false_and, Bool.false_eq_true, if_false, if_true]
      · simp only [hk, Bool.false_and, Bool.false_eq_true, if_false]
    have h2 := ih (i + 1) (by omega)
    refine Ev.step hstep ?_
    rw [fromB]
    cases pairB l i with
    | false => exact Ev.now _
    | true => simp only [if_true, Bool.true_and]; exact h2
theorem specStoreOK_ev (l : List IP) (hl : l.length ≤ 1048576) : Ev (fun k => spec_StoreOK.f k l) (storeB l) := by
  unfold spec_StoreOK.f storeB
  by_cases h1 : (l.length : Int) > 4096
  · simp only [if_pos h1, decide_eq_false (show ¬ l.length ≤ 400 by omega), Bool.and_false]; exact Ev.now _
  simp only [if_neg h1]
  by_cases h2 : (l.length : Int) > 400
  · simp only [if_pos h2, decide_eq_false (show ¬ l.length ≤ 400 by omega), Bool.and_false]; exact Ev.now _
  simp only [if_neg h2, decide_eq_true (show l.length ≤ 400 by omega), Bool.and_true]
  exact specStore_go l hl l.length 0 (by omega)
theorem implStore_go (l : List IP) (hl : l.length ≤ 1048576) : ∀ (d i : Nat), i + d = l.length → Ev (fun k => impl_StoreOK.l0 k l l (l.length : Int) (i : Int)) (fromB l d i && decide (l.length ≤ 400)) := by
  intro d
  induction d with
  | zero =>
    intro i hi
    refine Ev.step (fun k => ?_) (Ev.now _)
    rw [impl_StoreOK.l0, if_neg (by omega), fromB, Bool.true_and]
    congr 1; rw [decide_eq_decide]; omega
  | succ d ih =>
    intro i hi
    have hstep : ∀ k, impl_StoreOK.l0 (k + 1) l l (l.length : Int) (i : Int) = if pairB l i = true then impl_StoreOK.l0 k l l (l.length : Int) ((i + 1 : Nat) : Int) else some false := by
      intro k
      rw [impl_StoreOK.l0, if_pos (by omega), if_pos (by omega), if_pos (by omega), implKey_eq, implValue_eq]
      simp only [Option.bind_some, pairB, lessB]
      rw [wid (n := (i : Int) + 1) (by omega) (by omega)]
      rcases Bool.eq_false_or_eq_true (keyB (rd_T51 l (i : Int)).f0) with hk | hk
      · rcases Bool.eq_false_or_eq_true (valueB (rd_T51 l (i : Int)).f1) with hv | hv
        · simp only [hk, hv, Bool.true_and, Bool.and_self, if_true]
          by_cases h0 : i = 0
          · subst h0; simp
          · rw [if_pos (show (i : Int) > 0 by omega), wid (n := (i : Int) - 1) (by omega) (by omega), if_pos (by omega), if_pos (by omega), decide_eq_false h0, Bool.false_or]
            rfl
        · simp only [hk, hv, Bool.true_and, Bool.and_false, Bool.false_and, Bool.false_eq_true, if_false, if_true]
      · simp only [hk, Bool.false_and, Bool.false_eq_true, if_false]
    have h2 := ih (i + 1) (by omega)
    refine Ev.step hstep ?_
    rw [fromB]
    cases pairB l i with
    | false => exact Ev.now _
    | true => simp only [if_true, Bool.true_and]; exact h2
theorem implStoreOK_ev (l : List IP) (hl : l.length ≤ 1048576) : Ev (fun k => impl_StoreOK.f k l) (storeB l) := by
  unfold impl_StoreOK.f storeB
  exact implStore_go l hl l.length 0 (by omega)
/-- The code of a store, no texts being too long. -/
def storeV (l : List IP) : Int := if l.length ≤ 4096 then (if storeB l = true then 0 else 1) else 2
theorem storeCode_ev (l : List IP) (ts : List ByteArray) (hl : l.length ≤ 1048576) :
    Ev (fun k => impl_storeCode.f k l ts) (if l.length ≤ 4096 ∧ (ts.any fun t => decide ((t.size : Int) > 65536)) = false then (if storeB l = true then 0 else 1) else 2) := by
  unfold impl_storeCode.f impl_isList_impl_Pair.f impl_isText.f
  simp only [Option.bind_some]
  have hbad : Ev (fun k => impl_storeCode.j0 k l true) 2 := Ev.step (fun k => by rw [impl_storeCode.j0, if_pos rfl]) (Ev.now _)
  by_cases h1 : l.length ≤ 4096
  · rw [decide_eq_true (show (l.length : Int) ≤ 4096 by omega)]
    simp only [if_true]
    cases h2 : (ts.any fun t => decide ((t.size : Int) > 65536)) with
    | true => simp only [Bool.not_true, Bool.not_false, Bool.true_eq_false, and_false, if_false]; exact hbad
    | false =>
      simp only [Bool.not_false, Bool.not_true, h1, and_true, if_true]
      refine Ev.step (fun k => by rw [impl_storeCode.j0, if_neg (by decide)]) (Ev.bind (implStoreOK_ev l hl) ?_)
      cases storeB l with
      | false => exact Ev.now _
      | true => simp only [if_true]; exact Ev.now _
  · rw [decide_eq_false (show ¬ (l.length : Int) ≤ 4096 by omega), if_neg (by simp [h1])]
    exact hbad
end Go.Proofs.YtabmfhnhmoiljaaGreatDoor.U

/- What is found in a store: the reference's search and the program's take the same steps. -/
namespace Go.Proofs.YtabmfhnhmoiljaaGreatDoor.U
open Go Go.RowKit Go.Proofs.YtabmfhnhmoiljaaGreatDoor.Q Go.Proofs.YtabmfhnhmoiljaaGreatDoorW.PrintWords Go.Proofs.YtabmfhnhmoiljaaGreatDoorW.PrintLast Go.Proofs.YtabmfhnhmoiljaaGreatDoorW.PrintMore
set_option linter.unusedVariables false
set_option linter.unusedSimpArgs false

theorem cmp_neg : ∀ a b : List UInt8, Lib.compareBytes a b < 0 ↔ Op.bytesLess a b = true
  | [], [] => by simp [Lib.compareBytes, Op.bytesLess]
  | [], _ :: _ => by simp [Lib.compareBytes, Op.bytesLess]
  | _ :: _, [] => by simp [Lib.compareBytes, Op.bytesLess]
  | a :: x, b :: y => by
    rw [Lib.compareBytes, Op.bytesLess]
    by_cases h1 : a < b
    · simp [h1]
    · by_cases h2 : b < a
      · have h3 : ¬ a = b := fun e => by subst e; exact h1 h2
        simp [h1, h2, h3]
      · have h3 : a = b := UInt8.le_antisymm (UInt8.not_lt.1 h2) (UInt8.not_lt.1 h1)
        subst h3
        simp [h1, cmp_neg x y]
theorem cmp_zero : ∀ a b : List UInt8, Lib.compareBytes a b = 0 ↔ a = b
  | [], [] => by simp [Lib.compareBytes]
  | [], _ :: _ => by simp [Lib.compareBytes]
  | _ :: _, [] => by simp [Lib.compareBytes]
  | a :: x, b :: y => by
    rw [Lib.compareBytes]
    by_cases h1 : a < b
    · have h3 : ¬ a = b := fun e => by subst e; exact UInt8.lt_irrefl _ h1
      simp [h1, h3]
    · by_cases h2 : b < a
      · have h3 : ¬ a = b := fun e => by subst e; exact h1 h2
        simp [h1, h2, h3]
      · have h3 : a = b := UInt8.le_antisymm (UInt8.not_lt.1 h2) (UInt8.not_lt.1 h1)
        subst h3
        simp [h1, cmp_zero x y]
/-- Where a key's search ends. -/
def atV (l : List IP) (key : ByteArray) : Nat → Nat → Nat → Nat
  | 0, i, _ => i
  | f + 1, i, j => if i < j then (if Op.bytesLess ((rd_T51 l (((i + j) / 2 : Nat) : Int)).f0).toList key.toList = true then atV l key f ((i + j) / 2 + 1) j else atV l key f i ((i + j) / 2)) else i
theorem atV_bd (l : List IP) (key : ByteArray) : ∀ (f i j : Nat), i ≤ j → i ≤ atV l key f i j ∧ atV l key f i j ≤ j
  | 0, i, j, h => ⟨Nat.le_refl _, h⟩
  | f + 1, i, j, h => by
    rw [atV]
    by_cases h1 : i < j
    · rw [if_pos h1]
      split
      · have := atV_bd l key f ((i + j) / 2 + 1) j (by omega); omega
      · have := atV_bd l key f i ((i + j) / 2) (by omega); omega
    · rw [if_neg h1]; omega
theorem specAt_go (l : List IP) (key : ByteArray) (hl : l.length ≤ 1048576) : ∀ (f i j : Nat), j - i < f → i ≤ j → j ≤ l.length → Ev (fun k => spec_l03At.l0 k l key (i : Int) (j : Int)) (atV l key f i j : Int)
  | 0, i, j, h, _, _ => by omega
  | f + 1, i, j, h, hij, hj => by
    rw [atV]
    by_cases h1 : i < j
    · rw [if_pos h1]
      have e1 : wrap64 (Int.tdiv (wrap64 ((i : Int) + (j : Int))) 2) = (((i + j) / 2 : Nat) : Int) := by
        rw [wid (n := (i : Int) + (j : Int)) (by omega) (by omega), tdiv_nn (by omega), wid (by omega) (by omega)]; omega
      have hstep : ∀ k, spec_l03At.l0 (k + 1) l key (i : Int) (j : Int) = if Op.bytesLess ((rd_T51 l (((i + j) / 2 : Nat) : Int)).f0).toList key.toList = true then spec_l03At.l0 k l key (((i + j) / 2 + 1 : Nat) : Int) (j : Int) else spec_l03At.l0 k l key (i : Int) (((i + j) / 2 : Nat) : Int) := by
        intro k
        rw [spec_l03At.l0, if_pos (by omega), e1, if_pos (by omega), if_pos (by omega), wid (n := (((i + j) / 2 : Nat) : Int) + 1) (by omega) (by omega)]
        rfl
      refine Ev.step hstep ?_
      split
      · exact specAt_go l key hl f _ _ (by omega) (by omega) hj
      · exact specAt_go l key hl f _ _ (by omega) (by omega) (by omega)
    · rw [if_neg h1]
      exact Ev.step (fun k => by rw [spec_l03At.l0, if_neg (by omega)]) (Ev.now _)
theorem implAt_go (l : List IP) (key : ByteArray) (hl : l.length ≤ 1048576) : ∀ (f i j : Nat), j - i < f → i ≤ j → j ≤ l.length → Ev (fun k => impl_pairAt.l0 k l key (i : Int) (j : Int)) (atV l key f i j : Int)
  | 0, i, j, h, _, _ => by omega
  | f + 1, i, j, h, hij, hj => by
    rw [atV]
    by_cases h1 : i < j
    · rw [if_pos h1]
      have e1 : ((i : Int) + (j : Int)) / 2 = (((i + j) / 2 : Nat) : Int) := by omega
      have hstep : ∀ k, impl_pairAt.l0 (k + 1) l key (i : Int) (j : Int) = if Op.bytesLess ((rd_T51 l (((i + j) / 2 : Nat) : Int)).f0).toList key.toList = true then impl_pairAt.l0 k l key (((i + j) / 2 + 1 : Nat) : Int) (j : Int) else impl_pairAt.l0 k l key (i : Int) (((i + j) / 2 : Nat) : Int) := by
        intro k
        rw [impl_pairAt.l0, if_pos (by omega), e1, if_pos (by omega), if_pos (by omega), Lib.toList_data, Lib.toList_data]
        by_cases hb : Op.bytesLess ((rd_T51 l (((i + j) / 2 : Nat) : Int)).f0).data.toList key.data.toList = true
        · rw [if_pos hb, if_pos ((cmp_neg _ _).2 hb)]; rfl
        · rw [if_neg hb, if_neg (fun e => hb ((cmp_neg _ _).1 e))]
      refine Ev.step hstep ?_
      split
      · exact implAt_go l key hl f _ _ (by omega) (by omega) hj
      · exact implAt_go l key hl f _ _ (by omega) (by omega) (by omega)
    · rw [if_neg h1]
      exact Ev.step (fun k => by rw [impl_pairAt.l0, if_neg (by omega)]) (Ev.now _)
def atOf (l : List IP) (key : ByteArray) : Nat := atV l key (l.length + 1) 0 l.length
theorem atOf_le (l : List IP) (key : ByteArray) : atOf l key ≤ l.length := (atV_bd l key _ 0 l.length (by omega)).2
theorem specAt_ev (l : List IP) (key : ByteArray) (hl : l.length ≤ 1048576) : Ev (fun k => spec_l03At.f k l key) (atOf l key : Int) := specAt_go l key hl (l.length + 1) 0 l.length (by omega) (by omega) (by omega)
def hitB (l : List IP) (key : ByteArray) : Bool := decide (atOf l key < l.length) && (((rd_T51 l (atOf l key : Int)).f0).toList == key.toList)
theorem implAt_ev (l : List IP) (key : ByteArray) (hl : l.length ≤ 1048576) : Ev (fun k => impl_pairAt.f k l key) ((atOf l key : Int), hitB l key) := by
  unfold impl_pairAt.f
  refine Ev.bind (implAt_go l key hl (l.length + 1) 0 l.length (by omega) (by omega) (by omega)) ?_
  have hle := atOf_le l key
  have e : impl_pairAt.hit l key (atOf l key : Int) = hitB l key := by
    unfold impl_pairAt.hit hitB
    congr 1
    · rw [decide_eq_decide]; omega
    · rw [Lib.toList_data, Lib.toList_data, Bool.eq_iff_iff, beq_iff_eq, beq_iff_eq]
      exact cmp_zero _ _
  rw [show atV l key (l.length + 1) 0 l.length = atOf l key from rfl]
  simp only [if_pos (show (l.length : Int) < 1000000000000 by omega), if_pos (show (0 : Int) ≤ (atOf l key : Int) by omega), if_pos (show (atOf l key : Int) ≤ (l.length : Int) by omega), e]
  exact Ev.now _
/-- What is found, and whether. -/
def getV (l : List IP) (key : ByteArray) : ByteArray × Bool := if hitB l key = true then ((rd_T51 l (atOf l key : Int)).f1, true) else ((⟨#[]⟩ : ByteArray), false)
theorem specGet_ev (l : List IP) (key : ByteArray) (hl : l.length ≤ 1048576) : Ev (fun k => spec_l03Get.f k l key) (getV l key) := by
  unfold spec_l03Get.f getV hitB
  refine Ev.bind (specAt_ev l key hl) ?_
  by_cases h1 : atOf l key < l.length
  · simp only [if_pos (show (atOf l key : Int) < (l.length : Int) by omega), if_pos (show (0 : Int) ≤ (atOf l key : Int) by omega), decide_eq_true h1, Bool.true_and]
    by_cases h2 : ((rd_T51 l (atOf l key : Int)).f0).toList = key.toList
    · simp only [h2, beq_self_eq_true, if_true]; exact Ev.now _
    · simp only [if_neg h2, beq_eq_false_iff_ne.2 h2, Bool.false_eq_true, if_false]; exact Ev.now _
  · simp only [if_neg (show ¬ (atOf l key : Int) < (l.length : Int) by omega), decide_eq_false h1, Bool.false_and, Bool.false_eq_true, if_false]; exact Ev.now _
theorem implGet_ev (l : List IP) (key : ByteArray) (hl : l.length ≤ 1048576) : Ev (fun k => impl_get.f k l key) (getV l key) := by
  unfold impl_get.f getV
  refine Ev.bind (implAt_ev l key hl) ?_
  cases h : hitB l key with
  | false => simp only [Bool.false_eq_true, if_false]; exact Ev.now _
  | true =>
    have h1 : atOf l key < l.length := by
      unfold hitB at h
      rw [Bool.and_eq_true, decide_eq_true_iff] at h
      exact h.1
    simp only [if_true, if_pos (show (0 : Int) ≤ (atOf l key : Int) by omega), if_pos (show (atOf l key : Int) < (l.length : Int) by omega)]
    exact Ev.now _
end Go.Proofs.YtabmfhnhmoiljaaGreatDoor.U

/- Fields that are written are read back; amounts and bounds as both sides read them. -/
namespace Go.Proofs.YtabmfhnhmoiljaaGreatDoor.U
open Go Go.RowKit Go.Proofs.YtabmfhnhmoiljaaGreatDoor.Q Go.Proofs.YtabmfhnhmoiljaaGreatDoorW.PrintWords Go.Proofs.YtabmfhnhmoiljaaGreatDoorW.PrintLast Go.Proofs.YtabmfhnhmoiljaaGreatDoorW.PrintMore
set_option linter.unusedVariables false
set_option linter.unusedSimpArgs false

def someB (n : Int) : Bool := decide (1 ≤ n ∧ n ≤ 1000000000000000000)
def max0 (n : Int) : Int := if 0 ≤ n then n else 0
theorem within_eq (n a b : Int) : impl_within.f n a b = some (decide (a ≤ n ∧ n ≤ b)) := by
  unfold impl_within.f
  by_cases h : n ≥ a
  · rw [if_pos h]; congr 1; rw [decide_eq_decide]; omega
  · rw [if_neg h]; congr 1; rw [eq_comm, decide_eq_false_iff_not]; omega
theorem l01In_eq (n a b : Int) : spec_l01In.f n a b = some (decide (a ≤ n ∧ n ≤ b)) := by
  unfold spec_l01In.f
  by_cases h : n ≥ a
  · rw [if_pos h]; congr 1; rw [decide_eq_decide]; omega
  · rw [if_neg h]; congr 1; rw [eq_comm, decide_eq_false_iff_not]; omega
theorem isSome_eq (n : Int) : impl_isSome.f n = some (someB n) := by unfold impl_isSome.f; rw [within_eq]; rfl
theorem amountText_eq (n : Int) (h0 : 0 ≤ n) (h1 : n ≤ 9223372036854775807) : impl_amountText.f n = some (digV n.toNat) := by
  unfold impl_amountText.f strconv_Itoa.f
  rw [if_pos (by omega), if_pos h1, itoa_eq n h0]
  rfl
theorem readAmount_fst (a : ByteArray) (hs : a.size ≤ 281474976710656) : ∃ b, impl_readAmount.f a = some (max0 (amtV a), b) := by
  rw [readAmount_eq a hs]
  unfold max0
  by_cases h : 0 ≤ amtV a
  · rw [if_pos h, if_pos h]; exact ⟨_, rfl⟩
  · rw [if_neg h, if_neg h]; exact ⟨_, rfl⟩
theorem getV_size (l : List IP) (key : ByteArray) (B : Nat) (h : ∀ x ∈ l, x.f1.size ≤ B) : (getV l key).1.size ≤ B := by
  unfold getV
  split
  · rename_i hh
    unfold hitB at hh
    rw [Bool.and_eq_true, decide_eq_true_iff] at hh
    rw [rdI l _ hh.1]
    exact h _ (List.getElem_mem hh.1)
  · exact Nat.zero_le _
theorem getV_none (l : List IP) (key : ByteArray) (h : (getV l key).2 = false) : (getV l key).1 = ⟨#[]⟩ := by
  unfold getV at *
  split
  · rename_i hh; rw [if_pos hh] at h; cases h
  · rfl
theorem readV_empty : readV (⟨#[]⟩ : ByteArray) = none := by unfold readV; rw [if_pos (by rfl)]

/-! ### what is written is read back -/
theorem ofNums2 (n : Nat) (h : n ≤ 65535) : ∃ a b : UInt8, strOfNums [(n : Int) / 256 % 256, (n : Int) % 256] = ⟨#[a, b]⟩ ∧ (a.toNat : Int) * 256 + b.toNat = n := by
  refine ⟨UInt8.ofNat (n / 256), UInt8.ofNat (n % 256), ?_, ?_⟩
  · have e1 : ((n : Int) / 256 % 256).toNat = n / 256 := by omega
    have e2 : ((n : Int) % 256).toNat = n % 256 := by omega
    simp [strOfNums, e1, e2]
  · rw [UInt8.toNat_ofNat', UInt8.toNat_ofNat']; omega
theorem readN_restV : ∀ (l : List ByteArray), (∀ x ∈ l, x.size ≤ 1000) → readN l.length (restV l) = some l
  | [], _ => by rw [List.length_nil, readN]; rfl
  | x :: xs, h => by
    have hx := h x (by simp)
    obtain ⟨a, b, e, hab⟩ := ofNums2 x.size (by omega)
    have ih := readN_restV xs (fun y hy => h y (by simp [hy]))
    have hl : (restV (x :: xs)).data.toList = a :: b :: (x.data.toList ++ (restV xs).data.toList) := by
      rw [restV, fieldV, e]
      simp
    have hsz : (restV (x :: xs)).size = 2 + x.size + (restV xs).size := by
      rw [← size_data, hl, List.length_cons, List.length_cons, List.length_append, size_data, size_data]; omega
    generalize restV (x :: xs) = s at *
    have b0 := bt_list s 0 (by omega)
    have b1 := bt_list s 1 (by omega)
    rw [hl] at b0 b1
    simp only [List.getD_cons_zero, List.getD_cons_succ] at b0 b1
    have f0 : bt s 0 = (a.toNat : Int) := b0
    have f1 : bt s 1 = (b.toNat : Int) := b1
    have hh : hd2 s = x.size := by
      have := (hd2_bd s).2
      rw [f0, f1, hab] at this
      omega
    rw [List.length_cons, readN, hh, if_neg (by omega), if_neg (by omega), if_neg (by omega)]
    have e1 : s.extract 2 (2 + x.size) = x := by
      apply ext_list
      rw [extract_list, hl, show 2 + x.size = x.size + 1 + 1 by omega]
      simp only [List.take_succ_cons, List.drop_succ_cons, List.drop_zero]
      exact List.take_left' (size_data x)
    have e2 : s.extract (2 + x.size) s.size = restV xs := by
      apply ext_list
      rw [extract_list, List.take_of_length_le (by rw [size_data]; exact Nat.le_refl _), hl, show 2 + x.size = x.size + 1 + 1 by omega]
      simp only [List.drop_succ_cons]
      exact List.drop_left' (size_data x)
    rw [e1, e2, ih]
    rfl
theorem readV_fieldsV (l : List ByteArray) (hl : l.length ≤ 40) (hx : ∀ x ∈ l, x.size ≤ 1000) : readV (fieldsV l) = some l := by
  have hlist : (fieldsV l).data.toList = UInt8.ofNat l.length :: (restV l).data.toList := by
    unfold fieldsV
    have : ((l.length : Int) % 256).toNat = l.length := by omega
    simp [strOfNums, this]
  have hsz : (fieldsV l).size = 1 + (restV l).size := by rw [← size_data, hlist, List.length_cons, size_data]; omega
  have e2 : (fieldsV l).extract 1 (fieldsV l).size = restV l := by
    apply ext_list
    rw [extract_list, List.take_of_length_le (by rw [size_data]; exact Nat.le_refl _), hlist]
    rfl
  have b0 := bt_list (fieldsV l) 0 (by omega)
  rw [hlist] at b0
  simp only [List.getD_cons_zero] at b0
  have f0 : bt (fieldsV l) 0 = (l.length : Int) := by
    refine (show bt (fieldsV l) 0 = _ from b0).trans ?_
    rw [UInt8.toNat_ofNat']; omega
  unfold readV
  rw [if_neg (by omega), f0, if_neg (by omega), e2, Int.toNat_natCast]
  exact readN_restV l hx
theorem fieldsV_inj {l l' : List ByteArray} (hl : l.length ≤ 40) (hx : ∀ x ∈ l, x.size ≤ 1000) (hl' : l'.length ≤ 40) (hx' : ∀ x ∈ l', x.size ≤ 1000) (h : fieldsV l = fieldsV l') : l = l' := by
  have h1 := readV_fieldsV l hl hx
  have h2 := readV_fieldsV l' hl' hx'
  rw [h, h2] at h1
  exact (Option.some.inj h1).symm

end Go.Proofs.YtabmfhnhmoiljaaGreatDoor.U
