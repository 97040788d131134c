/- Parts of the proof: what single Go functions compute, each with its walk, and plain laws over these. -/
import Derived.Test.YtabmfhnhmoiljaaGreatDoorM0
import Derived.Test.YtabmfhnhmoiljaaGreatDoorM2
import Derived.Test.YtabmfhnhmoiljaaGreatDoorM3
import Derived.IntWalk
import Derived.Laws.BitsLemmas
import Derived.Test.YtabmfhnhmoiljaaGreatDoorVMore
import Derived.Test.YtabmfhnhmoiljaaGreatDoorM1
import Derived.Lib.ItoaNum
import Derived.Lib.AtoiAllCases
import Derived.Lib.Strings
import Derived.Lib.Bytealg
import Derived.Sort.Walk0
namespace Go.Proofs.YtabmfhnhmoiljaaGreatDoor.Q
open Go.RowKit Go.Proofs.YtabmfhnhmoiljaaGreatDoorW.PrintWords Go.Proofs.YtabmfhnhmoiljaaGreatDoorW.PrintLast Go.Proofs.YtabmfhnhmoiljaaGreatDoorW.PrintMore
open Go.Proofs.YtabmfhnhmoiljaaGreatDoorW.PrintWords.Aside0 renaming mk → ζa
open Go.Proofs.YtabmfhnhmoiljaaGreatDoorW.PrintWords renaming below_step → δr, below_alloc → δk, gate_dst → δx, box_event → δz, blk_cell → δl, blk_frozen → δm, below_set → δq, blk_put → δw, below_drew1 → δj, pw_below_drewN → δi, blk_alloc → δo, blk_drew → δp, blk_drewN → δn
open Go.Proofs.YtabmfhnhmoiljaaGreatDoorW.PrintWords.Kd renaming R_alloc → ζd, R_drew → ζe, R_drewN → ζc
open Bool renaming true → τ, false → φ
attribute [local go_sem] max2_int min2_int max_two min_two max_three min_three max_four min_four   -- for this text's walks alone
set_option linter.unusedVariables false
set_option linter.unusedSimpArgs false

/-! ### impl_removePool: function 69 -/
theorem impl_removePool.rowS {w:World} {g:Nat} {t:TypeId} (xs:List ByteArray) (hm:xs.length≤1000) (h:w.heap[g]? = some (.cells (xs.map Value.string).toArray t (0,0))):Kd.string.C w (some ⟨g,0,none⟩) xs.length xs:=by
 refine ⟨rfl,by omega,fun _=>⟨_,rfl,fun j p hp=>⟨[Value.string p],rfl,rfl,fun t u hu => ?_⟩⟩⟩
 obtain ⟨rfl,rfl⟩:t=0∧u=Value.string p:=by
  rcases t with _|t
  · simpa using hu.symm
  ·
   simp at hu
 rw [Addr.add_lit,cell_of_row w g _ _ _ (0,0) h]
 have:Kd.string.sz=1:=rfl
 simp [this,hp]
def impl_removePool.f (k:Nat) (name:ByteArray) (list:List S51) (who:ByteArray) (shares:Int):Option (List S51 × Int) :=
 (impl_isPeople.f k ([who])).bind fun q1=>if q1=τ then ((impl_isSome.f shares).bind fun q2=>if q2=τ then ((impl_poolAt.f k list).bind fun q3=>(impl_QuoteRemove.f k q3.1 q3.2.1 q3.2.2 shares).bind fun q4=>if q4.2.2=0 then ((impl_otherName.f name).bind fun q5=>(impl_voucherOf.f q5).bind fun q6=>(impl_all.f k list [(impl_move.F k (⟨#[112,111,111,108]⟩:ByteArray) who name q4.1),(impl_move.F k (⟨#[112,111,111,108]⟩:ByteArray) who q6 q4.2.1),(impl_burn.F k who (⟨#[115,104,97,114,101,115]⟩:ByteArray) shares),(impl_putPool.F k (IntKind.i64.wrap (q3.1 - q4.1)) (IntKind.i64.wrap (q3.2.1 - q4.2.1)) (IntKind.i64.wrap (q3.2.2 - shares)))]).bind fun q7=>some (q7.1,q7.2)) else ((slices_Clone_impl_Pair_impl_Pair.f list).bind fun q8=>some (q8,q4.2.2))) else ((slices_Clone_impl_Pair_impl_Pair.f list).bind fun q9=>some (q9,4))) else ((slices_Clone_impl_Pair_impl_Pair.f list).bind fun q10=>some (q10,4))
set_option maxHeartbeats 4000000 in
set_option maxRecDepth 100000 in
theorem impl_removePool.calls (k:Nat) (name:ByteArray) (A_list:Option Addr) (c_list:Nat) (list:List S51) (who:ByteArray) (shares:Int) (r1:List S51) (r2:Int) (w:World) (hr0_list:Kd.C k51 w A_list list.length list) (hc0_list:list.length≤c_list) (hT0:TabsOK w) (h:impl_removePool.f k name list who shares=some (r1,r2)) :
  Calls Tryz.prog 69 #[.string name,.slice A_list list.length c_list,.string who,.int .i64 shares] w fun e w' => ∃ v0_:Value,e = .returned (.tuple #[v0_,.int .i64 r2])∧Kd.R k51 51 w' w.heap.size (fun _=>True) v0_ r1∧Below w.heap.size w w':=by
 have HR0_list:=ζa hr0_list
 have HC0_list:=ζa hc0_list
 clear hr0_list hc0_list
 have HT0:=ζa hT0
 clear hT0
 have HB0:=ζa (Below.refl w.heap.size w)
 unfold impl_removePool.f at h
 have HH:=ζa h
 clear h
 go_enter Tryz.func69,Tryz.ntmps69
 have h:=HH.out
 clear HH
 obtain ⟨b1,h1_,h⟩:=Option.bind_eq_some_iff.mp h
 have HH:=ζa h
 have H1:=ζa h1_
 clear h h1_
 go_wp2_with fail
 refine (impl_isPeople.calls k _ 1 ([who]) b1 _ (by exact impl_removePool.rowS [who] (by simp) (heap_alloc_new _ _)) (Nat.le_refl _) H1.out).mono ?_
 rintro e w1 ⟨rfl,hd⟩
 have hb:=hd.below
 clear hd
 have m_:=ζa (δr (by repeat (first|exact HB0.out|apply δk)) hb)
 clear hb
 have HB1:=m_
 clear m_
 have h:=HH.out
 clear HH
 cases b1 with
 | true =>
  rw [if_pos rfl] at h
  have HH:=ζa h
  clear h
  have h:=HH.out
  clear HH
  obtain ⟨b2,h3_,h⟩:=Option.bind_eq_some_iff.mp h
  have HH:=ζa h
  have H3:=ζa h3_
  clear h h3_
  go_wp2_with fail
  refine (impl_isSome.calls shares b2 _ H3.out).mono ?_
  rintro e w3 ⟨rfl,hd⟩
  have hb:=hd.below
  clear hd
  have m_:=ζa (δr (by repeat (exact HB1.out)) hb)
  clear hb
  have HB3:=m_
  clear m_
  have h:=HH.out
  clear HH
  cases b2 with
  | true =>
   rw [if_pos rfl] at h
   have HH:=ζa h
   clear h
   have h:=HH.out
   clear HH
   obtain ⟨⟨u0,u1,u2⟩,h5_,h⟩:=Option.bind_eq_some_iff.mp h
   have HH:=ζa h
   have H5:=ζa h5_
   clear h h5_
   go_wp2_with fail
   refine (impl_poolAt.calls k A_list c_list list u0 u1 u2 _ (by repeat (exact Kd.C_below HR0_list.out HB3.out)) HC0_list.out (HT0.out.below (by repeat (exact HB3.out))) H5.out).mono ?_
   rintro e w5 ⟨rfl,hb⟩
   have m_:=ζa (δr (by repeat (exact HB3.out)) hb)
   clear hb
   have HB5:=m_
   clear m_
   have h:=HH.out
   clear HH
   obtain ⟨⟨m1,m2,c0⟩,h8_,h⟩:=Option.bind_eq_some_iff.mp h
   have HH:=ζa h
   have H8:=ζa h8_
   clear h h8_
   go_wp2_with (first|((with_reducible refine δx (N:=10) rfl ?_);refine δz ?hg (N:=10) ?hd (cs:=#[.int .i64 0,.int .i64 0,.int .i64 0]) (t:=109) ?hr ?_;(case hd=>rfl);(case hg=>rfl);(case hr=>(go_simp;done));intro gbp hg w6 hbox hb;have hbc:=δr (show Below w5.heap.size w5 _ from by repeat (exact Below.refl _ _)) hb;have GEp:Aside0 (w5.heap.size≤gbp):=⟨by rw [hg];exact Below.size (show Below w5.heap.size w5 _ from by repeat (exact Below.refl _ _))⟩;have GWp:Aside0 (w.heap.size≤gbp):=⟨Nat.le_trans HB5.out.size GEp.out⟩;have BKZ:=ζa hbox;have HBZ:=ζa hbc;have hzz:=hbox;clear hb hbc hbox hg;have hzp_0:=(δl BKZ.out 0).trans rfl;have hzp_1:=(δl BKZ.out 1).trans rfl;have hzp_2:=(δl BKZ.out 2).trans rfl;have hfp_0:=δm BKZ.out 0;have hfp_1:=δm BKZ.out 1;have hfp_2:=δm BKZ.out 2;clear hzz)|((with_reducible refine gate_store (t:=109) (p:=10) rfl ?_);refine store_event (t:=109) (p:=10) (v:=?vo6) (w1:=(((w6.setCell ⟨gbp,0,none⟩ (.int .i64 u0)).setCell ⟨gbp,1,none⟩ (.int .i64 u1)).setCell ⟨gbp,2,none⟩ (.int .i64 u2))) ?hg ?ho ?hn ?hr ?_;(case ho=>rfl);(case hg=>rfl);(case hn=>rfl);(case hr=>(go_simp;done));intro w7 hw;have hbc:Below w5.heap.size w5 w7:=(by rw [hw];exact (δq (δq (δq HBZ.out GEp.out) GEp.out) GEp.out));have BKp:Aside0 (w7.heap[gbp]? = some (.cells #[.int .i64 u0,.int .i64 u1,.int .i64 u2] 109 (0,0))):=⟨by rw [hw];exact (δw (δw (δw BKZ.out 0 _ rfl) 1 _ rfl) 2 _ rfl)⟩;have HB6:=ζa (δr HB5.out hbc);clear hbc hw BKZ HBZ;clear hzp_0 hfp_0 hzp_1 hfp_1 hzp_2 hfp_2;have hzp_0:=(δl BKp.out 0).trans rfl;have hzp_1:=(δl BKp.out 1).trans rfl;have hzp_2:=(δl BKp.out 2).trans rfl;have hfp_0:=δm BKp.out 0;have hfp_1:=δm BKp.out 1;have hfp_2:=δm BKp.out 2))
   refine (impl_QuoteRemove.calls k u0 u1 u2 shares m1 m2 c0 _ H8.out).mono ?_
   rintro e w8 ⟨rfl,hb⟩
   replace BKp:=ζa (blk_below (by repeat (exact BKp.out)) hb)
   clear hzp_0 hfp_0 hzp_1 hfp_1 hzp_2 hfp_2
   have m_:=ζa (δr (by repeat (exact HB6.out)) hb)
   clear hb
   have HB8:=m_
   clear m_
   have hzp_0:=(δl BKp.out 0).trans rfl
   have hfp_0:=δm BKp.out 0
   have hzp_1:=(δl BKp.out 1).trans rfl
   have hfp_1:=δm BKp.out 1
   have hzp_2:=(δl BKp.out 2).trans rfl
   have hfp_2:=δm BKp.out 2
   have h:=HH.out
   clear HH
   by_cases cc9:c0=0
   ·
    rw [if_pos cc9] at h
    have HH:=ζa h
    clear h
    have f9a:(c0 == 0)=τ:=beq_iff_eq.mpr cc9
    have f9b:(c0 != 0)=φ:=bne_eq_false_iff_eq.mpr cc9
    have C9:=ζa cc9
    clear cc9
    have h:=HH.out
    clear HH
    obtain ⟨x1,h10_,h⟩:=Option.bind_eq_some_iff.mp h
    have HH:=ζa h
    have H10:=ζa h10_
    clear h h10_
    go_wp2_with fail
    refine (impl_otherName.calls name x1 _ H10.out).mono ?_
    rintro e w10 ⟨rfl,hd⟩
    have hb:=hd.below
    clear hd
    replace BKp:=ζa (blk_below (by repeat (exact BKp.out)) hb)
    clear hzp_0 hfp_0 hzp_1 hfp_1 hzp_2 hfp_2
    have m_:=ζa (δr (by repeat (exact HB8.out)) hb)
    clear hb
    have HB10:=m_
    clear m_
    have hzp_0:=(δl BKp.out 0).trans rfl
    have hfp_0:=δm BKp.out 0
    have hzp_1:=(δl BKp.out 1).trans rfl
    have hfp_1:=δm BKp.out 1
    have hzp_2:=(δl BKp.out 2).trans rfl
    have hfp_2:=δm BKp.out 2
    have h:=HH.out
    clear HH
    obtain ⟨v1,h11_,h⟩:=Option.bind_eq_some_iff.mp h
    have HH:=ζa h
    have H11:=ζa h11_
    clear h h11_
    go_wp2_with fail
    refine (impl_voucherOf.calls x1 v1 _ H11.out).mono ?_
    rintro e w11 ⟨rfl,hd⟩
    have hb:=hd.below
    clear hd
    replace BKp:=ζa (blk_below (by repeat (exact BKp.out)) hb)
    clear hzp_0 hfp_0 hzp_1 hfp_1 hzp_2 hfp_2
    have m_:=ζa (δr (by repeat (exact HB10.out)) hb)
    clear hb
    have HB11:=m_
    clear m_
    have hzp_0:=(δl BKp.out 0).trans rfl
    have hfp_0:=δm BKp.out 0
    have hzp_1:=(δl BKp.out 1).trans rfl
    have hfp_1:=δm BKp.out 1
    have hzp_2:=(δl BKp.out 2).trans rfl
    have hfp_2:=δm BKp.out 2
    have h:=HH.out
    clear HH
    obtain ⟨⟨o1,c1⟩,h12_,h⟩:=Option.bind_eq_some_iff.mp h
    have HH:=ζa h
    have H12:=ζa h12_
    clear h h12_
    go_wp2_with fail
    have HBr:=ζa HB11.out
    go_region_held3 (fun w'=>w'.cell? ⟨gbp,0,none⟩=some (.int .i64 u0)∧w'.cell? ⟨gbp,1,none⟩=some (.int .i64 u1)∧w'.cell? ⟨gbp,2,none⟩=some (.int .i64 u2)) (first|go_keep|exact ⟨(δl (by repeat (exact BKp.out)) 0).trans rfl,(δl (by repeat (exact BKp.out)) 1).trans rfl,(δl (by repeat (exact BKp.out)) 2).trans rfl⟩)
     (first
      | (go_at_call 84;(with_reducible refine (impl_move.calls k ((⟨#[112,111,111,108]⟩:ByteArray)) who name m1 _ (HT0.out.below (by repeat (first|exact HBr.out|apply δk|apply δj|apply δi)))).mono ?_);rintro e w13 ⟨g_m,lb_m,rfl,hch,hb⟩;replace BKp:=ζa (blk_below (by repeat (first|exact BKp.out|apply δo|apply δp|apply δn)) hb);(try (replace CH_m:=ζa (CH_m.out.below (δr (by repeat (first|exact Below.refl _ _|apply δk|apply δj|apply δi)) hb))));(try (replace CH_q:=ζa (CH_q.out.below (δr (by repeat (first|exact Below.refl _ _|apply δk|apply δj|apply δi)) hb))));(try (replace CH_b:=ζa (CH_b.out.below (δr (by repeat (first|exact Below.refl _ _|apply δk|apply δj|apply δi)) hb))));(try (replace CH_p:=ζa (CH_p.out.below (δr (by repeat (first|exact Below.refl _ _|apply δk|apply δj|apply δi)) hb))));replace HBr:=ζa (δr (by repeat (first|exact HBr.out|apply δk|apply δj|apply δi)) hb);have CH_m:=ζa hch;have eg_m : ∀ args w,(callFunc g_m args).run Tryz.prog w = .ok (.enter g_m args) w:=hch.enters;clear hch hb)
      | (go_at_call 84;(with_reducible refine (impl_move.calls k ((⟨#[112,111,111,108]⟩:ByteArray)) who v1 m2 _ (HT0.out.below (by repeat (first|exact HBr.out|apply δk|apply δj|apply δi)))).mono ?_);rintro e w14 ⟨g_q,lb_q,rfl,hch,hb⟩;replace BKp:=ζa (blk_below (by repeat (first|exact BKp.out|apply δo|apply δp|apply δn)) hb);(try (replace CH_m:=ζa (CH_m.out.below (δr (by repeat (first|exact Below.refl _ _|apply δk|apply δj|apply δi)) hb))));(try (replace CH_q:=ζa (CH_q.out.below (δr (by repeat (first|exact Below.refl _ _|apply δk|apply δj|apply δi)) hb))));(try (replace CH_b:=ζa (CH_b.out.below (δr (by repeat (first|exact Below.refl _ _|apply δk|apply δj|apply δi)) hb))));(try (replace CH_p:=ζa (CH_p.out.below (δr (by repeat (first|exact Below.refl _ _|apply δk|apply δj|apply δi)) hb))));replace HBr:=ζa (δr (by repeat (first|exact HBr.out|apply δk|apply δj|apply δi)) hb);have CH_q:=ζa hch;have eg_q : ∀ args w,(callFunc g_q args).run Tryz.prog w = .ok (.enter g_q args) w:=hch.enters;clear hch hb)
      | (go_at_call 95;refine (impl_burn.calls k who ((⟨#[115,104,97,114,101,115]⟩:ByteArray)) shares _ (HT0.out.below (by repeat (first|exact HBr.out|apply δk|apply δj|apply δi)))).mono ?_;rintro e w15 ⟨g_b,lb_b,rfl,hch,hb⟩;replace BKp:=ζa (blk_below (by repeat (first|exact BKp.out|apply δo|apply δp|apply δn)) hb);(try (replace CH_m:=ζa (CH_m.out.below (δr (by repeat (first|exact Below.refl _ _|apply δk|apply δj|apply δi)) hb))));(try (replace CH_q:=ζa (CH_q.out.below (δr (by repeat (first|exact Below.refl _ _|apply δk|apply δj|apply δi)) hb))));(try (replace CH_b:=ζa (CH_b.out.below (δr (by repeat (first|exact Below.refl _ _|apply δk|apply δj|apply δi)) hb))));(try (replace CH_p:=ζa (CH_p.out.below (δr (by repeat (first|exact Below.refl _ _|apply δk|apply δj|apply δi)) hb))));replace HBr:=ζa (δr (by repeat (first|exact HBr.out|apply δk|apply δj|apply δi)) hb);have CH_b:=ζa hch;have eg_b : ∀ args w,(callFunc g_b args).run Tryz.prog w = .ok (.enter g_b args) w:=hch.enters;clear hch hb)
      | (go_at_call 125;refine (impl_putPool.calls k (IntKind.i64.wrap (u0 - m1)) (IntKind.i64.wrap (u1 - m2)) (IntKind.i64.wrap (u2 - shares)) _ (HT0.out.below (by repeat (first|exact HBr.out|apply δk|apply δj|apply δi)))).mono ?_;rintro e w16 ⟨g_p,lb_p,rfl,hch,hb⟩;replace BKp:=ζa (blk_below (by repeat (first|exact BKp.out|apply δo|apply δp|apply δn)) hb);(try (replace CH_m:=ζa (CH_m.out.below (δr (by repeat (first|exact Below.refl _ _|apply δk|apply δj|apply δi)) hb))));(try (replace CH_q:=ζa (CH_q.out.below (δr (by repeat (first|exact Below.refl _ _|apply δk|apply δj|apply δi)) hb))));(try (replace CH_b:=ζa (CH_b.out.below (δr (by repeat (first|exact Below.refl _ _|apply δk|apply δj|apply δi)) hb))));(try (replace CH_p:=ζa (CH_p.out.below (δr (by repeat (first|exact Below.refl _ _|apply δk|apply δj|apply δi)) hb))));replace HBr:=ζa (δr (by repeat (first|exact HBr.out|apply δk|apply δj|apply δi)) hb);have CH_p:=ζa hch;have eg_p : ∀ args w,(callFunc g_p args).run Tryz.prog w = .ok (.enter g_p args) w:=hch.enters;clear hch hb)
      | (go_at_call 109;refine (impl_all.calls k A_list c_list list _ _ [(g_m,lb_m),(g_q,lb_q),(g_b,lb_b),(g_p,lb_p)] [(impl_move.F k (⟨#[112,111,111,108]⟩:ByteArray) who name m1),(impl_move.F k (⟨#[112,111,111,108]⟩:ByteArray) who v1 m2),(impl_burn.F k who (⟨#[115,104,97,114,101,115]⟩:ByteArray) shares),(impl_putPool.F k (IntKind.i64.wrap (u0 - m1)) (IntKind.i64.wrap (u1 - m2)) (IntKind.i64.wrap (u2 - shares)))] o1 c1 _ (by repeat (first|exact Kd.C_below HR0_list.out HBr.out|apply Kd.C_alloc|apply Kd.C_drew|apply Kd.C_drewN)) HC0_list.out (rowF _ (show 4≤1000 by decide) (heap_alloc_new _ _)) rfl (chg_cons (CH_m.out.below (by repeat (first|exact Below.refl _ _|apply δk|apply δj|apply δi))).chg (chg_cons (CH_q.out.below (by repeat (first|exact Below.refl _ _|apply δk|apply δj|apply δi))).chg (chg_cons (CH_b.out.below (by repeat (first|exact Below.refl _ _|apply δk|apply δj|apply δi))).chg (chg_cons (CH_p.out.below (by repeat (first|exact Below.refl _ _|apply δk|apply δj|apply δi))).chg chg_nil)))) H12.out).mono ?_;rintro e w12 ⟨v12,rfl,ho,hb⟩;have ho':=Kd.R_lower ho (Below.size (show Below w.heap.size w _ from by repeat (first|exact HBr.out|apply δk|apply δj|apply δi)));obtain ⟨adr12,cap12,rfl,hl12,hq12⟩:=Kd.R_reads ho';have HC12:=ζa hl12;have HRn12:=ζa hq12;have HOn12:=ζa ho';clear hl12 hq12 ho ho';replace BKp:=ζa (blk_below (by repeat (first|exact BKp.out|apply δo|apply δp|apply δn)) hb);(try (replace CH_m:=ζa (CH_m.out.below (δr (by repeat (first|exact Below.refl _ _|apply δk|apply δj|apply δi)) hb))));(try (replace CH_q:=ζa (CH_q.out.below (δr (by repeat (first|exact Below.refl _ _|apply δk|apply δj|apply δi)) hb))));(try (replace CH_b:=ζa (CH_b.out.below (δr (by repeat (first|exact Below.refl _ _|apply δk|apply δj|apply δi)) hb))));(try (replace CH_p:=ζa (CH_p.out.below (δr (by repeat (first|exact Below.refl _ _|apply δk|apply δj|apply δi)) hb))));replace HBr:=ζa (δr (by repeat (first|exact HBr.out|apply δk|apply δj|apply δi)) hb);clear hb))
    all_goals
     clear hzp_0 hfp_0 hzp_1 hfp_1 hzp_2 hfp_2
     have hzp_0:=(δl BKp.out 0).trans rfl
     have hfp_0:=δm BKp.out 0
     have hzp_1:=(δl BKp.out 1).trans rfl
     have hfp_1:=δm BKp.out 1
     have hzp_2:=(δl BKp.out 2).trans rfl
     have hfp_2:=δm BKp.out 2
     have h:=HH.out
     clear HH
     simp only [Option.some.injEq,Prod.mk.injEq] at h
     obtain ⟨rfl,rfl⟩:=h
     go_wp2
     go_ret2
     exact ⟨_,rfl,(by repeat (exact HOn12.out)),(by repeat (exact HBr.out))⟩
   ·
    rw [if_neg cc9] at h
    have HH:=ζa h
    clear h
    have f9a:(c0 == 0)=φ:=beq_eq_false_iff_ne.mpr cc9
    have f9b:(c0 != 0)=τ:=bne_iff_ne.mpr cc9
    have C9:=ζa cc9
    clear cc9
    have h:=HH.out
    clear HH
    obtain ⟨o2,h17_,h⟩:=Option.bind_eq_some_iff.mp h
    have HH:=ζa h
    have H17:=ζa h17_
    clear h h17_
    go_wp2_with fail
    refine (slices_Clone_impl_Pair_impl_Pair.calls A_list c_list list o2 _ (by repeat (exact Kd.C_below HR0_list.out HB8.out)) HC0_list.out H17.out).mono ?_
    rintro e w17 ⟨v17,rfl,ho,hb⟩
    replace BKp:=ζa (blk_below (by repeat (exact BKp.out)) hb)
    clear hzp_0 hfp_0 hzp_1 hfp_1 hzp_2 hfp_2
    have ho':=Kd.R_lower ho (Below.size (show Below w.heap.size w _ from by repeat (exact HB8.out)))
    obtain ⟨adr17,cap17,rfl,hl17,hq17⟩:=Kd.R_reads ho'
    have HC17:=ζa hl17
    have HRn17:=ζa hq17
    have HOn17:=ζa ho'
    clear hl17 hq17 ho ho'
    have m_:=ζa (δr (by repeat (exact HB8.out)) hb)
    clear hb
    have HB17:=m_
    clear m_
    have hzp_0:=(δl BKp.out 0).trans rfl
    have hfp_0:=δm BKp.out 0
    have hzp_1:=(δl BKp.out 1).trans rfl
    have hfp_1:=δm BKp.out 1
    have hzp_2:=(δl BKp.out 2).trans rfl
    have hfp_2:=δm BKp.out 2
    have h:=HH.out
    clear HH
    simp only [Option.some.injEq,Prod.mk.injEq] at h
    obtain ⟨rfl,rfl⟩:=h
    go_wp2
    go_ret2
    exact ⟨_,rfl,(by repeat (first|exact HOn17.out|apply ζd|apply ζe|apply ζc)),(by repeat (first|exact HB17.out|apply δk|apply δj|apply δi))⟩
  | false =>
   rw [if_neg (by decide)] at h
   have HH:=ζa h
   clear h
   have h:=HH.out
   clear HH
   obtain ⟨o2,h18_,h⟩:=Option.bind_eq_some_iff.mp h
   have HH:=ζa h
   have H18:=ζa h18_
   clear h h18_
   go_wp2_with fail
   refine (slices_Clone_impl_Pair_impl_Pair.calls A_list c_list list o2 _ (by repeat (exact Kd.C_below HR0_list.out HB3.out)) HC0_list.out H18.out).mono ?_
   rintro e w18 ⟨v18,rfl,ho,hb⟩
   have ho':=Kd.R_lower ho (Below.size (show Below w.heap.size w _ from by repeat (exact HB3.out)))
   obtain ⟨adr18,cap18,rfl,hl18,hq18⟩:=Kd.R_reads ho'
   have HC18:=ζa hl18
   have HRn18:=ζa hq18
   have HOn18:=ζa ho'
   clear hl18 hq18 ho ho'
   have m_:=ζa (δr (by repeat (exact HB3.out)) hb)
   clear hb
   have HB18:=m_
   clear m_
   have h:=HH.out
   clear HH
   simp only [Option.some.injEq,Prod.mk.injEq] at h
   obtain ⟨rfl,rfl⟩:=h
   go_wp2
   go_ret2
   exact ⟨_,rfl,(by repeat (first|exact HOn18.out|apply ζd|apply ζe|apply ζc)),(by repeat (first|exact HB18.out|apply δk|apply δj|apply δi))⟩
 | false =>
  rw [if_neg (by decide)] at h
  have HH:=ζa h
  clear h
  have h:=HH.out
  clear HH
  obtain ⟨o2,h19_,h⟩:=Option.bind_eq_some_iff.mp h
  have HH:=ζa h
  have H19:=ζa h19_
  clear h h19_
  go_wp2_with fail
  refine (slices_Clone_impl_Pair_impl_Pair.calls A_list c_list list o2 _ (by repeat (exact Kd.C_below HR0_list.out HB1.out)) HC0_list.out H19.out).mono ?_
  rintro e w19 ⟨v19,rfl,ho,hb⟩
  have ho':=Kd.R_lower ho (Below.size (show Below w.heap.size w _ from by repeat (exact HB1.out)))
  obtain ⟨adr19,cap19,rfl,hl19,hq19⟩:=Kd.R_reads ho'
  have HC19:=ζa hl19
  have HRn19:=ζa hq19
  have HOn19:=ζa ho'
  clear hl19 hq19 ho ho'
  have m_:=ζa (δr (by repeat (exact HB1.out)) hb)
  clear hb
  have HB19:=m_
  clear m_
  have h:=HH.out
  clear HH
  simp only [Option.some.injEq,Prod.mk.injEq] at h
  obtain ⟨rfl,rfl⟩:=h
  go_wp2
  go_ret2
  exact ⟨_,rfl,(by repeat (exact HOn19.out)),(by repeat (exact HB19.out))⟩


open Go.Proofs.YtabmfhnhmoiljaaGreatDoorW.PrintWords renaming gate_dst → δx, below_size → δs, below_step → δr, gate_callee → δv
open List renaming map_toArray → δd, map_cons → δe, map_nil → δf
open Go.Proofs.YtabmfhnhmoiljaaGreatDoorW.PrintWords.Kd renaming R_reads' → ζg, R_below → ζh

/-! ### impl_RemovePool: function 36 -/
def impl_RemovePool.f (k:Nat) (a0:ByteArray) (l1:List (S51)) (a2:ByteArray) (a3:Int):Option ((List (S51)) × Int):=(impl_nameCode.f k a0 l1 (([a2]:List ByteArray))).bind fun t936=>(if t936=0 then ((impl_removePool.f k a0 l1 a2 a3).bind fun bt937=>(some (bt937.1,bt937.2))) else (some (([]:List (S51)),t936)))
set_option maxHeartbeats 8000000 in
set_option maxRecDepth 100000 in
theorem impl_RemovePool.calls (k:Nat) (a0:ByteArray) (A1:Option Addr) (c1:Nat) (l1:List (S51)) (a2:ByteArray) (a3:Int) (r1:List (S51)) (r2:Int) (w:World) (hr1:Kd.C k51 w A1 l1.length l1) (hc1:l1.length≤c1) (hT0:TabsOK w) (h:impl_RemovePool.f k a0 l1 a2 a3=some (r1,r2)) :
  Calls Tryz.prog 36 #[.string a0,.slice A1 l1.length c1,.string a2,.int .i64 a3] w fun e w' => ∃ v0_:Value,e = .returned (.tuple #[v0_,.int .i64 r2])∧Kd.R k51 51 w' w.heap.size (fun _=>True) v0_ r1∧Below w.heap.size w w':=by
 have HT0:=ζa hT0
 clear hT0
 have HR1:=ζa hr1
 have HC1:=ζa hc1
 clear hr1 hc1
 have HB:=ζa (Below.refl w.heap.size w)
 have H:((impl_nameCode.f k a0 l1 (([a2]:List ByteArray))).bind fun t936=>(if t936=0 then ((impl_removePool.f k a0 l1 a2 a3).bind fun bt937=>(some (bt937.1,bt937.2))) else (some (([]:List (S51)),t936))))=some (r1,r2):=h
 clear h
 obtain ⟨y933,hy933⟩ : ∃ y_:List ByteArray,y_=(([a2]:List ByteArray)):=⟨_,rfl⟩
 replace H:((impl_nameCode.f k a0 l1 y933).bind fun t936=>(if t936=0 then ((impl_removePool.f k a0 l1 a2 a3).bind fun bt937=>(some (bt937.1,bt937.2))) else (some (([]:List (S51)),t936))))=some (r1,r2):=by (rw [hy933];with_reducible exact H)
 have Ny933:=ζa hy933
 clear hy933
 replace H:=Option.bind_eq_some_iff.mp H
 obtain ⟨t936,A50,H⟩:=H
 replace H:(if t936=0 then ((impl_removePool.f k a0 l1 a2 a3).bind fun bt937=>(some (bt937.1,bt937.2))) else (some (([]:List (S51)),t936)))=some (r1,r2):=H
 have A5:=ζa A50
 clear A50
 by_cases c6:t936=0
 ·
  rw [if_pos c6] at H
  have c6b0:(t936 == 0)=τ:=beq_iff_eq.mpr c6
  have c6b1:(t936 != 0)=φ:=bne_eq_false_iff_eq.mpr c6
  clear c6
  replace H:=Option.bind_eq_some_iff.mp H
  obtain ⟨⟨t937,t938⟩,A70,H⟩:=H
  replace H:(some (t937,t938))=some (r1,r2):=H
  have A7:=ζa A70
  clear A70
  simp only [Option.some.injEq,Prod.mk.injEq] at H
  obtain ⟨rfl,rfl⟩:=H
  go_enter Tryz.func36,Tryz.ntmps36
  go_wp2_with (first|((with_reducible refine δx (N:=14) rfl ?_);refine Kd.R_lit Kd.string _ 9 ?hg (N:=14) ?hd (xs:=([a2]:List ByteArray)) (inner:=[.string a2]) (ok:=fun _=>True) (okp:=fun _=>True) ?hr ?hp (fun _ hk=>hk) trivial (Below.refl _ _) (Nat.le_refl _) (by simp) ?_;(case hd=>rfl);(case hg=>rfl);(case hr=>(go_simp;done));(case hp=>exact (Reps.one (show Kd.M Kd.string _ _ _ a2 [.string a2] from rfl) (Reps.none _ _)));intro v934 w8 ho9 hb hg_ hnew_;clear hg_ hnew_;(rw [← Ny933.out] at ho9);have HO935:=ζa (Kd.R_lower ho9 (δs (by exact HB.out)));replace HB:=ζa (δr (by exact HB.out) hb);clear hb ho9;obtain ⟨Ao10,co10,eo10⟩:=Kd.R_slice HO935.out;subst eo10)|((with_reducible refine δv (f:=45) rfl ?_);refine goesL_ (some 15) rfl rfl Tryz.func45 (by kernel_rfl) rfl #[.string a0,.slice A1 l1.length c1,.slice Ao10 y933.length co10] rfl (by (try simp only [δd,δe,δf]);rfl) ?_;(with_reducible refine (impl_nameCode.calls k a0 _ _ l1 _ _ y933 t936 _ ?side1 ?side2 ?side3 ?side4 A5.out).mono ?_);(case side1=>repeat (exact (Kd.C_below HR1.out HB.out)));(case side2=>exact HC1.out);(case side3=>repeat (exact (ζg HO935.out).2.2));(case side4=>exact (ζg HO935.out).2.1);rintro e w11 ⟨rfl,hb⟩;refine ⟨_,rfl,?_⟩;replace HO935:=ζa (ζh (by exact HO935.out) hb);replace HB:=ζa (δr (by exact HB.out) hb);(try clear hb);(try clear hb2);(try clear hk);(try clear hi))|((with_reducible refine δv (f:=69) rfl ?_);refine goesL_ (some 23) rfl rfl Tryz.func69 (by kernel_rfl) rfl #[.string a0,.slice A1 l1.length c1,.string a2,.int .i64 a3] rfl (by (try simp only [δd,δe,δf]);rfl) ?_;(with_reducible refine (impl_removePool.calls k a0 _ _ l1 a2 a3 t937 t938 _ ?side1 ?side2 (HT0.out.below (by exact HB.out)) A7.out).mono ?_);(case side1=>repeat (exact (Kd.C_below HR1.out HB.out)));(case side2=>exact HC1.out);rintro e w12 ⟨v939,rfl,ho0,hb⟩;refine ⟨_,rfl,?_⟩;replace HO935:=ζa (ζh (by exact HO935.out) hb);have HO940:=ζa (Kd.R_lower ho0 (δs (by exact HB.out)));replace HB:=ζa (δr (by exact HB.out) hb);(try clear hb);(try clear hb2);(try clear hk);(try clear hi);(try clear ho0)))
  go_ret2
  exact ⟨_,by rfl,by exact HO940.out,by repeat ((with_reducible exact HB.out))⟩
 ·
  rw [if_neg c6] at H
  have c6b0:(t936 == 0)=φ:=beq_eq_false_iff_ne.mpr c6
  have c6b1:(t936 != 0)=τ:=bne_iff_ne.mpr c6
  simp only [Option.some.injEq,Prod.mk.injEq] at H
  obtain ⟨rfl,rfl⟩:=H
  go_enter Tryz.func36,Tryz.ntmps36
  go_wp2_with (first|((with_reducible refine δx (N:=14) rfl ?_);refine Kd.R_lit Kd.string _ 9 ?hg (N:=14) ?hd (xs:=([a2]:List ByteArray)) (inner:=[.string a2]) (ok:=fun _=>True) (okp:=fun _=>True) ?hr ?hp (fun _ hk=>hk) trivial (Below.refl _ _) (Nat.le_refl _) (by simp) ?_;(case hd=>rfl);(case hg=>rfl);(case hr=>(go_simp;done));(case hp=>exact (Reps.one (show Kd.M Kd.string _ _ _ a2 [.string a2] from rfl) (Reps.none _ _)));intro v934 w13 ho14 hb hg_ hnew_;clear hg_ hnew_;(rw [← Ny933.out] at ho14);have HO935:=ζa (Kd.R_lower ho14 (δs (by exact HB.out)));replace HB:=ζa (δr (by exact HB.out) hb);clear hb ho14;obtain ⟨Ao15,co15,eo15⟩:=Kd.R_slice HO935.out;subst eo15)|((with_reducible refine δv (f:=45) rfl ?_);refine goesL_ (some 15) rfl rfl Tryz.func45 (by kernel_rfl) rfl #[.string a0,.slice A1 l1.length c1,.slice Ao15 y933.length co15] rfl (by (try simp only [δd,δe,δf]);rfl) ?_;(with_reducible refine (impl_nameCode.calls k a0 _ _ l1 _ _ y933 t936 _ ?side1 ?side2 ?side3 ?side4 A5.out).mono ?_);(case side1=>repeat (exact (Kd.C_below HR1.out HB.out)));(case side2=>exact HC1.out);(case side3=>repeat (exact (ζg HO935.out).2.2));(case side4=>exact (ζg HO935.out).2.1);rintro e w16 ⟨rfl,hb⟩;refine ⟨_,rfl,?_⟩;replace HO935:=ζa (ζh (by exact HO935.out) hb);replace HB:=ζa (δr (by exact HB.out) hb);(try clear hb);(try clear hb2);(try clear hk);(try clear hi)))
  go_ret2
  exact ⟨_,by rfl,by exact Kd.R_nil _ _ _ _ _,by repeat ((with_reducible exact HB.out))⟩


open Go.Proofs.YtabmfhnhmoiljaaGreatDoorW.PrintWords renaming gate_callee → δv, below_step → δr, below_size → δs
open List renaming map_toArray → δd, map_cons → δe, map_nil → δf, setIfInBounds_toArray → δa, set_cons_zero → δb, set_cons_succ → δc
open Go.Act renaming put → ζl

/-! ### laws_FnExactRemovePool: function 11 -/
mutual
def laws_FnExactRemovePool.j0:Nat→ByteArray→List (S49)→ByteArray→Int→List (S51)→Int→List (S51)→List (S51)→Int→Bool→Option (Bool)
 | 0,_,_,_,_,_,_,_,_,_,_=>none
 | k+1,x0,x1,x2,x3,x10,x11,x12,x13,x14,x58=>if x58=τ then (some φ) else ((laws_toPairS.f k x1).bind fun t957=>((laws_eqPairS.f k x12 t957).bind fun t960=>(if t960=τ then ((laws_markPairS.f k x12 1).bind fun bt961=>(if bt961.1<0 then (laws_FnExactRemovePool.j1 k x0 x1 x2 x3 x10 x11 x13 τ) else ((laws_eqPairS.f k x13 x10).bind fun t963=>(if t963=τ then (laws_FnExactRemovePool.j1 k x0 x1 x2 x3 x10 x11 x13 (x14 != x11)) else (laws_FnExactRemovePool.j1 k x0 x1 x2 x3 x10 x11 x13 τ))))) else (some φ))))
def laws_FnExactRemovePool.j1:Nat→ByteArray→List (S49)→ByteArray→Int→List (S51)→Int→List (S51)→Bool→Option (Bool)
 | 0,_,_,_,_,_,_,_,_=>none
 | k+1,x0,x1,x2,x3,x10,x11,x13,x79=>if x79=τ then (some φ) else ((laws_markPairS.f k x13 1).bind fun bt964=>((laws_heldPairS.f k bt964.2 1).bind fun t966=>(if t966<0 then (some φ) else (if t966=bt964.1 then ((laws_toPairS.f k x1).bind fun t967=>((impl_RemovePool.f k x0 t967 x2 x3).bind fun bt970=>((laws_eqPairS.f k bt970.1 x10).bind fun t974=>(if t974=τ then (laws_FnExactRemovePool.j2 k bt964.2 bt964.1 (bt970.2 != x11)) else (laws_FnExactRemovePool.j2 k bt964.2 bt964.1 τ))))) else (some φ)))))
def laws_FnExactRemovePool.j2:Nat→List (S51)→Int→Bool→Option (Bool)
 | 0,_,_,_=>none
 | k+1,x13,x16,x108=>if x108=τ then (some φ) else ((laws_heldPairS.f k x13 1).bind fun t975=>(if t975<0 then (some φ) else (if t975=x16 then (some τ) else (some φ))))
end
def laws_FnExactRemovePool.f (k:Nat) (a0:ByteArray) (l1:List (S49)) (a2:ByteArray) (a3:Int):Option (Bool):=if (a0.size:Int) > 1048576 then (some τ) else (if (a2.size:Int) > 1048576 then (some τ) else ((laws_szPairS.f k l1 1048576).bind fun t941=>(if t941<0 then (some τ) else ((laws_toPairS.f k l1).bind fun t942=>((spec_RemovePool.f k a0 t942 a2 a3).bind fun bt945=>((laws_toPairS.f k l1).bind fun t949=>((impl_RemovePool.f k a0 t949 a2 a3).bind fun bt952=>((laws_eqPairS.f k bt952.1 bt945.1).bind fun t956=>(if t956=τ then (laws_FnExactRemovePool.j0 k a0 l1 a2 a3 bt945.1 bt945.2 t949 bt952.1 bt952.2 (bt952.2 != bt945.2)) else (laws_FnExactRemovePool.j0 k a0 l1 a2 a3 bt945.1 bt945.2 t949 bt952.1 bt952.2 τ))))))))))
set_option maxHeartbeats 8000000 in
set_option maxRecDepth 100000 in
theorem laws_FnExactRemovePool.calls (k:Nat) (a0:ByteArray) (A1:Option Addr) (c1:Nat) (l1:List (S49)) (a2:ByteArray) (a3:Int) (r:Bool) (w:World) (hr1:Kd.C k49 w A1 l1.length l1) (hc1:l1.length≤c1) (hT0:TabsOK w) (h:laws_FnExactRemovePool.f k a0 l1 a2 a3=some r) :
  Calls Tryz.prog 11 #[.string a0,.slice A1 l1.length c1,.string a2,.int .i64 a3] w fun e w'=>e = .returned (.bool r)∧Below w.heap.size w w':=by
 have HT0:=ζa hT0
 clear hT0
 have HR1:=ζa hr1
 have HC1:=ζa hc1
 clear hr1 hc1
 have HB:=ζa (Below.refl w.heap.size w)
 have H:(if (a0.size:Int) > 1048576 then (some τ) else (if (a2.size:Int) > 1048576 then (some τ) else ((laws_szPairS.f k l1 1048576).bind fun t941=>(if t941<0 then (some τ) else ((laws_toPairS.f k l1).bind fun t942=>((spec_RemovePool.f k a0 t942 a2 a3).bind fun bt945=>((laws_toPairS.f k l1).bind fun t949=>((impl_RemovePool.f k a0 t949 a2 a3).bind fun bt952=>((laws_eqPairS.f k bt952.1 bt945.1).bind fun t956=>(if t956=τ then (laws_FnExactRemovePool.j0 k a0 l1 a2 a3 bt945.1 bt945.2 t949 bt952.1 bt952.2 (bt952.2 != bt945.2)) else (laws_FnExactRemovePool.j0 k a0 l1 a2 a3 bt945.1 bt945.2 t949 bt952.1 bt952.2 τ)))))))))))=some r:=h
 clear h
 by_cases c5:(a0.size:Int) > 1048576
 ·
  rw [if_pos c5] at H
  have c5b0:decide (1048576<(a0.size:Int))=τ:=decide_eq_true c5
  have c5b1:decide (1048576<a0.size)=τ:=decide_eq_true (by omega)
  clear c5
  obtain rfl:=Option.some.inj H
  go_enter Tryz.func11,Tryz.ntmps11
  go_wp2
  go_ret
  exact ⟨by rfl,by repeat ((with_reducible exact HB.out))⟩
 ·
  rw [if_neg c5] at H
  have c5b0:decide (1048576<(a0.size:Int))=φ:=decide_eq_false c5
  have c5b1:decide (1048576<a0.size)=φ:=decide_eq_false (by omega)
  clear c5
  by_cases c6:(a2.size:Int) > 1048576
  ·
   rw [if_pos c6] at H
   have c6b0:decide (1048576<(a2.size:Int))=τ:=decide_eq_true c6
   have c6b1:decide (1048576<a2.size)=τ:=decide_eq_true (by omega)
   clear c6
   obtain rfl:=Option.some.inj H
   go_enter Tryz.func11,Tryz.ntmps11
   go_wp2
   go_ret
   exact ⟨by rfl,by repeat ((with_reducible exact HB.out))⟩
  ·
   rw [if_neg c6] at H
   have c6b0:decide (1048576<(a2.size:Int))=φ:=decide_eq_false c6
   have c6b1:decide (1048576<a2.size)=φ:=decide_eq_false (by omega)
   clear c6
   replace H:=Option.bind_eq_some_iff.mp H
   obtain ⟨t941,A70,H⟩:=H
   replace H:(if t941<0 then (some τ) else ((laws_toPairS.f k l1).bind fun t942=>((spec_RemovePool.f k a0 t942 a2 a3).bind fun bt945=>((laws_toPairS.f k l1).bind fun t949=>((impl_RemovePool.f k a0 t949 a2 a3).bind fun bt952=>((laws_eqPairS.f k bt952.1 bt945.1).bind fun t956=>(if t956=τ then (laws_FnExactRemovePool.j0 k a0 l1 a2 a3 bt945.1 bt945.2 t949 bt952.1 bt952.2 (bt952.2 != bt945.2)) else (laws_FnExactRemovePool.j0 k a0 l1 a2 a3 bt945.1 bt945.2 t949 bt952.1 bt952.2 τ))))))))=some r:=H
   have A7:=ζa A70
   clear A70
   by_cases c8:t941<0
   ·
    rw [if_pos c8] at H
    have c8b0:decide (t941<0)=τ:=decide_eq_true c8
    clear c8
    obtain rfl:=Option.some.inj H
    go_enter Tryz.func11,Tryz.ntmps11
    go_wp2_with (((with_reducible refine δv (f:=14) rfl ?_);refine goesL_ (some 28) rfl rfl Tryz.func14 (by kernel_rfl) rfl #[.slice A1 l1.length c1,.int .i64 1048576] rfl (by (try simp only [δd,δe,δf]);rfl) ?_;(with_reducible refine (laws_szPairS.calls k _ _ l1 1048576 t941 _ ?side1 ?side2 A7.out).mono ?_);(case side1=>repeat (exact HR1.out));(case side2=>exact HC1.out);rintro e w9 ⟨rfl,hb⟩;refine ⟨_,rfl,?_⟩;replace HB:=ζa (δr (by exact HB.out) hb);(try clear hb);(try clear hb2);(try clear hk);(try clear hi)))
    go_ret
    exact ⟨by rfl,by repeat ((with_reducible exact HB.out))⟩
   ·
    rw [if_neg c8] at H
    have c8b0:decide (t941<0)=φ:=decide_eq_false c8
    clear c8
    replace H:=Option.bind_eq_some_iff.mp H
    obtain ⟨t942,A100,H⟩:=H
    replace H:((spec_RemovePool.f k a0 t942 a2 a3).bind fun bt945=>((laws_toPairS.f k l1).bind fun t949=>((impl_RemovePool.f k a0 t949 a2 a3).bind fun bt952=>((laws_eqPairS.f k bt952.1 bt945.1).bind fun t956=>(if t956=τ then (laws_FnExactRemovePool.j0 k a0 l1 a2 a3 bt945.1 bt945.2 t949 bt952.1 bt952.2 (bt952.2 != bt945.2)) else (laws_FnExactRemovePool.j0 k a0 l1 a2 a3 bt945.1 bt945.2 t949 bt952.1 bt952.2 τ))))))=some r:=H
    have A10:=ζa A100
    clear A100
    replace H:=Option.bind_eq_some_iff.mp H
    obtain ⟨⟨t945,t946⟩,A110,H⟩:=H
    replace H:((laws_toPairS.f k l1).bind fun t949=>((impl_RemovePool.f k a0 t949 a2 a3).bind fun bt952=>((laws_eqPairS.f k bt952.1 t945).bind fun t956=>(if t956=τ then (laws_FnExactRemovePool.j0 k a0 l1 a2 a3 t945 t946 t949 bt952.1 bt952.2 (bt952.2 != t946)) else (laws_FnExactRemovePool.j0 k a0 l1 a2 a3 t945 t946 t949 bt952.1 bt952.2 τ)))))=some r:=H
    have A11:=ζa A110
    clear A110
    replace H:=Option.bind_eq_some_iff.mp H
    obtain ⟨t949,A120,H⟩:=H
    replace H:((impl_RemovePool.f k a0 t949 a2 a3).bind fun bt952=>((laws_eqPairS.f k bt952.1 t945).bind fun t956=>(if t956=τ then (laws_FnExactRemovePool.j0 k a0 l1 a2 a3 t945 t946 t949 bt952.1 bt952.2 (bt952.2 != t946)) else (laws_FnExactRemovePool.j0 k a0 l1 a2 a3 t945 t946 t949 bt952.1 bt952.2 τ))))=some r:=H
    have A12:=ζa A120
    clear A120
    replace H:=Option.bind_eq_some_iff.mp H
    obtain ⟨⟨t952,t953⟩,A130,H⟩:=H
    replace H:((laws_eqPairS.f k t952 t945).bind fun t956=>(if t956=τ then (laws_FnExactRemovePool.j0 k a0 l1 a2 a3 t945 t946 t949 t952 t953 (t953 != t946)) else (laws_FnExactRemovePool.j0 k a0 l1 a2 a3 t945 t946 t949 t952 t953 τ)))=some r:=H
    have A13:=ζa A130
    clear A130
    have HC14:=ζa H
    clear H
    go_enter Tryz.func11,Tryz.ntmps11
    go_upto_region 12 with (first|((with_reducible refine δv (f:=14) rfl ?_);refine goesL_ (some 28) rfl rfl Tryz.func14 (by kernel_rfl) rfl #[.slice A1 l1.length c1,.int .i64 1048576] rfl (by (try simp only [δd,δe,δf]);rfl) ?_;(with_reducible refine (laws_szPairS.calls k _ _ l1 1048576 t941 _ ?side1 ?side2 A7.out).mono ?_);(case side1=>repeat (exact HR1.out));(case side2=>exact HC1.out);rintro e w15 ⟨rfl,hb⟩;refine ⟨_,rfl,?_⟩;replace HB:=ζa (δr (by exact HB.out) hb);(try clear hb);(try clear hb2);(try clear hk);(try clear hi))|((with_reducible refine δv (f:=16) rfl ?_);refine goesL_ (some 34) rfl rfl Tryz.func16 (by kernel_rfl) rfl #[.slice A1 l1.length c1] rfl (by (try simp only [δd,δe,δf]);rfl) ?_;(with_reducible refine (laws_toPairS.calls k _ _ l1 t942 _ ?side1 ?side2 A10.out).mono ?_);(case side1=>repeat (exact (Kd.C_below HR1.out HB.out)));(case side2=>exact HC1.out);rintro e w16 ⟨v943,rfl,ho0,hb⟩;refine ⟨_,rfl,?_⟩;have HO944:=ζa (Kd.R_lower ho0 (δs (by exact HB.out)));replace HB:=ζa (δr (by exact HB.out) hb);(try clear hb);(try clear hb2);(try clear hk);(try clear hi);(try clear ho0);obtain ⟨Ao17,co17,eo17⟩:=Kd.R_slice HO944.out;subst eo17)|((with_reducible refine δv (f:=35) rfl ?_);refine goesL_ (some 37) rfl rfl Tryz.func35 (by kernel_rfl) rfl #[.string a0,.slice Ao17 t942.length co17,.string a2,.int .i64 a3] rfl (by (try simp only [δd,δe,δf]);rfl) ?_;(with_reducible refine (spec_RemovePool.calls k a0 _ _ t942 a2 a3 t945 t946 _ ?side1 ?side2 A11.out).mono ?_);(case side1=>repeat (exact (ζg HO944.out).2.2));(case side2=>exact (ζg HO944.out).2.1);rintro e w18 ⟨v947,rfl,ho0,hb⟩;refine ⟨_,rfl,?_⟩;have HO948:=ζa (Kd.R_lower (Kd.R_new' ho0 (Kd.R_lt (by exact HO944.out))) (δs (by exact HB.out)));replace HO944:=ζa (Kd.R_elder' (by exact HO944.out) (Kd.R_base ho0) hb);replace HB:=ζa (δr (by exact HB.out) hb);(try clear hb);(try clear hb2);(try clear hk);(try clear hi);(try clear ho0))|((with_reducible refine δv (f:=16) rfl ?_);refine goesL_ (some 41) rfl rfl Tryz.func16 (by kernel_rfl) rfl #[.slice A1 l1.length c1] rfl (by (try simp only [δd,δe,δf]);rfl) ?_;(with_reducible refine (laws_toPairS.calls k _ _ l1 t949 _ ?side1 ?side2 A12.out).mono ?_);(case side1=>repeat (exact (Kd.C_below HR1.out HB.out)));(case side2=>exact HC1.out);rintro e w19 ⟨v950,rfl,ho0,hb⟩;refine ⟨_,rfl,?_⟩;have HO951:=ζa (Kd.R_lower (Kd.R_new' (Kd.R_new' ho0 (Kd.R_lt (by exact HO944.out))) (Kd.R_lt (by exact HO948.out))) (δs (by exact HB.out)));replace HO944:=ζa (Kd.R_elder' (by exact HO944.out) (Kd.R_base ho0) hb);replace HO948:=ζa (Kd.R_elder' (by exact HO948.out) (Kd.R_base ho0) hb);replace HB:=ζa (δr (by exact HB.out) hb);(try clear hb);(try clear hb2);(try clear hk);(try clear hi);(try clear ho0);obtain ⟨Ao20,co20,eo20⟩:=Kd.R_slice HO951.out;subst eo20)|((with_reducible refine δv (f:=36) rfl ?_);refine goesL_ (some 47) rfl rfl Tryz.func36 (by kernel_rfl) rfl #[.string a0,.slice Ao20 t949.length co20,.string a2,.int .i64 a3] rfl (by (try simp only [δd,δe,δf]);rfl) ?_;(with_reducible refine (impl_RemovePool.calls k a0 _ _ t949 a2 a3 t952 t953 _ ?side1 ?side2 (HT0.out.below (by exact HB.out)) A13.out).mono ?_);(case side1=>repeat (exact (ζg HO951.out).2.2));(case side2=>exact (ζg HO951.out).2.1);rintro e w21 ⟨v954,rfl,ho0,hb⟩;refine ⟨_,rfl,?_⟩;have HO955:=ζa (Kd.R_lower (Kd.R_new' (Kd.R_new' (Kd.R_new' ho0 (Kd.R_lt (by exact HO944.out))) (Kd.R_lt (by exact HO948.out))) (Kd.R_lt (by exact HO951.out))) (δs (by exact HB.out)));replace HO944:=ζa (Kd.R_elder' (by exact HO944.out) (Kd.R_base ho0) hb);replace HO948:=ζa (Kd.R_elder' (by exact HO948.out) (Kd.R_base ho0) hb);replace HO951:=ζa (Kd.R_elder' (by exact HO951.out) (Kd.R_base ho0) hb);replace HB:=ζa (δr (by exact HB.out) hb);(try clear hb);(try clear hb2);(try clear hk);(try clear hi);(try clear ho0)))
    (try simp only [ζl,δa,δb,δc])
    go_cut [58] (fun v58 wc => ∃ (kq:Nat) (x58_13:Bool),v58 = .bool x58_13∧Aside0 (laws_FnExactRemovePool.j0 kq a0 l1 a2 a3 t945 t946 t949 t952 t953 x58_13=some r)∧Aside0 (kq≤k)∧Aside0 (Kd.R k51 51 wc w.heap.size (fun k_=>some k_≠((.slice Ao20 t949.length co20):Value).ownBlock∧some k_≠(v954:Value).ownBlock) v947 t945)∧Aside0 (Kd.R k51 51 wc w.heap.size (fun k_=>some k_≠(v947:Value).ownBlock∧some k_≠(v954:Value).ownBlock) (.slice Ao20 t949.length co20) t949)∧Aside0 (Kd.R k51 51 wc w.heap.size (fun k_=>some k_≠(v947:Value).ownBlock∧some k_≠((.slice Ao20 t949.length co20):Value).ownBlock) v954 t952)∧Aside0 (Below w.heap.size w wc))
    case first =>
     have H:=HC14.out
     clear HC14
     replace H:=Option.bind_eq_some_iff.mp H
     obtain ⟨t956,A220,H⟩:=H
     replace H:(if t956=τ then (laws_FnExactRemovePool.j0 k a0 l1 a2 a3 t945 t946 t949 t952 t953 (t953 != t946)) else (laws_FnExactRemovePool.j0 k a0 l1 a2 a3 t945 t946 t949 t952 t953 τ))=some r:=H
     have A22:=ζa A220
     clear A220
     by_cases c23:t956=τ
     ·
      subst c23
      have H1:(laws_FnExactRemovePool.j0 k a0 l1 a2 a3 t945 t946 t949 t952 t953 (t953 != t946))=some r:=by rw [if_pos rfl] at H;exact H
      clear H
      have H:=H1
      clear H1
      have H':=ζa H
      clear H
      obtain ⟨Ao24,co24,eo24⟩:=Kd.R_slice HO955.out
      subst eo24
      obtain ⟨Ao25,co25,eo25⟩:=Kd.R_slice HO948.out
      subst eo25
      go_wp2_with (((with_reducible refine δv (f:=18) rfl ?_);refine goesL_ (some 52) rfl rfl Tryz.func18 (by kernel_rfl) rfl #[.slice Ao24 t952.length co24,.slice Ao25 t945.length co25] rfl (by (try simp only [δd,δe,δf]);rfl) ?_;(with_reducible refine (laws_eqPairS.calls k _ _ t952 _ _ t945 τ _ ?side1 ?side2 ?side3 ?side4 A22.out).mono ?_);(case side1=>repeat (exact (ζg HO955.out).2.2));(case side2=>exact (ζg HO955.out).2.1);(case side3=>repeat (exact (ζg HO948.out).2.2));(case side4=>exact (ζg HO948.out).2.1);rintro e w26 ⟨rfl,hb⟩;refine ⟨_,rfl,?_⟩;replace HO944:=ζa (ζh (by exact HO944.out) hb);replace HO948:=ζa (ζh (by exact HO948.out) hb);replace HO951:=ζa (ζh (by exact HO951.out) hb);replace HO955:=ζa (ζh (by exact HO955.out) hb);replace HB:=ζa (δr (by exact HB.out) hb);(try clear hb);(try clear hb2);(try clear hk);(try clear hi)))
      go_meet
      case rel=>exact ⟨_,((t953 != t946)),(by rfl),H',⟨by omega⟩,⟨by exact Kd.R_mono HO948.out (fun _ hk=>⟨hk.1.2,hk.2⟩)⟩,⟨by exact Kd.R_mono HO951.out (fun _ hk=>⟨hk.1.2,hk.2⟩)⟩,⟨by exact Kd.R_mono HO955.out (fun _ hk=>⟨hk.1.2,hk.2⟩)⟩,⟨by repeat ((with_reducible exact HB.out))⟩⟩
     ·
      replace c23:=Bool.eq_false_iff.mpr c23
      subst c23
      have H1:(laws_FnExactRemovePool.j0 k a0 l1 a2 a3 t945 t946 t949 t952 t953 τ)=some r:=by rw [if_neg (show ¬ (φ=τ) by decide)] at H;exact H
      clear H
      have H:=H1
      clear H1
      have H':=ζa H
      clear H
      obtain ⟨Ao27,co27,eo27⟩:=Kd.R_slice HO955.out
      subst eo27
      obtain ⟨Ao28,co28,eo28⟩:=Kd.R_slice HO948.out
      subst eo28
      go_wp2_with (((with_reducible refine δv (f:=18) rfl ?_);refine goesL_ (some 52) rfl rfl Tryz.func18 (by kernel_rfl) rfl #[.slice Ao27 t952.length co27,.slice Ao28 t945.length co28] rfl (by (try simp only [δd,δe,δf]);rfl) ?_;(with_reducible refine (laws_eqPairS.calls k _ _ t952 _ _ t945 φ _ ?side1 ?side2 ?side3 ?side4 A22.out).mono ?_);(case side1=>repeat (exact (ζg HO955.out).2.2));(case side2=>exact (ζg HO955.out).2.1);(case side3=>repeat (exact (ζg HO948.out).2.2));(case side4=>exact (ζg HO948.out).2.1);rintro e w29 ⟨rfl,hb⟩;refine ⟨_,rfl,?_⟩;replace HO944:=ζa (ζh (by exact HO944.out) hb);replace HO948:=ζa (ζh (by exact HO948.out) hb);replace HO951:=ζa (ζh (by exact HO951.out) hb);replace HO955:=ζa (ζh (by exact HO955.out) hb);replace HB:=ζa (δr (by exact HB.out) hb);(try clear hb);(try clear hb2);(try clear hk);(try clear hi)))
      go_meet
      case rel=>exact ⟨_,(τ),(by rfl),H',⟨by omega⟩,⟨by exact Kd.R_mono HO948.out (fun _ hk=>⟨hk.1.2,hk.2⟩)⟩,⟨by exact Kd.R_mono HO951.out (fun _ hk=>⟨hk.1.2,hk.2⟩)⟩,⟨by exact Kd.R_mono HO955.out (fun _ hk=>⟨hk.1.2,hk.2⟩)⟩,⟨by repeat ((with_reducible exact HB.out))⟩⟩
    case rest =>
     clear HC14
     try clear c1
     try clear c2
     try clear p2
     try clear c3
     try clear c5
     try clear c5b0
     try clear c5b1
     try clear c6
     try clear c6b0
     try clear c6b1
     try clear c8
     try clear c8b0
     try clear c11
     try clear c14
     try clear c16
     try clear c18
     try clear c23
     obtain ⟨kq,x58_13,rfl,HA,HJ13,HO_10,HO_12,HO_13,HB⟩:=hcut
     cases kq with
     | zero=>exact absurd HA.out (by simp [laws_FnExactRemovePool.j0])
     | succ kj13 =>
      have H:=HA.out
      clear HA
      simp only [laws_FnExactRemovePool.j0] at H
      by_cases c30:x58_13=τ
      ·
       subst c30
       have H1:(some φ)=some r:=by rw [if_pos rfl] at H;exact H
       clear H
       have H:=H1
       clear H1
       obtain rfl:=Option.some.inj H
       go_wp2
       go_ret
       exact ⟨by rfl,by repeat ((with_reducible exact HB.out))⟩
      ·
       replace c30:=Bool.eq_false_iff.mpr c30
       subst c30
       have H1:((laws_toPairS.f kj13 l1).bind fun t957=>((laws_eqPairS.f kj13 t949 t957).bind fun t960=>(if t960=τ then ((laws_markPairS.f kj13 t949 1).bind fun bt961=>(if bt961.1<0 then (laws_FnExactRemovePool.j1 kj13 a0 l1 a2 a3 t945 t946 t952 τ) else ((laws_eqPairS.f kj13 t952 t945).bind fun t963=>(if t963=τ then (laws_FnExactRemovePool.j1 kj13 a0 l1 a2 a3 t945 t946 t952 (t953 != t946)) else (laws_FnExactRemovePool.j1 kj13 a0 l1 a2 a3 t945 t946 t952 τ))))) else (some φ))))=some r:=by rw [if_neg (show ¬ (φ=τ) by decide)] at H;exact H
       clear H
       have H:=H1
       clear H1
       replace H:=Option.bind_eq_some_iff.mp H
       obtain ⟨t957,A310,H⟩:=H
       replace H:((laws_eqPairS.f kj13 t949 t957).bind fun t960=>(if t960=τ then ((laws_markPairS.f kj13 t949 1).bind fun bt961=>(if bt961.1<0 then (laws_FnExactRemovePool.j1 kj13 a0 l1 a2 a3 t945 t946 t952 τ) else ((laws_eqPairS.f kj13 t952 t945).bind fun t963=>(if t963=τ then (laws_FnExactRemovePool.j1 kj13 a0 l1 a2 a3 t945 t946 t952 (t953 != t946)) else (laws_FnExactRemovePool.j1 kj13 a0 l1 a2 a3 t945 t946 t952 τ))))) else (some φ)))=some r:=H
       have A31:=ζa A310
       clear A310
       replace H:=Option.bind_eq_some_iff.mp H
       obtain ⟨t960,A320,H⟩:=H
       replace H:(if t960=τ then ((laws_markPairS.f kj13 t949 1).bind fun bt961=>(if bt961.1<0 then (laws_FnExactRemovePool.j1 kj13 a0 l1 a2 a3 t945 t946 t952 τ) else ((laws_eqPairS.f kj13 t952 t945).bind fun t963=>(if t963=τ then (laws_FnExactRemovePool.j1 kj13 a0 l1 a2 a3 t945 t946 t952 (t953 != t946)) else (laws_FnExactRemovePool.j1 kj13 a0 l1 a2 a3 t945 t946 t952 τ))))) else (some φ))=some r:=H
       have A32:=ζa A320
       clear A320
       by_cases c33:t960=τ
       ·
        subst c33
        have H1:((laws_markPairS.f kj13 t949 1).bind fun bt961=>(if bt961.1<0 then (laws_FnExactRemovePool.j1 kj13 a0 l1 a2 a3 t945 t946 t952 τ) else ((laws_eqPairS.f kj13 t952 t945).bind fun t963=>(if t963=τ then (laws_FnExactRemovePool.j1 kj13 a0 l1 a2 a3 t945 t946 t952 (t953 != t946)) else (laws_FnExactRemovePool.j1 kj13 a0 l1 a2 a3 t945 t946 t952 τ)))))=some r:=by rw [if_pos rfl] at H;exact H
        clear H
        have H:=H1
        clear H1
        replace H:=Option.bind_eq_some_iff.mp H
        obtain ⟨⟨t961,t962⟩,A340,H⟩:=H
        replace H:(if t961<0 then (laws_FnExactRemovePool.j1 kj13 a0 l1 a2 a3 t945 t946 t952 τ) else ((laws_eqPairS.f kj13 t952 t945).bind fun t963=>(if t963=τ then (laws_FnExactRemovePool.j1 kj13 a0 l1 a2 a3 t945 t946 t952 (t953 != t946)) else (laws_FnExactRemovePool.j1 kj13 a0 l1 a2 a3 t945 t946 t952 τ))))=some r:=H
        have A34:=ζa A340
        clear A340
        have HC35:=ζa H
        clear H
        go_upto_region 18 with (first|((with_reducible refine δv (f:=16) rfl ?_);refine goesL_ (some 61) rfl rfl Tryz.func16 (by kernel_rfl) rfl #[.slice A1 l1.length c1] rfl (by (try simp only [δd,δe,δf]);rfl) ?_;(with_reducible refine (laws_toPairS.calls kj13 _ _ l1 t957 _ ?side1 ?side2 A31.out).mono ?_);(case side1=>repeat (exact (Kd.C_below HR1.out HB.out)));(case side2=>exact HC1.out);rintro e w36 ⟨v958,rfl,ho0,hb⟩;refine ⟨_,rfl,?_⟩;have HO959:=ζa (Kd.R_lower (Kd.R_new' (Kd.R_new' (Kd.R_new' ho0 (Kd.R_lt (by exact HO_10.out))) (Kd.R_lt (by exact HO_12.out))) (Kd.R_lt (by exact HO_13.out))) (δs (by exact HB.out)));replace HO_10:=ζa (Kd.R_elder' (by exact HO_10.out) (Kd.R_base ho0) hb);replace HO_12:=ζa (Kd.R_elder' (by exact HO_12.out) (Kd.R_base ho0) hb);replace HO_13:=ζa (Kd.R_elder' (by exact HO_13.out) (Kd.R_base ho0) hb);replace HB:=ζa (δr (by exact HB.out) hb);(try clear hb);(try clear hb2);(try clear hk);(try clear hi);(try clear ho0);obtain ⟨Ao37,co37,eo37⟩:=Kd.R_slice HO959.out;subst eo37)|((with_reducible refine δv (f:=18) rfl ?_);refine goesL_ (some 62) rfl rfl Tryz.func18 (by kernel_rfl) rfl #[.slice Ao20 t949.length co20,.slice Ao37 t957.length co37] rfl (by (try simp only [δd,δe,δf]);rfl) ?_;(with_reducible refine (laws_eqPairS.calls kj13 _ _ t949 _ _ t957 τ _ ?side1 ?side2 ?side3 ?side4 A32.out).mono ?_);(case side1=>repeat (exact (ζg HO_12.out).2.2));(case side2=>exact (ζg HO_12.out).2.1);(case side3=>repeat (exact (ζg HO959.out).2.2));(case side4=>exact (ζg HO959.out).2.1);rintro e w38 ⟨rfl,hb⟩;refine ⟨_,rfl,?_⟩;replace HO_10:=ζa (ζh (by exact HO_10.out) hb);replace HO_12:=ζa (ζh (by exact HO_12.out) hb);replace HO_13:=ζa (ζh (by exact HO_13.out) hb);replace HO959:=ζa (ζh (by exact HO959.out) hb);replace HB:=ζa (δr (by exact HB.out) hb);(try clear hb);(try clear hb2);(try clear hk);(try clear hi))|((with_reducible refine δv (f:=19) rfl ?_);refine goesL_ (some 66) rfl rfl Tryz.func19 (by kernel_rfl) rfl #[.slice Ao20 t949.length co20,.int .i64 1] rfl (by (try simp only [δd,δe,δf]);rfl) ?_;(with_reducible refine (laws_markPairS.calls kj13 (fun k_=>some k_=(.slice Ao20 t949.length co20:Value).ownBlock) (.slice Ao20 t949.length co20) t949 1 t961 t962 w _ ?side1 ?side2 A34.out).mono ?_);(case side1=>repeat ((with_reducible exact HB.out)));(case side2=>exact Kd.R_tight rfl HO_12.out);rintro e w39 ⟨rfl,hy0,hb,hkp⟩;refine ⟨_,rfl,?_⟩;replace HO_10:=ζa (Kd.R_mono (ok':=fun k_=>some k_≠(.slice Ao20 t949.length co20:Value).ownBlock∧some k_≠(v954:Value).ownBlock∧some k_≠(.slice Ao37 t957.length co37:Value).ownBlock) (Kd.R_keptB (HO_10.out) hkp (fun k_ hk_ hs_=>(hk_.1.1) hs_)) (fun k_ hk_=>⟨hk_.1.1.1,hk_.1.1.2,hk_.1.2⟩));replace HO_12:=ζa (Kd.R_reok rfl hy0 (fun k_ e_=>HO_12.out.1 k_ e_));replace HO_13:=ζa (Kd.R_mono (ok':=fun k_=>some k_≠(v947:Value).ownBlock∧some k_≠(.slice Ao20 t949.length co20:Value).ownBlock∧some k_≠(.slice Ao37 t957.length co37:Value).ownBlock) (Kd.R_keptB (HO_13.out) hkp (fun k_ hk_ hs_=>(hk_.1.2) hs_)) (fun k_ hk_=>⟨hk_.1.1.1,hk_.1.1.2,hk_.1.2⟩));replace HO959:=ζa (Kd.R_mono (ok':=fun k_=>some k_≠(v947:Value).ownBlock∧some k_≠(.slice Ao20 t949.length co20:Value).ownBlock∧some k_≠(v954:Value).ownBlock) (Kd.R_keptB (HO959.out) hkp (fun k_ hk_ hs_=>(hk_.1.2) hs_)) (fun k_ hk_=>⟨hk_.1.1.1.2,hk_.1.1.2,hk_.1.2⟩));replace HB:=ζa (hb);(try clear hb);(try clear hkp);(try clear hy0)))
        (try simp only [ζl,δa,δb,δc])
        go_cut [79] (fun v79 wc => ∃ (kq:Nat) (x79_34:Bool),v79 = .bool x79_34∧Aside0 (laws_FnExactRemovePool.j1 kq a0 l1 a2 a3 t945 t946 t952 x79_34=some r)∧Aside0 (kq≤kj13)∧Aside0 (Kd.R k51 51 wc w.heap.size (fun k_=>some k_≠(v954:Value).ownBlock) v947 t945)∧Aside0 (Kd.R k51 51 wc w.heap.size (fun k_=>some k_≠(v947:Value).ownBlock) v954 t952)∧Aside0 (Below w.heap.size w wc))
        case first =>
         have H:=HC35.out
         clear HC35
         by_cases c40:t961<0
         ·
          rw [if_pos c40] at H
          have c40b0:decide (t961<0)=τ:=decide_eq_true c40
          clear c40
          (skip)
          have H':=ζa H
          clear H
          go_wp2
          go_meet
          case rel=>exact ⟨_,(τ),(by rfl),H',⟨by have:=HJ13.out;omega⟩,⟨by exact Kd.R_mono HO_10.out (fun _ hk=>hk.2.1)⟩,⟨by exact Kd.R_mono HO_13.out (fun _ hk=>hk.1)⟩,⟨by repeat ((with_reducible exact HB.out))⟩⟩
         ·
          rw [if_neg c40] at H
          have c40b0:decide (t961<0)=φ:=decide_eq_false c40
          clear c40
          (skip)
          replace H:=Option.bind_eq_some_iff.mp H
          obtain ⟨t963,A410,H⟩:=H
          replace H:(if t963=τ then (laws_FnExactRemovePool.j1 kj13 a0 l1 a2 a3 t945 t946 t952 (t953 != t946)) else (laws_FnExactRemovePool.j1 kj13 a0 l1 a2 a3 t945 t946 t952 τ))=some r:=H
          have A41:=ζa A410
          clear A410
          by_cases c42:t963=τ
          ·
           subst c42
           have H1:(laws_FnExactRemovePool.j1 kj13 a0 l1 a2 a3 t945 t946 t952 (t953 != t946))=some r:=by rw [if_pos rfl] at H;exact H
           clear H
           have H:=H1
           clear H1
           have H':=ζa H
           clear H
           obtain ⟨Ao43,co43,eo43⟩:=Kd.R_slice HO_13.out
           subst eo43
           obtain ⟨Ao44,co44,eo44⟩:=Kd.R_slice HO_10.out
           subst eo44
           go_wp2_with ((go_at_call 18;(with_reducible refine (laws_eqPairS.calls kj13 _ _ t952 _ _ t945 τ _ ?side1 ?side2 ?side3 ?side4 A41.out).mono ?_);(case side1=>repeat (exact (ζg HO_13.out).2.2));(case side2=>exact (ζg HO_13.out).2.1);(case side3=>repeat (exact (ζg HO_10.out).2.2));(case side4=>exact (ζg HO_10.out).2.1);rintro e w45 ⟨rfl,hb⟩;replace HO_10:=ζa (ζh (by exact HO_10.out) hb);replace HO_12:=ζa (ζh (by exact HO_12.out) hb);replace HO_13:=ζa (ζh (by exact HO_13.out) hb);replace HO959:=ζa (ζh (by exact HO959.out) hb);replace HB:=ζa (δr (by exact HB.out) hb);(try clear hb);(try clear hb2);(try clear hk);(try clear hi)))
           go_meet
           case rel=>exact ⟨_,((t953 != t946)),(by rfl),H',⟨by have:=HJ13.out;omega⟩,⟨by exact Kd.R_mono HO_10.out (fun _ hk=>hk.2.1)⟩,⟨by exact Kd.R_mono HO_13.out (fun _ hk=>hk.1)⟩,⟨by repeat ((with_reducible exact HB.out))⟩⟩
          ·
           replace c42:=Bool.eq_false_iff.mpr c42
           subst c42
           have H1:(laws_FnExactRemovePool.j1 kj13 a0 l1 a2 a3 t945 t946 t952 τ)=some r:=by rw [if_neg (show ¬ (φ=τ) by decide)] at H;exact H
           clear H
           have H:=H1
           clear H1
           have H':=ζa H
           clear H
           obtain ⟨Ao46,co46,eo46⟩:=Kd.R_slice HO_13.out
           subst eo46
           obtain ⟨Ao47,co47,eo47⟩:=Kd.R_slice HO_10.out
           subst eo47
           go_wp2_with ((go_at_call 18;(with_reducible refine (laws_eqPairS.calls kj13 _ _ t952 _ _ t945 φ _ ?side1 ?side2 ?side3 ?side4 A41.out).mono ?_);(case side1=>repeat (exact (ζg HO_13.out).2.2));(case side2=>exact (ζg HO_13.out).2.1);(case side3=>repeat (exact (ζg HO_10.out).2.2));(case side4=>exact (ζg HO_10.out).2.1);rintro e w48 ⟨rfl,hb⟩;replace HO_10:=ζa (ζh (by exact HO_10.out) hb);replace HO_12:=ζa (ζh (by exact HO_12.out) hb);replace HO_13:=ζa (ζh (by exact HO_13.out) hb);replace HO959:=ζa (ζh (by exact HO959.out) hb);replace HB:=ζa (δr (by exact HB.out) hb);(try clear hb);(try clear hb2);(try clear hk);(try clear hi)))
           go_meet
           case rel=>exact ⟨_,(τ),(by rfl),H',⟨by have:=HJ13.out;omega⟩,⟨by exact Kd.R_mono HO_10.out (fun _ hk=>hk.2.1)⟩,⟨by exact Kd.R_mono HO_13.out (fun _ hk=>hk.1)⟩,⟨by repeat ((with_reducible exact HB.out))⟩⟩
        case rest =>
         clear HC35
         try clear c1
         try clear c2
         try clear p2
         try clear c3
         try clear c4
         try clear c5
         try clear c5b0
         try clear c5b1
         try clear c6
         try clear c6b0
         try clear c6b1
         try clear c8
         try clear c8b0
         try clear c11
         try clear c14
         try clear c16
         try clear c18
         try clear c19
         try clear c23
         try clear c30
         try clear c33
         try clear c35
         try clear c36
         try clear c40
         try clear c40b0
         try clear c42
         try clear p2
         obtain ⟨kq,x79_34,rfl,HA,HJ34,HO_10,HO_13,HB⟩:=hcut
         cases kq with
         | zero=>exact absurd HA.out (by simp [laws_FnExactRemovePool.j1])
         | succ kj34 =>
          have H:=HA.out
          clear HA
          simp only [laws_FnExactRemovePool.j1] at H
          by_cases c49:x79_34=τ
          ·
           subst c49
           have H1:(some φ)=some r:=by rw [if_pos rfl] at H;exact H
           clear H
           have H:=H1
           clear H1
           obtain rfl:=Option.some.inj H
           go_wp2
           go_ret
           exact ⟨by rfl,by repeat ((with_reducible exact HB.out))⟩
          ·
           replace c49:=Bool.eq_false_iff.mpr c49
           subst c49
           have H1:((laws_markPairS.f kj34 t952 1).bind fun bt964=>((laws_heldPairS.f kj34 bt964.2 1).bind fun t966=>(if t966<0 then (some φ) else (if t966=bt964.1 then ((laws_toPairS.f kj34 l1).bind fun t967=>((impl_RemovePool.f kj34 a0 t967 a2 a3).bind fun bt970=>((laws_eqPairS.f kj34 bt970.1 t945).bind fun t974=>(if t974=τ then (laws_FnExactRemovePool.j2 kj34 bt964.2 bt964.1 (bt970.2 != t946)) else (laws_FnExactRemovePool.j2 kj34 bt964.2 bt964.1 τ))))) else (some φ)))))=some r:=by rw [if_neg (show ¬ (φ=τ) by decide)] at H;exact H
           clear H
           have H:=H1
           clear H1
           replace H:=Option.bind_eq_some_iff.mp H
           obtain ⟨⟨t964,t965⟩,A500,H⟩:=H
           replace H:((laws_heldPairS.f kj34 t965 1).bind fun t966=>(if t966<0 then (some φ) else (if t966=t964 then ((laws_toPairS.f kj34 l1).bind fun t967=>((impl_RemovePool.f kj34 a0 t967 a2 a3).bind fun bt970=>((laws_eqPairS.f kj34 bt970.1 t945).bind fun t974=>(if t974=τ then (laws_FnExactRemovePool.j2 kj34 t965 t964 (bt970.2 != t946)) else (laws_FnExactRemovePool.j2 kj34 t965 t964 τ))))) else (some φ))))=some r:=H
           have A50:=ζa A500
           clear A500
           replace H:=Option.bind_eq_some_iff.mp H
           obtain ⟨t966,A510,H⟩:=H
           replace H:(if t966<0 then (some φ) else (if t966=t964 then ((laws_toPairS.f kj34 l1).bind fun t967=>((impl_RemovePool.f kj34 a0 t967 a2 a3).bind fun bt970=>((laws_eqPairS.f kj34 bt970.1 t945).bind fun t974=>(if t974=τ then (laws_FnExactRemovePool.j2 kj34 t965 t964 (bt970.2 != t946)) else (laws_FnExactRemovePool.j2 kj34 t965 t964 τ))))) else (some φ)))=some r:=H
           have A51:=ζa A510
           clear A510
           by_cases c52:t966<0
           ·
            rw [if_pos c52] at H
            have c52b0:decide (t966<0)=τ:=decide_eq_true c52
            clear c52
            obtain rfl:=Option.some.inj H
            obtain ⟨Ao53,co53,eo53⟩:=Kd.R_slice HO_13.out
            subst eo53
            go_wp2_with (first|((with_reducible refine δv (f:=19) rfl ?_);refine goesL_ (some 82) rfl rfl Tryz.func19 (by kernel_rfl) rfl #[.slice Ao53 t952.length co53,.int .i64 1] rfl (by (try simp only [δd,δe,δf]);rfl) ?_;(with_reducible refine (laws_markPairS.calls kj34 (fun k_=>some k_=(.slice Ao53 t952.length co53:Value).ownBlock) (.slice Ao53 t952.length co53) t952 1 t964 t965 w _ ?side1 ?side2 A50.out).mono ?_);(case side1=>repeat ((with_reducible exact HB.out)));(case side2=>exact Kd.R_tight rfl HO_13.out);rintro e w54 ⟨rfl,hy0,hb,hkp⟩;refine ⟨_,rfl,?_⟩;replace HO_10:=ζa (Kd.R_mono (ok':=fun k_=>some k_≠(.slice Ao53 t952.length co53:Value).ownBlock) (Kd.R_keptB (HO_10.out) hkp (fun k_ hk_ hs_=>(hk_) hs_)) (fun k_ hk_=>hk_.1));replace HO_13:=ζa (Kd.R_reok rfl hy0 (fun k_ e_=>HO_13.out.1 k_ e_));replace HB:=ζa (hb);(try clear hb);(try clear hkp);(try clear hy0))|((with_reducible refine δv (f:=20) rfl ?_);refine goesL_ (some 85) rfl rfl Tryz.func20 (by kernel_rfl) rfl #[.slice Ao53 t965.length co53,.int .i64 1] rfl (by (try simp only [δd,δe,δf]);first|(rw [show t965.length=t952.length from (ζg HO_13.out).1.symm] <;> rfl)) ?_;(with_reducible refine (laws_heldPairS.calls kj34 _ _ t965 1 t966 _ ?side1 ?side2 A51.out).mono ?_);(case side1=>repeat (exact (ζg HO_13.out).2.2));(case side2=>rw [show t965.length=t952.length from (ζg HO_13.out).1.symm];exact (ζg HO_13.out).2.1);rintro e w55 ⟨rfl,hb⟩;refine ⟨_,rfl,?_⟩;replace HO_10:=ζa (ζh (by exact HO_10.out) hb);replace HO_13:=ζa (ζh (by exact HO_13.out) hb);replace HB:=ζa (δr (by exact HB.out) hb);(try clear hb);(try clear hb2);(try clear hk);(try clear hi)))
            go_ret
            exact ⟨by rfl,by repeat ((with_reducible exact HB.out))⟩
           ·
            rw [if_neg c52] at H
            have c52b0:decide (t966<0)=φ:=decide_eq_false c52
            clear c52
            by_cases c56:t966=t964
            ·
             rw [if_pos c56] at H
             have c56b0:(t966 == t964)=τ:=beq_iff_eq.mpr c56
             have c56b1:(t966 != t964)=φ:=bne_eq_false_iff_eq.mpr c56
             clear c56
             replace H:=Option.bind_eq_some_iff.mp H
             obtain ⟨t967,A570,H⟩:=H
             replace H:((impl_RemovePool.f kj34 a0 t967 a2 a3).bind fun bt970=>((laws_eqPairS.f kj34 bt970.1 t945).bind fun t974=>(if t974=τ then (laws_FnExactRemovePool.j2 kj34 t965 t964 (bt970.2 != t946)) else (laws_FnExactRemovePool.j2 kj34 t965 t964 τ))))=some r:=H
             have A57:=ζa A570
             clear A570
             replace H:=Option.bind_eq_some_iff.mp H
             obtain ⟨⟨t970,t971⟩,A580,H⟩:=H
             replace H:((laws_eqPairS.f kj34 t970 t945).bind fun t974=>(if t974=τ then (laws_FnExactRemovePool.j2 kj34 t965 t964 (t971 != t946)) else (laws_FnExactRemovePool.j2 kj34 t965 t964 τ)))=some r:=H
             have A58:=ζa A580
             clear A580
             have HC59:=ζa H
             clear H
             obtain ⟨Ao60,co60,eo60⟩:=Kd.R_slice HO_13.out
             subst eo60
             go_upto_region 29 with (first|((with_reducible refine δv (f:=19) rfl ?_);refine goesL_ (some 82) rfl rfl Tryz.func19 (by kernel_rfl) rfl #[.slice Ao60 t952.length co60,.int .i64 1] rfl (by (try simp only [δd,δe,δf]);rfl) ?_;(with_reducible refine (laws_markPairS.calls kj34 (fun k_=>some k_=(.slice Ao60 t952.length co60:Value).ownBlock) (.slice Ao60 t952.length co60) t952 1 t964 t965 w _ ?side1 ?side2 A50.out).mono ?_);(case side1=>repeat ((with_reducible exact HB.out)));(case side2=>exact Kd.R_tight rfl HO_13.out);rintro e w61 ⟨rfl,hy0,hb,hkp⟩;refine ⟨_,rfl,?_⟩;replace HO_10:=ζa (Kd.R_mono (ok':=fun k_=>some k_≠(.slice Ao60 t952.length co60:Value).ownBlock) (Kd.R_keptB (HO_10.out) hkp (fun k_ hk_ hs_=>(hk_) hs_)) (fun k_ hk_=>hk_.1));replace HO_13:=ζa (Kd.R_reok rfl hy0 (fun k_ e_=>HO_13.out.1 k_ e_));replace HB:=ζa (hb);(try clear hb);(try clear hkp);(try clear hy0))|((with_reducible refine δv (f:=20) rfl ?_);refine goesL_ (some 85) rfl rfl Tryz.func20 (by kernel_rfl) rfl #[.slice Ao60 t965.length co60,.int .i64 1] rfl (by (try simp only [δd,δe,δf]);first|(rw [show t965.length=t952.length from (ζg HO_13.out).1.symm] <;> rfl)) ?_;(with_reducible refine (laws_heldPairS.calls kj34 _ _ t965 1 t966 _ ?side1 ?side2 A51.out).mono ?_);(case side1=>repeat (exact (ζg HO_13.out).2.2));(case side2=>rw [show t965.length=t952.length from (ζg HO_13.out).1.symm];exact (ζg HO_13.out).2.1);rintro e w62 ⟨rfl,hb⟩;refine ⟨_,rfl,?_⟩;replace HO_10:=ζa (ζh (by exact HO_10.out) hb);replace HO_13:=ζa (ζh (by exact HO_13.out) hb);replace HB:=ζa (δr (by exact HB.out) hb);(try clear hb);(try clear hb2);(try clear hk);(try clear hi))|((with_reducible refine δv (f:=16) rfl ?_);refine goesL_ (some 94) rfl rfl Tryz.func16 (by kernel_rfl) rfl #[.slice A1 l1.length c1] rfl (by (try simp only [δd,δe,δf]);rfl) ?_;(with_reducible refine (laws_toPairS.calls kj34 _ _ l1 t967 _ ?side1 ?side2 A57.out).mono ?_);(case side1=>repeat (exact (Kd.C_below HR1.out HB.out)));(case side2=>exact HC1.out);rintro e w63 ⟨v968,rfl,ho0,hb⟩;refine ⟨_,rfl,?_⟩;have HO969:=ζa (Kd.R_lower (Kd.R_new' (Kd.R_new' ho0 (Kd.R_lt (by exact HO_10.out))) (Kd.R_lt (by exact HO_13.out))) (δs (by exact HB.out)));replace HO_10:=ζa (Kd.R_elder' (by exact HO_10.out) (Kd.R_base ho0) hb);replace HO_13:=ζa (Kd.R_elder' (by exact HO_13.out) (Kd.R_base ho0) hb);replace HB:=ζa (δr (by exact HB.out) hb);(try clear hb);(try clear hb2);(try clear hk);(try clear hi);(try clear ho0);obtain ⟨Ao64,co64,eo64⟩:=Kd.R_slice HO969.out;subst eo64)|((with_reducible refine δv (f:=36) rfl ?_);refine goesL_ (some 97) rfl rfl Tryz.func36 (by kernel_rfl) rfl #[.string a0,.slice Ao64 t967.length co64,.string a2,.int .i64 a3] rfl (by (try simp only [δd,δe,δf]);rfl) ?_;(with_reducible refine (impl_RemovePool.calls kj34 a0 _ _ t967 a2 a3 t970 t971 _ ?side1 ?side2 (HT0.out.below (by exact HB.out)) A58.out).mono ?_);(case side1=>repeat (exact (ζg HO969.out).2.2));(case side2=>exact (ζg HO969.out).2.1);rintro e w65 ⟨v972,rfl,ho0,hb⟩;refine ⟨_,rfl,?_⟩;have HO973:=ζa (Kd.R_lower (Kd.R_new' (Kd.R_new' (Kd.R_new' ho0 (Kd.R_lt (by exact HO_10.out))) (Kd.R_lt (by exact HO_13.out))) (Kd.R_lt (by exact HO969.out))) (δs (by exact HB.out)));replace HO_10:=ζa (Kd.R_elder' (by exact HO_10.out) (Kd.R_base ho0) hb);replace HO_13:=ζa (Kd.R_elder' (by exact HO_13.out) (Kd.R_base ho0) hb);replace HO969:=ζa (Kd.R_elder' (by exact HO969.out) (Kd.R_base ho0) hb);replace HB:=ζa (δr (by exact HB.out) hb);(try clear hb);(try clear hb2);(try clear hk);(try clear hi);(try clear ho0)))
             (try simp only [ζl,δa,δb,δc])
             go_cut [108] (fun v108 wc => ∃ (kq:Nat) (x108_58:Bool),v108 = .bool x108_58∧Aside0 (laws_FnExactRemovePool.j2 kq t965 t964 x108_58=some r)∧Aside0 (kq≤kj34)∧Aside0 (Kd.R k51 51 wc w.heap.size (fun _=>True) (.slice Ao60 t952.length co60) t965)∧Aside0 (Below w.heap.size w wc))
             case first =>
              have H:=HC59.out
              clear HC59
              replace H:=Option.bind_eq_some_iff.mp H
              obtain ⟨t974,A660,H⟩:=H
              replace H:(if t974=τ then (laws_FnExactRemovePool.j2 kj34 t965 t964 (t971 != t946)) else (laws_FnExactRemovePool.j2 kj34 t965 t964 τ))=some r:=H
              have A66:=ζa A660
              clear A660
              by_cases c67:t974=τ
              ·
               subst c67
               have H1:(laws_FnExactRemovePool.j2 kj34 t965 t964 (t971 != t946))=some r:=by rw [if_pos rfl] at H;exact H
               clear H
               have H:=H1
               clear H1
               have H':=ζa H
               clear H
               obtain ⟨Ao68,co68,eo68⟩:=Kd.R_slice HO973.out
               subst eo68
               obtain ⟨Ao69,co69,eo69⟩:=Kd.R_slice HO_10.out
               subst eo69
               go_wp2_with (((with_reducible refine δv (f:=18) rfl ?_);refine goesL_ (some 102) rfl rfl Tryz.func18 (by kernel_rfl) rfl #[.slice Ao68 t970.length co68,.slice Ao69 t945.length co69] rfl (by (try simp only [δd,δe,δf]);rfl) ?_;(with_reducible refine (laws_eqPairS.calls kj34 _ _ t970 _ _ t945 τ _ ?side1 ?side2 ?side3 ?side4 A66.out).mono ?_);(case side1=>repeat (exact (ζg HO973.out).2.2));(case side2=>exact (ζg HO973.out).2.1);(case side3=>repeat (exact (ζg HO_10.out).2.2));(case side4=>exact (ζg HO_10.out).2.1);rintro e w70 ⟨rfl,hb⟩;refine ⟨_,rfl,?_⟩;replace HO_10:=ζa (ζh (by exact HO_10.out) hb);replace HO_13:=ζa (ζh (by exact HO_13.out) hb);replace HO969:=ζa (ζh (by exact HO969.out) hb);replace HO973:=ζa (ζh (by exact HO973.out) hb);replace HB:=ζa (δr (by exact HB.out) hb);(try clear hb);(try clear hb2);(try clear hk);(try clear hi)))
               go_meet
               case rel=>exact ⟨_,((t971 != t946)),(by rfl),H',⟨by have:=HJ13.out;have:=HJ34.out;omega⟩,⟨by exact Kd.R_mono HO_13.out (fun _ hk=>trivial)⟩,⟨by repeat ((with_reducible exact HB.out))⟩⟩
              ·
               replace c67:=Bool.eq_false_iff.mpr c67
               subst c67
               have H1:(laws_FnExactRemovePool.j2 kj34 t965 t964 τ)=some r:=by rw [if_neg (show ¬ (φ=τ) by decide)] at H;exact H
               clear H
               have H:=H1
               clear H1
               have H':=ζa H
               clear H
               obtain ⟨Ao71,co71,eo71⟩:=Kd.R_slice HO973.out
               subst eo71
               obtain ⟨Ao72,co72,eo72⟩:=Kd.R_slice HO_10.out
               subst eo72
               go_wp2_with (((with_reducible refine δv (f:=18) rfl ?_);refine goesL_ (some 102) rfl rfl Tryz.func18 (by kernel_rfl) rfl #[.slice Ao71 t970.length co71,.slice Ao72 t945.length co72] rfl (by (try simp only [δd,δe,δf]);rfl) ?_;(with_reducible refine (laws_eqPairS.calls kj34 _ _ t970 _ _ t945 φ _ ?side1 ?side2 ?side3 ?side4 A66.out).mono ?_);(case side1=>repeat (exact (ζg HO973.out).2.2));(case side2=>exact (ζg HO973.out).2.1);(case side3=>repeat (exact (ζg HO_10.out).2.2));(case side4=>exact (ζg HO_10.out).2.1);rintro e w73 ⟨rfl,hb⟩;refine ⟨_,rfl,?_⟩;replace HO_10:=ζa (ζh (by exact HO_10.out) hb);replace HO_13:=ζa (ζh (by exact HO_13.out) hb);replace HO969:=ζa (ζh (by exact HO969.out) hb);replace HO973:=ζa (ζh (by exact HO973.out) hb);replace HB:=ζa (δr (by exact HB.out) hb);(try clear hb);(try clear hb2);(try clear hk);(try clear hi)))
               go_meet
               case rel=>exact ⟨_,(τ),(by rfl),H',⟨by have:=HJ13.out;have:=HJ34.out;omega⟩,⟨by exact Kd.R_mono HO_13.out (fun _ hk=>trivial)⟩,⟨by repeat ((with_reducible exact HB.out))⟩⟩
             case rest =>
              clear HC59
              try clear c1
              try clear c2
              try clear p2
              try clear c3
              try clear c4
              try clear c5
              try clear c5b0
              try clear c5b1
              try clear c6
              try clear c6b0
              try clear c6b1
              try clear c8
              try clear c8b0
              try clear c11
              try clear c14
              try clear c16
              try clear c18
              try clear c19
              try clear c20
              try clear c23
              try clear c30
              try clear c33
              try clear c35
              try clear c36
              try clear c40
              try clear c40b0
              try clear c42
              try clear c49
              try clear c52
              try clear c52b0
              try clear c56
              try clear c56b0
              try clear c56b1
              try clear c67
              try clear p2
              obtain ⟨kq,x108_58,rfl,HA,HJ58,HO_13,HB⟩:=hcut
              have hl13_58:=(ζg HO_13.out).1
              rw [hl13_58] at HO_13
              (try simp only [hl13_58])
              cases kq with
              | zero=>exact absurd HA.out (by simp [laws_FnExactRemovePool.j2])
              | succ kj58 =>
               have H:=HA.out
               clear HA
               simp only [laws_FnExactRemovePool.j2] at H
               by_cases c74:x108_58=τ
               ·
                subst c74
                have H1:(some φ)=some r:=by rw [if_pos rfl] at H;exact H
                clear H
                have H:=H1
                clear H1
                obtain rfl:=Option.some.inj H
                go_wp2
                go_ret
                exact ⟨by rfl,by repeat ((with_reducible exact HB.out))⟩
               ·
                replace c74:=Bool.eq_false_iff.mpr c74
                subst c74
                have H1:((laws_heldPairS.f kj58 t965 1).bind fun t975=>(if t975<0 then (some φ) else (if t975=t964 then (some τ) else (some φ))))=some r:=by rw [if_neg (show ¬ (φ=τ) by decide)] at H;exact H
                clear H
                have H:=H1
                clear H1
                replace H:=Option.bind_eq_some_iff.mp H
                obtain ⟨t975,A750,H⟩:=H
                replace H:(if t975<0 then (some φ) else (if t975=t964 then (some τ) else (some φ)))=some r:=H
                have A75:=ζa A750
                clear A750
                by_cases c76:t975<0
                ·
                 rw [if_pos c76] at H
                 have c76b0:decide (t975<0)=τ:=decide_eq_true c76
                 clear c76
                 obtain rfl:=Option.some.inj H
                 go_wp2_with (((with_reducible refine δv (f:=20) rfl ?_);refine goesL_ (some 111) rfl rfl Tryz.func20 (by kernel_rfl) rfl #[.slice Ao60 t965.length co60,.int .i64 1] rfl (by (try simp only [δd,δe,δf]);rfl) ?_;(with_reducible refine (laws_heldPairS.calls kj58 _ _ t965 1 t975 _ ?side1 ?side2 A75.out).mono ?_);(case side1=>repeat (exact (ζg HO_13.out).2.2));(case side2=>exact (ζg HO_13.out).2.1);rintro e w77 ⟨rfl,hb⟩;refine ⟨_,rfl,?_⟩;replace HO_13:=ζa (ζh (by exact HO_13.out) hb);replace HB:=ζa (δr (by exact HB.out) hb);(try clear hb);(try clear hb2);(try clear hk);(try clear hi)))
                 go_ret
                 exact ⟨by rfl,by repeat ((with_reducible exact HB.out))⟩
                ·
                 rw [if_neg c76] at H
                 have c76b0:decide (t975<0)=φ:=decide_eq_false c76
                 clear c76
                 by_cases c78:t975=t964
                 ·
                  rw [if_pos c78] at H
                  have c78b0:(t975 == t964)=τ:=beq_iff_eq.mpr c78
                  have c78b1:(t975 != t964)=φ:=bne_eq_false_iff_eq.mpr c78
                  clear c78
                  obtain rfl:=Option.some.inj H
                  go_wp2_with (((with_reducible refine δv (f:=20) rfl ?_);refine goesL_ (some 111) rfl rfl Tryz.func20 (by kernel_rfl) rfl #[.slice Ao60 t965.length co60,.int .i64 1] rfl (by (try simp only [δd,δe,δf]);rfl) ?_;(with_reducible refine (laws_heldPairS.calls kj58 _ _ t965 1 t975 _ ?side1 ?side2 A75.out).mono ?_);(case side1=>repeat (exact (ζg HO_13.out).2.2));(case side2=>exact (ζg HO_13.out).2.1);rintro e w79 ⟨rfl,hb⟩;refine ⟨_,rfl,?_⟩;replace HO_13:=ζa (ζh (by exact HO_13.out) hb);replace HB:=ζa (δr (by exact HB.out) hb);(try clear hb);(try clear hb2);(try clear hk);(try clear hi)))
                  go_ret
                  exact ⟨by rfl,by repeat ((with_reducible exact HB.out))⟩
                 ·
                  rw [if_neg c78] at H
                  have c78b0:(t975 == t964)=φ:=beq_eq_false_iff_ne.mpr c78
                  have c78b1:(t975 != t964)=τ:=bne_iff_ne.mpr c78
                  obtain rfl:=Option.some.inj H
                  go_wp2_with (((with_reducible refine δv (f:=20) rfl ?_);refine goesL_ (some 111) rfl rfl Tryz.func20 (by kernel_rfl) rfl #[.slice Ao60 t965.length co60,.int .i64 1] rfl (by (try simp only [δd,δe,δf]);rfl) ?_;(with_reducible refine (laws_heldPairS.calls kj58 _ _ t965 1 t975 _ ?side1 ?side2 A75.out).mono ?_);(case side1=>repeat (exact (ζg HO_13.out).2.2));(case side2=>exact (ζg HO_13.out).2.1);rintro e w80 ⟨rfl,hb⟩;refine ⟨_,rfl,?_⟩;replace HO_13:=ζa (ζh (by exact HO_13.out) hb);replace HB:=ζa (δr (by exact HB.out) hb);(try clear hb);(try clear hb2);(try clear hk);(try clear hi)))
                  go_ret
                  exact ⟨by rfl,by repeat ((with_reducible exact HB.out))⟩
            ·
             rw [if_neg c56] at H
             have c56b0:(t966 == t964)=φ:=beq_eq_false_iff_ne.mpr c56
             have c56b1:(t966 != t964)=τ:=bne_iff_ne.mpr c56
             obtain rfl:=Option.some.inj H
             obtain ⟨Ao81,co81,eo81⟩:=Kd.R_slice HO_13.out
             subst eo81
             go_wp2_with (first|((with_reducible refine δv (f:=19) rfl ?_);refine goesL_ (some 82) rfl rfl Tryz.func19 (by kernel_rfl) rfl #[.slice Ao81 t952.length co81,.int .i64 1] rfl (by (try simp only [δd,δe,δf]);rfl) ?_;(with_reducible refine (laws_markPairS.calls kj34 (fun k_=>some k_=(.slice Ao81 t952.length co81:Value).ownBlock) (.slice Ao81 t952.length co81) t952 1 t964 t965 w _ ?side1 ?side2 A50.out).mono ?_);(case side1=>repeat ((with_reducible exact HB.out)));(case side2=>exact Kd.R_tight rfl HO_13.out);rintro e w82 ⟨rfl,hy0,hb,hkp⟩;refine ⟨_,rfl,?_⟩;replace HO_10:=ζa (Kd.R_mono (ok':=fun k_=>some k_≠(.slice Ao81 t952.length co81:Value).ownBlock) (Kd.R_keptB (HO_10.out) hkp (fun k_ hk_ hs_=>(hk_) hs_)) (fun k_ hk_=>hk_.1));replace HO_13:=ζa (Kd.R_reok rfl hy0 (fun k_ e_=>HO_13.out.1 k_ e_));replace HB:=ζa (hb);(try clear hb);(try clear hkp);(try clear hy0))|((with_reducible refine δv (f:=20) rfl ?_);refine goesL_ (some 85) rfl rfl Tryz.func20 (by kernel_rfl) rfl #[.slice Ao81 t965.length co81,.int .i64 1] rfl (by (try simp only [δd,δe,δf]);first|(rw [show t965.length=t952.length from (ζg HO_13.out).1.symm] <;> rfl)) ?_;(with_reducible refine (laws_heldPairS.calls kj34 _ _ t965 1 t966 _ ?side1 ?side2 A51.out).mono ?_);(case side1=>repeat (exact (ζg HO_13.out).2.2));(case side2=>rw [show t965.length=t952.length from (ζg HO_13.out).1.symm];exact (ζg HO_13.out).2.1);rintro e w83 ⟨rfl,hb⟩;refine ⟨_,rfl,?_⟩;replace HO_10:=ζa (ζh (by exact HO_10.out) hb);replace HO_13:=ζa (ζh (by exact HO_13.out) hb);replace HB:=ζa (δr (by exact HB.out) hb);(try clear hb);(try clear hb2);(try clear hk);(try clear hi)))
             go_ret
             exact ⟨by rfl,by repeat ((with_reducible exact HB.out))⟩
       ·
        replace c33:=Bool.eq_false_iff.mpr c33
        subst c33
        have H1:(some φ)=some r:=by rw [if_neg (show ¬ (φ=τ) by decide)] at H;exact H
        clear H
        have H:=H1
        clear H1
        obtain rfl:=Option.some.inj H
        go_wp2_with (first|((with_reducible refine δv (f:=16) rfl ?_);refine goesL_ (some 61) rfl rfl Tryz.func16 (by kernel_rfl) rfl #[.slice A1 l1.length c1] rfl (by (try simp only [δd,δe,δf]);rfl) ?_;(with_reducible refine (laws_toPairS.calls kj13 _ _ l1 t957 _ ?side1 ?side2 A31.out).mono ?_);(case side1=>repeat (exact (Kd.C_below HR1.out HB.out)));(case side2=>exact HC1.out);rintro e w84 ⟨v958,rfl,ho0,hb⟩;refine ⟨_,rfl,?_⟩;have HO959:=ζa (Kd.R_lower (Kd.R_new' (Kd.R_new' (Kd.R_new' ho0 (Kd.R_lt (by exact HO_10.out))) (Kd.R_lt (by exact HO_12.out))) (Kd.R_lt (by exact HO_13.out))) (δs (by exact HB.out)));replace HO_10:=ζa (Kd.R_elder' (by exact HO_10.out) (Kd.R_base ho0) hb);replace HO_12:=ζa (Kd.R_elder' (by exact HO_12.out) (Kd.R_base ho0) hb);replace HO_13:=ζa (Kd.R_elder' (by exact HO_13.out) (Kd.R_base ho0) hb);replace HB:=ζa (δr (by exact HB.out) hb);(try clear hb);(try clear hb2);(try clear hk);(try clear hi);(try clear ho0);obtain ⟨Ao85,co85,eo85⟩:=Kd.R_slice HO959.out;subst eo85)|((with_reducible refine δv (f:=18) rfl ?_);refine goesL_ (some 62) rfl rfl Tryz.func18 (by kernel_rfl) rfl #[.slice Ao20 t949.length co20,.slice Ao85 t957.length co85] rfl (by (try simp only [δd,δe,δf]);rfl) ?_;(with_reducible refine (laws_eqPairS.calls kj13 _ _ t949 _ _ t957 φ _ ?side1 ?side2 ?side3 ?side4 A32.out).mono ?_);(case side1=>repeat (exact (ζg HO_12.out).2.2));(case side2=>exact (ζg HO_12.out).2.1);(case side3=>repeat (exact (ζg HO959.out).2.2));(case side4=>exact (ζg HO959.out).2.1);rintro e w86 ⟨rfl,hb⟩;refine ⟨_,rfl,?_⟩;replace HO_10:=ζa (ζh (by exact HO_10.out) hb);replace HO_12:=ζa (ζh (by exact HO_12.out) hb);replace HO_13:=ζa (ζh (by exact HO_13.out) hb);replace HO959:=ζa (ζh (by exact HO959.out) hb);replace HB:=ζa (δr (by exact HB.out) hb);(try clear hb);(try clear hb2);(try clear hk);(try clear hi)))
        go_ret
        exact ⟨by rfl,by repeat ((with_reducible exact HB.out))⟩


open Go.Proofs.YtabmfhnhmoiljaaGreatDoorW.PrintWords renaming below_drew1 → δj, pw_below_drewN → δi, below_step → δr

/-! ### impl_mint_1_1: function 158 -/
set_option maxHeartbeats 2000000 in
set_option maxRecDepth 100000 in
theorem impl_mint_1_1.calls (k:Nat) (A0:Option Addr) (c0:Nat) (l0:List S51) (pd pn_:Addr) (d:ByteArray) (n_:Int) (r1:List S51) (r2:Int) (w:World) (hr0:Kd.C k51 w A0 l0.length l0) (hc0:l0.length≤c0) (hT0:TabsOK w) (hd:w.cell? pd=some (.string d)) (hn_:w.cell? pn_=some (.int .i64 n_))
  (h:((impl_supplyKey.f d).bind fun key=>impl_more.f k l0 key n_)=some (r1,r2)) :
  Calls Tryz.prog 158 #[.slice A0 l0.length c0,.pointer (some pd),.pointer (some pn_)] w fun e w' => ∃ v0_:Value,e = .returned (.tuple #[v0_,.int .i64 r2])∧(r2=0→Kd.R k51 51 w' w.heap.size (fun _=>True) v0_ r1)∧Below w.heap.size w w':=by
 obtain ⟨key,hk,h⟩:=Option.bind_eq_some_iff.mp h
 have HK:=ζa hk
 have HF:=ζa h
 have HR0:=ζa hr0
 have HC0:=ζa hc0
 have HT0:=ζa hT0
 have HB0:=ζa (Below.refl w.heap.size w)
 have Hd:=ζa hd
 have Hn_:=ζa hn_
 clear hk h hr0 hc0 hT0
 go_enter Tryz.func158,Tryz.ntmps158
 go_wp2_with fail
 go_region_held3 (fun w'=>w'.cell? pd=some (.string d)∧w'.cell? pn_=some (.int .i64 n_)) (first|go_keep|exact ⟨cell_keep HB3.out Hd.out,cell_keep HB3.out Hn_.out⟩)
  (first
   | (go_at_call 156;refine (impl_supplyKey.calls d key _ HK.out).mono ?_;rintro e w' ⟨rfl,⟨q',rfl⟩⟩)
   | (go_at_call 145;refine (impl_more.calls k A0 c0 l0 key n_ r1 r2 _ (by repeat (first|exact HR0.out|apply Kd.C_drew|apply Kd.C_drewN)) HC0.out (by first|exact HT0.out|exact HT0.out.below (by repeat (first|exact HB0.out|apply δj|apply δi))) HF.out).mono ?_;rintro e w3 ⟨v3,rfl,ho,hb⟩;have HO3:=ζa ho;have HB3:Aside0 (Below w.heap.size w w3):=⟨δr (by repeat (first|exact HB0.out|apply δj|apply δi)) hb⟩;clear ho hb))
 all_goals go_wp2
 all_goals (go_ret2;exact ⟨_,rfl,fun h0=>HO3.out h0,HB3.out⟩)



/-! ### impl_mint_1_2: function 159 -/
set_option maxHeartbeats 2000000 in
set_option maxRecDepth 100000 in
theorem impl_mint_1_2.calls (k:Nat) (A0:Option Addr) (c0:Nat) (l0:List S51) (pd pa pn_:Addr) (d a:ByteArray) (n_:Int) (r1:List S51) (r2:Int) (w:World) (hr0:Kd.C k51 w A0 l0.length l0) (hc0:l0.length≤c0) (hT0:TabsOK w) (hd:w.cell? pd=some (.string d)) (ha:w.cell? pa=some (.string a)) (hn_:w.cell? pn_=some (.int .i64 n_))
  (h:((impl_balanceKey.f d a).bind fun key=>impl_more.f k l0 key n_)=some (r1,r2)) :
  Calls Tryz.prog 159 #[.slice A0 l0.length c0,.pointer (some pd),.pointer (some pa),.pointer (some pn_)] w fun e w' => ∃ v0_:Value,e = .returned (.tuple #[v0_,.int .i64 r2])∧(r2=0→Kd.R k51 51 w' w.heap.size (fun _=>True) v0_ r1)∧Below w.heap.size w w':=by
 obtain ⟨key,hk,h⟩:=Option.bind_eq_some_iff.mp h
 have HK:=ζa hk
 have HF:=ζa h
 have HR0:=ζa hr0
 have HC0:=ζa hc0
 have HT0:=ζa hT0
 have HB0:=ζa (Below.refl w.heap.size w)
 have Hd:=ζa hd
 have Ha:=ζa ha
 have Hn_:=ζa hn_
 clear hk h hr0 hc0 hT0
 go_enter Tryz.func159,Tryz.ntmps159
 go_wp2_with fail
 go_region_held3 (fun w'=>w'.cell? pd=some (.string d)∧w'.cell? pa=some (.string a)∧w'.cell? pn_=some (.int .i64 n_)) (first|go_keep|exact ⟨cell_keep HB3.out Hd.out,cell_keep HB3.out Ha.out,cell_keep HB3.out Hn_.out⟩)
  (first
   | (go_at_call 143;refine (impl_balanceKey.calls d a key _ HK.out).mono ?_;rintro e w' ⟨rfl,⟨q',rfl⟩⟩)
   | (go_at_call 145;refine (impl_more.calls k A0 c0 l0 key n_ r1 r2 _ (by repeat (first|exact HR0.out|apply Kd.C_drew|apply Kd.C_drewN)) HC0.out (by first|exact HT0.out|exact HT0.out.below (by repeat (first|exact HB0.out|apply δj|apply δi))) HF.out).mono ?_;rintro e w3 ⟨v3,rfl,ho,hb⟩;have HO3:=ζa ho;have HB3:Aside0 (Below w.heap.size w w3):=⟨δr (by repeat (first|exact HB0.out|apply δj|apply δi)) hb⟩;clear ho hb))
 all_goals go_wp2
 all_goals (go_ret2;exact ⟨_,rfl,fun h0=>HO3.out h0,HB3.out⟩)


open Go.Proofs.YtabmfhnhmoiljaaGreatDoorW.PrintWords renaming below_alloc → δk, below_step → δr

/-! ### impl_mint_1: function 157 -/
def impl_mint.F (k:Nat) (a d:ByteArray) (n_:Int):List S51→Option (List S51 × Int):=fun l0=>impl_all.f k l0 [(fun l=>(impl_supplyKey.f d).bind fun key=>impl_more.f k l key n_),(fun l=>(impl_balanceKey.f d a).bind fun key=>impl_more.f k l key n_)]
set_option maxHeartbeats 2000000 in
set_option maxRecDepth 100000 in
theorem impl_mint_1.calls (k:Nat) (A0:Option Addr) (c0:Nat) (l0:List S51) (pa pd pn_:Addr) (a d:ByteArray) (n_:Int) (r1:List S51) (r2:Int) (w:World) (hr0:Kd.C k51 w A0 l0.length l0) (hc0:l0.length≤c0) (hT0:TabsOK w) (ha:w.cell? pa=some (.string a)) (hd:w.cell? pd=some (.string d)) (hn_:w.cell? pn_=some (.int .i64 n_)) (h:impl_mint.F k a d n_ l0=some (r1,r2)) :
  Calls Tryz.prog 157 #[.slice A0 l0.length c0,.pointer (some pd),.pointer (some pn_),.pointer (some pa)] w fun e w' => ∃ v0_:Value,e = .returned (.tuple #[v0_,.int .i64 r2])∧Kd.R k51 51 w' w.heap.size (fun _=>True) v0_ r1∧Below w.heap.size w w':=by
 have HH:=ζa h
 have HR0:=ζa hr0
 have HC0:=ζa hc0
 have HT0:=ζa hT0
 have Ha:=ζa ha
 have Hd:=ζa hd
 have Hn_:=ζa hn_
 have HB:=ζa (Below.refl w.heap.size w)
 clear h hr0 hc0 hT0 ha hd hn_
 go_enter Tryz.func157,Tryz.ntmps157
 go_wp2_with fail
 have HB1:Aside0 (Below w.heap.size w (w.alloc (.cells ([((158,#[.pointer (some pd),.pointer (some pn_)]):FV),(159,#[.pointer (some pd),.pointer (some pa),.pointer (some pn_)])].map encF).toArray 79))):=⟨δk HB.out _⟩
 refine (impl_all.calls k A0 c0 l0 _ _ [(158,#[.pointer (some pd),.pointer (some pn_)]),(159,#[.pointer (some pd),.pointer (some pa),.pointer (some pn_)])] [(fun l=>(impl_supplyKey.f d).bind fun key=>impl_more.f k l key n_),(fun l=>(impl_balanceKey.f d a).bind fun key=>impl_more.f k l key n_)] r1 r2 _ (Kd.C_alloc HR0.out _) HC0.out (rowF _ (show 2≤1000 by decide) (heap_alloc_new _ _)) rfl ?_ HH.out).mono ?_
 ·
  intro i x F hx hF
  rcases i with _|_|i
  ·
   simp only [List.getElem?_cons_zero,Option.some.injEq] at hx hF
   subst hx hF
   exact ⟨enters_of Tryz.func158 (by kernel_rfl) rfl,fun W A c l r code hb hr hc hF=>impl_mint_1_1.calls k A c l pd pn_ d n_ r code W hr hc ((HT0.out.below HB1.out).below hb) (cell_keep hb (cell_keep HB1.out Hd.out)) (cell_keep hb (cell_keep HB1.out Hn_.out)) hF⟩
  ·
   simp only [List.getElem?_cons_succ,List.getElem?_cons_zero,Option.some.injEq] at hx hF
   subst hx hF
   exact ⟨enters_of Tryz.func159 (by kernel_rfl) rfl,fun W A c l r code hb hr hc hF=>impl_mint_1_2.calls k A c l pd pa pn_ d a n_ r code W hr hc ((HT0.out.below HB1.out).below hb) (cell_keep hb (cell_keep HB1.out Hd.out)) (cell_keep hb (cell_keep HB1.out Ha.out)) (cell_keep hb (cell_keep HB1.out Hn_.out)) hF⟩
  · simp at hx
 rintro e w3 ⟨v3,rfl,ho,hb⟩
 have HO3:=ζa (Kd.R_lower ho HB1.out.size)
 have HB3:=ζa (δr HB1.out hb)
 clear ho hb
 go_wp2
 go_ret2
 exact ⟨_,rfl,HO3.out,HB3.out⟩


open Go.Proofs.YtabmfhnhmoiljaaGreatDoorW.PrintWords renaming gate_dst → δx, box_event → δz, below_step → δr, below_alloc → δk, pw_below_drewN → δi, below_drew1 → δj, blk_cell → δl

/-! ### impl_mint: function 100 -/
set_option maxHeartbeats 2000000 in
set_option maxRecDepth 100000 in
theorem impl_mint.calls (k:Nat) (a d:ByteArray) (n_:Int) (w:World) (hT0:TabsOK w) :
  Calls Tryz.prog 100 #[.string a,.string d,.int .i64 n_] w fun e w' => ∃ (g:Nat) (lb:Array Value),e = .returned (.func (.func g) #[] lb)∧ChgR w' (g,lb) (impl_mint.F k a d n_)∧Below w.heap.size w w':=by
 have HT0:=ζa hT0
 have HB:=ζa (Below.refl w.heap.size w)
 clear hT0
 go_enter Tryz.func100,Tryz.ntmps100
 go_wp2_with (first
  | ((with_reducible refine δx (N:=3) rfl ?_);refine δz ?hg (N:=3) ?hd (cs:=#[(.string a)]) (t:=9) ?hr ?_;(case hd=>rfl);(case hg=>rfl);(case hr=>first|(go_simp;done)|(go_simp;rfl));intro gba hg wa hbox hb;replace HB:=ζa (δr (by repeat (first|exact HB.out|apply δk|apply δi|apply δj)) hb);have BKa:=ζa hbox;clear hb hbox hg)
  | ((with_reducible refine δx (N:=4) rfl ?_);refine δz ?hg (N:=4) ?hd (cs:=#[(.string d)]) (t:=9) ?hr ?_;(case hd=>rfl);(case hg=>rfl);(case hr=>first|(go_simp;done)|(go_simp;rfl));intro gbd hg wd hbox hb;replace HB:=ζa (δr (by repeat (first|exact HB.out|apply δk|apply δi|apply δj)) hb);have BKd:=ζa hbox;have ma:=ζa (blk_below BKa.out hb);clear BKa;have BKa:=ma;clear ma;clear hb hbox hg)
  | ((with_reducible refine δx (N:=5) rfl ?_);refine δz ?hg (N:=5) ?hd (cs:=#[(.int .i64 n_)]) (t:=3) ?hr ?_;(case hd=>rfl);(case hg=>rfl);(case hr=>first|(go_simp;done)|(go_simp;rfl));intro gbn_ hg wn_ hbox hb;replace HB:=ζa (δr (by repeat (first|exact HB.out|apply δk|apply δi|apply δj)) hb);have BKn_:=ζa hbox;have ma:=ζa (blk_below BKa.out hb);clear BKa;have BKa:=ma;clear ma;have md:=ζa (blk_below BKd.out hb);clear BKd;have BKd:=md;clear md;clear hb hbox hg))
 go_ret
 refine ⟨_,_,rfl,⟨enters_of Tryz.func157 (by kernel_rfl) rfl,fun W A c l r code hb hr hc hF => ?_⟩,HB.out⟩
 exact (impl_mint_1.calls k A c l _ _ _ a d n_ r code W hr hc ((HT0.out.below HB.out).below hb) ((δl (blk_below BKa.out hb) 0).trans rfl) ((δl (blk_below BKd.out hb) 0).trans rfl) ((δl (blk_below BKn_.out hb) 0).trans rfl) hF)

end Go.Proofs.YtabmfhnhmoiljaaGreatDoor.Q

/- Plain arithmetic: products of two amounts in halves of nine digits; long division digit by digit. No program. -/
namespace Go.Proofs.YtabmfhnhmoiljaaGreatDoor.U
open Go Go.RowKit
set_option linter.unusedVariables false
set_option linter.unusedSimpArgs false

theorem wid {n : Int} (h0 : -9223372036854775808 ≤ n) (h1 : n ≤ 9223372036854775807) : wrap64 n = n := IntWalk.wrap64_in n ⟨h0, h1⟩
theorem tdiv_nn {a b : Int} (h : 0 ≤ a) : Int.tdiv a b = a / b := Int.tdiv_eq_ediv_of_nonneg h
theorem tmod_nn {a b : Int} (h : 0 ≤ a) : Int.tmod a b = a % b := Int.tmod_eq_emod_of_nonneg h
theorem u64w (n : Int) : IntKind.u64.wrap n = n % 18446744073709551616 := by simp [IntKind.wrap, IntKind.bits, IntKind.signed]
theorem u64id {n : Int} (h0 : 0 ≤ n) (h1 : n < 18446744073709551616) : IntKind.u64.wrap n = n := by rw [u64w]; exact Int.emod_eq_of_lt h0 h1

theorem mul_bd {x y X Y : Int} (hx : 0 ≤ x) (hx' : x ≤ X) (hy : 0 ≤ y) (hy' : y ≤ Y) : 0 ≤ x * y ∧ x * y ≤ X * Y :=
  ⟨Int.mul_nonneg hx hy, Int.mul_le_mul hx' hy' hy (Int.le_trans hx hx')⟩

theorem wide_eq (a b : Int) (ha : 0 ≤ a) (ha' : a ≤ 1000000000000000000) (hb : 0 ≤ b) (hb' : b ≤ 1000000000000000000) :
    a * b = (a / 1000000000) * (b / 1000000000) * 1000000000000000000 + ((a / 1000000000) * (b % 1000000000) + (a % 1000000000) * (b / 1000000000)) * 1000000000 + (a % 1000000000) * (b % 1000000000) := by
  have e1 : a = (a / 1000000000) * 1000000000 + a % 1000000000 := by omega
  have e2 : b = (b / 1000000000) * 1000000000 + b % 1000000000 := by omega
  generalize a / 1000000000 = x at *
  generalize a % 1000000000 = y at *
  generalize b / 1000000000 = z at *
  generalize b % 1000000000 = u at *
  subst e1 e2
  grind

/-- One digit more of a long division. -/
theorem digit_step (c T out rest low : Int) (hc : 1 ≤ c) (hT : 1 ≤ T) (hr : 0 ≤ rest) (hl : 0 ≤ low) :
    (out * 10 + (10 * rest + low / T % 10) / c) * T + ((10 * rest + low / T % 10) % c * T + low % T) / c = out * (10 * T) + (rest * (10 * T) + low % (10 * T)) / c := by
  have e1 : low % (10 * T) = low / T % 10 * T + low % T := by
    have h1 : low / (10 * T) = low / T / 10 := by rw [Int.mul_comm, Int.ediv_ediv_of_nonneg (by omega)]
    have h2 := Int.mul_ediv_add_emod low (10 * T)
    have h3 := Int.mul_ediv_add_emod low T
    have h4 := Int.mul_ediv_add_emod (low / T) 10
    rw [h1] at h2
    generalize low / T / 10 = p at *
    generalize low / T % 10 = d at *
    generalize low / T = m at *
    subst h4
    generalize low % T = e at *
    generalize low % (10 * T) = f at *
    grind
  have h5 := Int.mul_ediv_add_emod (10 * rest + low / T % 10) c
  generalize low / T % 10 = d at *
  generalize (10 * rest + d) / c = q at *
  generalize (10 * rest + d) % c = s at *
  have e2 : rest * (10 * T) + low % (10 * T) = c * (q * T) + (s * T + low % T) := by
    rw [e1]
    generalize low % T = e at *
    grind
  rw [e2, Int.mul_add_ediv_left _ _ (by omega)]
  grind

/-- Knuth's step: a digit that is guessed too great is told by the lower half. -/
theorem knuth_lower (Y yn1 yn0 u v q : Int) (hY : Y = yn1 * 4294967296 + yn0) (h0 : 0 ≤ yn0) (hv : 0 ≤ v) (hv' : v < 4294967296) (hq : 0 ≤ q) (h : q * Y ≤ u * 4294967296 + v) : q * yn1 ≤ u := by
  have h1 : q * Y = q * yn1 * 4294967296 + q * yn0 := by subst hY; grind
  have h2 : 0 ≤ q * yn0 := Int.mul_nonneg hq h0
  omega

end Go.Proofs.YtabmfhnhmoiljaaGreatDoor.U

/- A number's digits: the reference's are the library's. -/
namespace Go.Proofs.YtabmfhnhmoiljaaGreatDoor.U
open Go Go.RowKit Go.Proofs.YtabmfhnhmoiljaaGreatDoor.Q Go.Proofs.YtabmfhnhmoiljaaGreatDoorW.PrintWords Go.Proofs.YtabmfhnhmoiljaaGreatDoorW.PrintLast Go.Proofs.YtabmfhnhmoiljaaGreatDoorW.PrintMore
set_option linter.unusedVariables false
set_option linter.unusedSimpArgs false

def digV (u : Nat) : ByteArray := ⟨(Lib.decDigits u).toArray⟩
theorem one_digit (u : Nat) (h : u < 10) : strOfNums [(wrap64 (48 + (u : Int))) % 256] = ⟨#[UInt8.ofNat (48 + u)]⟩ := by
  rw [wid (by omega) (by omega)]
  have : ((48 + (u : Int)) % 256) = ((48 + u : Nat) : Int) := by omega
  rw [this]
  rfl
theorem digits_ev (u : Nat) (hu : u ≤ 1000000000000000000) : Ev (fun k => spec_l00Digits.f k (u : Int)) (digV u) := by
  induction u using Nat.strongRecOn with
  | _ u ih =>
    by_cases h : u < 10
    · refine Ev.step (fun k => ?_) (Ev.now _)
      rw [spec_l00Digits.f, if_neg (by omega), if_neg (by omega), if_pos (by omega), one_digit u h, digV, Lib.decDigits_one h]
    · have e1 : wrap64 (Int.tdiv (u : Int) 10) = ((u / 10 : Nat) : Int) := by rw [tdiv_nn (by omega), wid (by omega) (by omega)]; omega
      have e2 : Int.tmod (u : Int) 10 = ((u % 10 : Nat) : Int) := by rw [tmod_nn (by omega)]; omega
      have hs : (digV (u / 10)).size ≤ u := by
        show (Lib.decDigits (u / 10)).toArray.size ≤ u
        rw [List.size_toArray, Lib.decDigits_length]
        have hn : ∀ v : Nat, 1 ≤ v → Lib.nDigits v ≤ v := by
          intro v
          induction v using Nat.strongRecOn with
          | _ v ihv =>
            intro h1
            rw [Lib.nDigits]
            split
            · exact h1
            · have := ihv (v / 10) (by omega) (by omega); omega
        have := hn (u / 10) (by omega)
        omega
      refine Ev.step (f := fun k => (spec_l00Digits.f k ((u / 10 : Nat) : Int)).bind fun t => if t.size + 1 ≤ 9223372036854775807 then some (t ++ (⟨#[UInt8.ofNat (48 + u % 10)]⟩ : ByteArray)) else none) (fun k => ?_) ?_
      · rw [spec_l00Digits.f, if_neg (by omega), if_neg (by omega), if_neg (by omega), e1, e2]
        simp only [Option.bind_some, one_digit (u % 10) (by omega)]
        rfl
      · refine Ev.bind (ih (u / 10) (by omega) (by omega)) ?_
        simp only [if_pos (show (digV (u / 10)).size + 1 ≤ 9223372036854775807 by omega)]
        have : digV (u / 10) ++ (⟨#[UInt8.ofNat (48 + u % 10)]⟩ : ByteArray) = digV u := by
          unfold digV
          conv => rhs; rw [Lib.decDigits, dif_neg h]
          apply ByteArray.ext
          simp
        rw [this]
        exact Ev.now _
theorem itoa_eq (n : Int) (h : 0 ≤ n) : (⟨(Lib.itoa n).toArray⟩ : ByteArray) = digV n.toNat := by
  unfold Lib.itoa digV
  rw [if_neg (by omega)]
end Go.Proofs.YtabmfhnhmoiljaaGreatDoor.U

/- Amounts: the number that a text tells, as the program and as the reference read it. -/
namespace Go.Proofs.YtabmfhnhmoiljaaGreatDoor.U
open Go Go.RowKit Go.Proofs.YtabmfhnhmoiljaaGreatDoor.Q Go.Proofs.YtabmfhnhmoiljaaGreatDoorW.PrintWords Go.Proofs.YtabmfhnhmoiljaaGreatDoorW.PrintLast Go.Proofs.YtabmfhnhmoiljaaGreatDoorW.PrintMore
set_option linter.unusedVariables false
set_option linter.unusedSimpArgs false

theorem nd_small (j v : Nat) (h : v < 10 ^ (j + 1)) : Lib.nDigits v ≤ j + 1 := by
  induction j generalizing v with
  | zero => rw [Lib.nDigits, dif_pos (by simpa using h)]; omega
  | succ j ih =>
    rw [Lib.nDigits]
    split
    · omega
    · have := ih (v / 10) (by rw [Nat.pow_succ] at h; omega); omega
theorem digV_size (v : Nat) (h : v ≤ 1000000000000000000) : (digV v).size ≤ 19 := by
  show (Lib.decDigits v).toArray.size ≤ 19
  rw [List.size_toArray, Lib.decDigits_length]
  exact nd_small 18 v (by omega)
theorem dec_big {v : Nat} (h : ¬ v < 10) : Lib.decDigits v = Lib.decDigits (v / 10) ++ [UInt8.ofNat (48 + v % 10)] := by
  conv => lhs; rw [Lib.decDigits, dif_neg h]
theorem chr_nat (d : Nat) (h : d < 10) : (UInt8.ofNat (48 + d)).toNat = 48 + d := by
  rw [UInt8.toNat_ofNat']; omega

/-- Digits, one behind the other, onto what those ahead tell. -/
def telD (x : Nat) : List UInt8 → Option Nat
  | [] => some x
  | c :: r => if c.toNat < 48 ∨ 57 < c.toNat then none else if (1000000000000000000 - (c.toNat - 48)) / 10 < x then none else telD (x * 10 + (c.toNat - 48)) r
theorem telD_append (l r : List UInt8) : ∀ x, telD x (l ++ r) = (telD x l).bind fun y => telD y r := by
  induction l with
  | nil => intro x; rfl
  | cons c l ih =>
    intro x
    simp only [List.cons_append, telD]
    split
    · rfl
    · split
      · rfl
      · exact ih _
theorem telD_one (x d : Nat) (hd : d < 10) (h : x * 10 + d ≤ 1000000000000000000) : telD x [UInt8.ofNat (48 + d)] = some (x * 10 + d) := by
  simp only [telD, chr_nat d hd]
  rw [if_neg (by omega), if_neg (by omega)]
  congr 1; omega
theorem telD_dec (v : Nat) (h : v ≤ 1000000000000000000) : telD 0 (Lib.decDigits v) = some v := by
  induction v using Nat.strongRecOn with
  | _ v ih =>
    by_cases hv : v < 10
    · rw [Lib.decDigits_one hv, telD_one 0 v hv (by omega)]; congr 1; omega
    · rw [dec_big hv, telD_append, ih (v / 10) (by omega) (by omega)]
      show telD (v / 10) _ = _
      rw [telD_one _ _ (by omega) (by omega)]; congr 1; omega
/-- No needless naught ahead. -/
def plainB (l : List UInt8) : Bool := decide (l ≠ []) && (decide (l.length = 1) || decide (l.head? ≠ some 48))
theorem snoc_cases {α : Type} (l : List α) : l = [] ∨ ∃ (i : List α) (c : α), l = i ++ [c] := by
  rcases List.eq_nil_or_concat l with h | ⟨i, c, h⟩
  · exact .inl h
  · exact .inr ⟨i, c, by rw [h, List.concat_eq_append]⟩
theorem telD_snoc {l : List UInt8} {c : UInt8} {n : Nat} (h : telD 0 (l ++ [c]) = some n) :
    ∃ m, telD 0 l = some m ∧ 48 ≤ c.toNat ∧ c.toNat ≤ 57 ∧ n = m * 10 + (c.toNat - 48) ∧ n ≤ 1000000000000000000 := by
  rw [telD_append] at h
  obtain ⟨m, h1, h2⟩ := Option.bind_eq_some_iff.mp h
  refine ⟨m, h1, ?_⟩
  simp only [telD] at h2
  split at h2
  · cases h2
  · split at h2
    · cases h2
    · injection h2 with h2
      omega
theorem dec_of_telD (k : Nat) : ∀ (l : List UInt8) (n : Nat), l.length = k → plainB l = true → telD 0 l = some n → l = Lib.decDigits n ∧ n ≤ 1000000000000000000 := by
  induction k with
  | zero =>
    intro l n hl hp h
    have : l = [] := List.length_eq_zero_iff.1 hl
    subst this
    simp [plainB] at hp
  | succ k ih =>
    intro l n hl hp h
    rcases snoc_cases l with rfl | ⟨i, c, rfl⟩
    · simp at hl
    obtain ⟨m, h1, h2, h3, h4, h5⟩ := telD_snoc h
    refine ⟨?_, h5⟩
    by_cases hi : i = []
    · subst hi
      simp only [telD, Option.some.injEq] at h1
      subst h1
      rw [Lib.decDigits_one (by omega), h4]
      simp only [List.nil_append, List.cons.injEq, and_true]
      apply UInt8.toNat_inj.1
      rw [chr_nat _ (by omega)]; omega
    · have hne : i.head? ≠ some 48 := by
        simp only [plainB, Bool.and_eq_true, Bool.or_eq_true, decide_eq_true_iff] at hp
        rcases hp.2 with hp | hp
        · rw [List.length_append, List.length_singleton] at hp
          exact absurd (List.length_eq_zero_iff.1 (by omega)) hi
        · cases i with
          | nil => exact absurd rfl hi
          | cons a i => simpa using hp
      obtain ⟨e, _⟩ := ih i m (by rw [List.length_append, List.length_singleton] at hl; omega) (by simp only [plainB, Bool.and_eq_true, Bool.or_eq_true, decide_eq_true_iff]; exact ⟨hi, .inr hne⟩) h1
      have hm : m ≠ 0 := by
        rintro rfl
        rw [e, Lib.decDigits_one (by omega)] at hne
        exact hne rfl
      rw [dec_big (v := n) (by omega)]
      have e1 : n / 10 = m := by omega
      have e2 : n % 10 = c.toNat - 48 := by omega
      rw [e1, e2, ← e]
      congr 2
      apply UInt8.toNat_inj.1
      rw [chr_nat _ (by omega)]; omega
theorem dec_head (v : Nat) : ∃ d r, d < 10 ∧ Lib.decDigits v = UInt8.ofNat (48 + d) :: r := by
  induction v using Nat.strongRecOn with
  | _ v ih =>
    by_cases hv : v < 10
    · exact ⟨v, [], hv, Lib.decDigits_one hv⟩
    · obtain ⟨d, r, hd, e⟩ := ih (v / 10) (by omega)
      exact ⟨d, r ++ [UInt8.ofNat (48 + v % 10)], hd, by rw [dec_big hv, e]; rfl⟩
theorem dec_plain (v : Nat) : plainB (Lib.decDigits v) = true := by
  have hne : Lib.decDigits v ≠ [] := fun e => by
    have h := Lib.decDigits_length v
    rw [e] at h
    have := Lib.nDigits_pos v
    simp at h; omega
  have hd : Lib.nDigits v = 1 ∨ (Lib.decDigits v).head? ≠ some 48 := by
    induction v using Nat.strongRecOn with
    | _ v ih =>
      by_cases hv : v < 10
      · exact .inl (Lib.nDigits_small hv)
      · right
        obtain ⟨d, r, hd, e⟩ := dec_head (v / 10)
        by_cases hv2 : v / 10 < 10
        · rw [dec_big hv, Lib.decDigits_one hv2]
          simp only [List.cons_append, List.head?_cons, ne_eq, Option.some.injEq]
          intro e
          have := congrArg UInt8.toNat e
          rw [chr_nat _ hv2] at this
          have e48 : (48 : UInt8).toNat = 48 := rfl
          omega
        · rcases ih (v / 10) (by omega) (by rw [e]; simp) with h | h
          · rw [Lib.nDigits_big hv2] at h
            have := Lib.nDigits_pos (v / 10 / 10)
            omega
          · rw [e] at h
            rw [dec_big hv, e]
            exact h
  simp only [plainB, Bool.and_eq_true, Bool.or_eq_true, decide_eq_true_iff]
  refine ⟨hne, ?_⟩
  rcases hd with h | h
  · left; rw [Lib.decDigits_length, h]
  · exact .inr h
/-- The amount of a text, where it tells one. -/
def amtO (a : ByteArray) : Option Nat := if plainB a.data.toList = true then telD 0 a.data.toList else none
theorem amtO_iff (a : ByteArray) (n : Nat) : amtO a = some n ↔ a = digV n ∧ n ≤ 1000000000000000000 := by
  unfold amtO
  constructor
  · intro h
    split at h
    · rename_i hp
      obtain ⟨e, hn⟩ := dec_of_telD _ _ n rfl hp h
      refine ⟨?_, hn⟩
      apply ByteArray.ext
      apply Array.toList_inj.mp
      rw [e]
      rfl
    · cases h
  · rintro ⟨rfl, hn⟩
    have e : (digV n).data.toList = Lib.decDigits n := rfl
    rw [e, if_pos (dec_plain n)]
    exact telD_dec n hn
def amtV (a : ByteArray) : Int := match amtO a with | some n => (n : Int) | none => -1
theorem amtV_digV (n : Nat) (h : n ≤ 1000000000000000000) : amtV (digV n) = n := by
  unfold amtV
  rw [(amtO_iff _ n).2 ⟨rfl, h⟩]
theorem amtV_eq {a : ByteArray} (h : 0 ≤ amtV a) : a = digV (amtV a).toNat ∧ amtV a ≤ 1000000000000000000 := by
  unfold amtV at *
  cases e : amtO a with
  | none => rw [e] at h; simp at h
  | some n =>
    obtain ⟨h1, h2⟩ := (amtO_iff a n).1 e
    exact ⟨by simpa using h1, by simp only; omega⟩
theorem amtV_low (a : ByteArray) : -1 ≤ amtV a := by
  unfold amtV
  split <;> omega

/-! ### the program's -/
theorem parse_append (l r : List UInt8) : ∀ x, Lib.parseUint10 x (l ++ r) = match Lib.parseUint10 x l with | .ok u => Lib.parseUint10 u r | .syntax => .syntax | .range => .range := by
  induction l with
  | nil => intro x; rfl
  | cons c l ih =>
    intro x
    simp only [List.cons_append, Lib.parseUint10]
    split
    · split
      · rfl
      · split
        · rfl
        · exact ih _
    · rfl
theorem parse_one (x d : Nat) (hd : d < 10) (h : x * 10 + d < 9223372036854775808) : Lib.parseUint10 x [UInt8.ofNat (48 + d)] = .ok (x * 10 + d) := by
  simp only [Lib.parseUint10, chr_nat d hd]
  rw [if_pos (by omega), if_neg (by omega), if_neg (by omega)]
  congr 1; omega
theorem parse_dec (v : Nat) (h : v < 9223372036854775808) : Lib.parseUint10 0 (Lib.decDigits v) = .ok v := by
  induction v using Nat.strongRecOn with
  | _ v ih =>
    by_cases hv : v < 10
    · rw [Lib.decDigits_one hv, parse_one 0 v hv (by omega)]; congr 1; omega
    · rw [dec_big hv, parse_append, ih (v / 10) (by omega) (by omega)]
      show Lib.parseUint10 (v / 10) _ = _
      rw [parse_one _ _ (by omega) (by omega)]; congr 1; omega
theorem atoi_dec (v : Nat) (h : v < 9223372036854775808) : Lib.atoiAll (Lib.decDigits v) = .ok (v : Int) := by
  obtain ⟨d, r, hd, e⟩ := dec_head v
  have h1 := parse_dec v h
  rw [e] at h1 ⊢
  rw [Lib.atoiAll_plain _ _ (by rw [chr_nat d hd]; omega) (by rw [chr_nat d hd]; omega)]
  unfold Lib.parseMag
  rw [if_neg (by simp), h1]
  simp only [Lib.signless]
  rw [if_neg (by omega)]
theorem toList_eq_iff (a b : ByteArray) : a.toList = b.toList ↔ a = b := by
  constructor
  · intro h
    rw [ByteArray.toList_eq, ByteArray.toList_eq] at h
    exact ByteArray.ext (Array.toList_inj.mp h)
  · rintro rfl; rfl
theorem readAmount_eq (a : ByteArray) (hs : a.size ≤ 281474976710656) : impl_readAmount.f a = some (if 0 ≤ amtV a then (amtV a, true) else (0, false)) := by
  unfold impl_readAmount.f
  rw [if_pos hs]
  by_cases h : 0 ≤ amtV a
  · obtain ⟨e, hn⟩ := amtV_eq h
    rw [if_pos h]
    generalize amtV a = n at *
    have e1 : Lib.atoiAll a.data.toList = .ok n := by
      have := atoi_dec n.toNat (by omega)
      rw [e]
      rw [show ((n.toNat : Nat) : Int) = n by omega] at this
      exact this
    rw [e1]
    simp only [if_pos h, if_pos hn]
    rw [itoa_eq n h, ← e, if_pos rfl]
  · rw [if_neg h]
    cases hh : Lib.atoiAll a.data.toList with
    | «syntax» => rfl
    | range => rfl
    | ok v =>
      simp only
      by_cases h0 : 0 ≤ v
      · rw [if_pos h0]
        by_cases h1 : v ≤ 1000000000000000000
        · rw [if_pos h1, itoa_eq v h0]
          by_cases h2 : (digV v.toNat).toList = a.toList
          · exfalso
            have e := (toList_eq_iff _ _).1 h2
            apply h
            rw [← e, amtV_digV _ (by omega)]
            omega
          · rw [if_neg h2]
        · rw [if_neg h1]
      · rw [if_neg h0]

/-! ### the reference's -/
theorem bt_get (a : ByteArray) (i : Nat) (h : i < a.size) : bt a (i : Int) = ((a.data.toList[i]'(by rw [Array.length_toList]; exact h)).toNat : Int) := by
  unfold bt
  rw [dif_pos (by simpa using h)]
  simp
  rfl
def telI (x : Nat) (l : List UInt8) : Int := match telD x l with | some n => (n : Int) | none => -1
theorem l02Of_go (a : ByteArray) (hs : a.size ≤ 19) : ∀ (d i x : Nat), i + d = a.size → x ≤ 1000000000000000000 → Ev (fun k => spec_l02Of.l0 k a (x : Int) (i : Int)) (telI x (a.data.toList.drop i)) := by
  intro d
  induction d with
  | zero =>
    intro i x hi hx
    refine Ev.step (fun k => ?_) (Ev.now _)
    rw [spec_l02Of.l0, if_neg (by omega), List.drop_of_length_le (by rw [Array.length_toList]; show a.size ≤ i; omega)]
    rfl
  | succ d ih =>
    intro i x hi hx
    have hlt : i < a.size := by omega
    have hb := bt_get a i hlt
    have hl : i < a.data.toList.length := by rw [Array.length_toList]; exact hlt
    rw [List.drop_eq_getElem_cons hl]
    generalize a.data.toList[i] = c at *
    have hc := UInt8.toNat_lt c
    unfold telI
    simp only [telD]
    by_cases h1 : c.toNat < 48 ∨ 57 < c.toNat
    · rw [if_pos h1]
      refine Ev.step (f := fun k => spec_l02Of.j2 k a (x : Int) (i : Int) true) (fun k => ?_) (Ev.step (fun k => by rw [spec_l02Of.j2, if_pos rfl]) (Ev.now _))
      rw [spec_l02Of.l0, if_pos (by omega), if_pos (by omega), hb]
      by_cases h2 : c.toNat < 48
      · rw [if_pos (by omega)]
      · rw [if_neg (by omega), decide_eq_true (by omega)]
    · rw [if_neg h1]
      refine Ev.step (f := fun k => spec_l02Of.j2 k a (x : Int) (i : Int) false) (fun k => ?_) ?_
      · rw [spec_l02Of.l0, if_pos (by omega), if_pos (by omega), hb, if_neg (by omega), decide_eq_false (by omega)]
      · have e1 : ((c.toNat : Int) - 48) % 256 = ((c.toNat - 48 : Nat) : Int) := by omega
        by_cases h3 : (1000000000000000000 - (c.toNat - 48)) / 10 < x
        · rw [if_pos h3]
          refine Ev.step (fun k => ?_) (Ev.now _)
          rw [spec_l02Of.j2, if_neg (by decide), if_pos (by omega), if_pos (by omega), hb, e1, if_pos (by omega)]
        · rw [if_neg h3]
          have := ih (i + 1) (x * 10 + (c.toNat - 48)) (by omega) (by omega)
          refine Ev.step (fun k => ?_) this
          rw [spec_l02Of.j2, if_neg (by decide), if_pos (by omega), if_pos (by omega), hb, e1, if_neg (by omega), wid (n := (x : Int) * 10) (by omega) (by omega), wid (n := (x : Int) * 10 + _) (by omega) (by omega), wid (n := (i : Int) + 1) (by omega) (by omega)]
          rfl
theorem l02Of_ev (a : ByteArray) (hs : a.size ≤ 9223372036854775807) : Ev (fun k => spec_l02Of.f k a) (amtV a) := by
  have hbad : amtV a = -1 → Ev (fun k => spec_l02Of.j0 k a true) (amtV a) := fun e => by
    rw [e]; exact Ev.step (fun k => by rw [spec_l02Of.j0, if_pos rfl]) (Ev.now _)
  have hln : a.data.toList.length = a.size := by rw [Array.length_toList]; rfl
  have hbig : 19 < a.size → amtV a = -1 := fun h => by
    by_cases h0 : 0 ≤ amtV a
    · obtain ⟨e, hn⟩ := amtV_eq h0
      have := digV_size (amtV a).toNat (by omega)
      rw [← e] at this
      omega
    · have := amtV_low a; omega
  have hgo : Ev (fun k => spec_l02Of.l0 k a 0 0) (telI 0 a.data.toList) ∨ 19 < a.size := by
    by_cases h : 19 < a.size
    · exact .inr h
    · exact .inl (by have := l02Of_go a (by omega) a.size 0 0 (by omega) (by omega); simpa using this)
  unfold spec_l02Of.f spec_l01In.f
  by_cases h1 : (a.size : Int) ≥ 1
  · simp only [if_pos h1, Option.bind_some]
    by_cases h2 : (a.size : Int) ≤ 19
    · simp only [decide_eq_true h2, if_true]
      have hg : Ev (fun k => spec_l02Of.l0 k a 0 0) (telI 0 a.data.toList) := by
        rcases hgo with h | h
        · exact h
        · omega
      by_cases h3 : (a.size : Int) > 1
      · simp only [if_pos h3, if_pos (show (0 : Int) < (a.size : Int) by omega)]
        have hb := bt_get a 0 (by omega)
        have hh : a.data.toList.head? = some (a.data.toList[0]'(by omega)) := by rw [List.head?_eq_getElem?, List.getElem?_eq_getElem]
        by_cases h4 : a.data.toList[0]'(by omega) = 48
        · have e : (bt a 0 == 48) = true := by rw [beq_iff_eq]; have := hb; rw [h4] at this; exact this
          simp only [e]
          refine hbad ?_
          unfold amtV amtO
          rw [if_neg]
          simp only [plainB, Bool.and_eq_true, Bool.or_eq_true, decide_eq_true_iff, hh, h4]
          rintro ⟨_, h | h⟩
          · omega
          · exact h rfl
        · have e : (bt a 0 == 48) = false := by
            rw [beq_eq_false_iff_ne]
            intro h5
            apply h4
            apply UInt8.toNat_inj.1
            have e48 : (48 : UInt8).toNat = 48 := rfl
            have := hb.symm.trans h5
            omega
          simp only [e]
          refine Ev.step (fun k => by rw [spec_l02Of.j0, if_neg (by decide)]) ?_
          have e2 : amtV a = telI 0 a.data.toList := by
            unfold amtV amtO telI
            rw [if_pos]
            simp only [plainB, Bool.and_eq_true, Bool.or_eq_true, decide_eq_true_iff, hh]
            refine ⟨fun e0 => ?_, .inr (fun e0 => h4 (Option.some.inj e0))⟩
            rw [e0] at hln; simp at hln; omega
          rw [e2]
          exact hg
      · simp only [if_neg h3]
        refine Ev.step (fun k => by rw [spec_l02Of.j0, if_neg (by decide)]) ?_
        have e2 : amtV a = telI 0 a.data.toList := by
          unfold amtV amtO telI
          rw [if_pos]
          simp only [plainB, Bool.and_eq_true, Bool.or_eq_true, decide_eq_true_iff]
          refine ⟨fun e0 => ?_, .inl (by omega)⟩
          rw [e0] at hln; simp at hln; omega
        rw [e2]
        exact hg
    · simp only [decide_eq_false h2, Bool.false_eq_true, if_false]
      exact hbad (hbig (by omega))
  · simp only [if_neg h1, Option.bind_some, Bool.false_eq_true, if_false]
    refine hbad ?_
    unfold amtV amtO
    have : a.data.toList = [] := List.length_eq_zero_iff.1 (by omega)
    rw [this]
    rfl
end Go.Proofs.YtabmfhnhmoiljaaGreatDoor.U

/- Fields: how the program writes texts in line. -/
namespace Go.Proofs.YtabmfhnhmoiljaaGreatDoor.U
open Go Go.RowKit Go.Proofs.YtabmfhnhmoiljaaGreatDoor.Q Go.Proofs.YtabmfhnhmoiljaaGreatDoorW.PrintWords Go.Proofs.YtabmfhnhmoiljaaGreatDoorW.PrintLast Go.Proofs.YtabmfhnhmoiljaaGreatDoorW.PrintMore
set_option linter.unusedVariables false
set_option linter.unusedSimpArgs false

theorem w00 : wrap64 (0 - 1) = -1 := by rw [wid (n := 0 - 1) (by decide) (by decide)]; rfl
theorem w10 : wrap64 (1 - 1) = 0 := by rw [wid (n := 1 - 1) (by decide) (by decide)]; rfl
theorem w21 : wrap64 (2 - 1) = 1 := by rw [wid (n := 2 - 1) (by decide) (by decide)]; rfl
theorem number_end (n : Int) (l : List Int) : Ev (fun k => impl_number.l0 k n l (-1)) (strOfNums l) := Ev.step (fun k => by rw [impl_number.l0, if_neg (by decide)]) (Ev.now _)
theorem number1_ev (n : Int) : Ev (fun k => impl_number.f k n 1) (strOfNums [n % 256]) := by
  unfold impl_number.f
  simp only [if_pos (show (0 : Int) ≤ 1 by omega), if_pos (show (1 : Int).toNat ≤ 281474976710656 by decide), w10, show List.replicate (1 : Int).toNat (0 : Int) = [0] from rfl]
  refine Ev.step (fun k => ?_) (number_end (n / 256) [n % 256])
  rw [impl_number.l0, if_pos (by decide), if_pos (by decide), if_pos (by decide), w00]
  rfl
theorem number2_ev (n : Int) : Ev (fun k => impl_number.f k n 2) (strOfNums [n / 256 % 256, n % 256]) := by
  unfold impl_number.f
  simp only [if_pos (show (0 : Int) ≤ 2 by omega), if_pos (show (2 : Int).toNat ≤ 281474976710656 by decide), w21, show List.replicate (2 : Int).toNat (0 : Int) = [0, 0] from rfl]
  refine Ev.step (f := fun k => impl_number.l0 k (n / 256) [0, n % 256] 0) (fun k => ?_) (Ev.step (fun k => ?_) (number_end (n / 256 / 256) [n / 256 % 256, n % 256]))
  · rw [impl_number.l0, if_pos (by decide), if_pos (by decide), if_pos (by decide), w10]
    rfl
  · rw [impl_number.l0, if_pos (by decide), if_pos (by decide), if_pos (by simp), w00]
    rfl
/-- One text behind its length. -/
def fieldV (t : ByteArray) : ByteArray := strOfNums [(t.size : Int) / 256 % 256, (t.size : Int) % 256] ++ t
def restV : List ByteArray → ByteArray
  | [] => ByteArray.empty
  | t :: ts => fieldV t ++ restV ts
def fieldsV (l : List ByteArray) : ByteArray := strOfNums [(l.length : Int) % 256] ++ restV l
theorem nums_size (l : List Int) : (strOfNums l).size = l.length := by simp [strOfNums, ByteArray.size]
theorem fields_go (l : List ByteArray) (M : Nat) (hl : l.length ≤ 1000) (hM : M ≤ 4611686018427387904) (hx : ∀ x ∈ l, x.size ≤ 1048576) : ∀ (d i : Nat) (o : ByteArray), i + d = l.length → o.size ≤ i * 1048580 + 1048580 →
    Ev (fun k => impl_fields.l0 k o l (l.length : Int) (i : Int)) (o ++ restV (l.drop i)) := by
  intro d
  induction d with
  | zero =>
    intro i o hi ho
    refine Ev.step (fun k => ?_) (Ev.now _)
    rw [impl_fields.l0, if_neg (by omega), List.drop_of_length_le (by omega)]
    simp [restV]
  | succ d ih =>
    intro i o hi ho
    have hlt : i < l.length := by omega
    have hr : rdOf ByteArray.empty l (i : Int) = l[i] := by simp [rdOf, List.getD_eq_getElem?_getD, List.getElem?_eq_getElem hlt]
    have hs := hx _ (List.getElem_mem hlt)
    refine Ev.step (f := fun k => (impl_number.f k (l[i].size : Int) 2).bind fun t => if t.size + l[i].size ≤ 9223372036854775807 then (if o.size + (t ++ l[i]).size ≤ 9223372036854775807 then impl_fields.l0 k (o ++ (t ++ l[i])) l (l.length : Int) ((i + 1 : Nat) : Int) else none) else none) (fun k => ?_) ?_
    · rw [impl_fields.l0, if_pos (by omega), if_pos (by omega), if_pos (by omega), hr, wid (n := (i : Int) + 1) (by omega) (by omega)]
      rfl
    · refine Ev.bind (number2_ev _) ?_
      have h1 : (strOfNums [(l[i].size : Int) / 256 % 256, (l[i].size : Int) % 256]).size = 2 := by rw [nums_size]; rfl
      have h2 : (strOfNums [(l[i].size : Int) / 256 % 256, (l[i].size : Int) % 256] ++ l[i]).size = 2 + l[i].size := by rw [ByteArray.size_append, h1]
      simp only [h1, h2, if_pos (show 2 + l[i].size ≤ 9223372036854775807 by omega), if_pos (show o.size + (2 + l[i].size) ≤ 9223372036854775807 by omega)]
      have h3 := ih (i + 1) (o ++ fieldV l[i]) (by omega) (by rw [ByteArray.size_append]; show o.size + (fieldV l[i]).size ≤ _; unfold fieldV; rw [h2]; omega)
      rw [List.drop_eq_getElem_cons hlt, restV]
      rw [ByteArray.append_assoc] at h3
      exact h3
theorem fields_ev (l : List ByteArray) (hl : l.length ≤ 1000) (hx : ∀ x ∈ l, x.size ≤ 1048576) : Ev (fun k => impl_fields.f k l) (fieldsV l) := by
  unfold impl_fields.f fieldsV
  refine Ev.bind (number1_ev _) ?_
  have := fields_go l 0 hl (by omega) hx l.length 0 (strOfNums [(l.length : Int) % 256]) (by omega) (by rw [nums_size]; simp)
  simpa using this
end Go.Proofs.YtabmfhnhmoiljaaGreatDoor.U

/- Fields that are read back from a text: as the program and as the reference read them. -/
namespace Go.Proofs.YtabmfhnhmoiljaaGreatDoor.U
open Go Go.RowKit Go.Proofs.YtabmfhnhmoiljaaGreatDoor.Q Go.Proofs.YtabmfhnhmoiljaaGreatDoorW.PrintWords Go.Proofs.YtabmfhnhmoiljaaGreatDoorW.PrintLast Go.Proofs.YtabmfhnhmoiljaaGreatDoorW.PrintMore
set_option linter.unusedVariables false
set_option linter.unusedSimpArgs false

theorem size_data (a : ByteArray) : a.data.toList.length = a.size := by rw [Array.length_toList]; rfl
theorem ext_list {a b : ByteArray} (h : a.data.toList = b.data.toList) : a = b := ByteArray.ext (Array.toList_inj.mp h)
theorem extract_list (a : ByteArray) (i j : Nat) : (a.extract i j).data.toList = (a.data.toList.take j).drop i := by
  rw [ByteArray.data_extract, Array.toList_extract]
  simp [List.extract_eq_take_drop, List.drop_take]
theorem bt_list (a : ByteArray) (i : Nat) (h : i < a.size) : bt a (i : Int) = ((a.data.toList.getD i 0).toNat : Int) := by
  unfold bt
  rw [dif_pos (by simpa using h), List.getD_eq_getElem?_getD, List.getElem?_eq_getElem (by rw [size_data]; exact h)]
  simp
  rfl
theorem size_ext (a : ByteArray) (i j : Nat) : (a.extract i j).size = min j a.size - i := by
  rw [← size_data, extract_list, List.length_drop, List.length_take, size_data]
theorem ext_ext (a : ByteArray) (p i j : Nat) : (a.extract p a.size).extract i j = a.extract (p + i) (p + j) := by
  apply ext_list
  rw [extract_list, extract_list, extract_list, List.take_of_length_le (i := a.size) (by rw [size_data]; exact Nat.le_refl _)]
  rw [List.take_drop, List.drop_drop]
theorem ext_cap (a : ByteArray) (i j : Nat) (h : a.size ≤ j) : a.extract i j = a.extract i a.size := by
  apply ext_list
  rw [extract_list, extract_list, List.take_of_length_le (by rw [size_data]; exact h), List.take_of_length_le (by rw [size_data]; exact Nat.le_refl _)]
theorem bt_ext (a : ByteArray) (p j i : Nat) (h : p + i < min j a.size) : bt (a.extract p j) (i : Int) = bt a ((p + i : Nat) : Int) := by
  rw [bt_list _ _ (by rw [size_ext]; omega), bt_list _ _ (by omega), extract_list]
  congr 2
  rw [List.getD_eq_getElem?_getD, List.getD_eq_getElem?_getD, List.getElem?_drop, List.getElem?_take, if_pos (by omega)]

/-- The first two bytes' number. -/
def hd2 (s : ByteArray) : Nat := (bt s 0 * 256 + bt s 1).toNat
def readN : Nat → ByteArray → Option (List ByteArray)
  | 0, s => if s.size = 0 then some [] else none
  | n + 1, s => if s.size < 2 then none else if 1000 < hd2 s then none else if s.size < 2 + hd2 s then none else (readN n (s.extract (2 + hd2 s) s.size)).map (s.extract 2 (2 + hd2 s) :: ·)
def readV (a : ByteArray) : Option (List ByteArray) := if a.size = 0 then none else if 40 < bt a 0 then none else readN (bt a 0).toNat (a.extract 1 a.size)
/-- What a reader answers. -/
def readR (x : List ByteArray) (out : List ByteArray) : Option (List ByteArray) → List ByteArray × Bool
  | some l => (out ++ l, true)
  | none => (x, false)

theorem hd2_bd (s : ByteArray) : hd2 s ≤ 65535 ∧ ((hd2 s : Nat) : Int) = bt s 0 * 256 + bt s 1 := by
  have h0 := bt_range s 0
  have h1 := bt_range s 1
  unfold hd2
  omega
theorem numberOf_ev (s : ByteArray) (h : s.size = 2) : Ev (fun k => impl_numberOf.f k s) (hd2 s : Int) := by
  have h0 := bt_range s 0
  have h1 := bt_range s 1
  rw [(hd2_bd s).2]
  unfold impl_numberOf.f
  rw [show ((s.size : Nat) : Int) = 2 by omega]
  refine Ev.step (f := fun k => impl_numberOf.l0 k s (bt s 0) 2 1) (fun k => ?_) (Ev.step (f := fun k => impl_numberOf.l0 k s (bt s 0 * 256 + bt s 1) 2 2) (fun k => ?_) (Ev.step (fun k => ?_) (Ev.now _)))
  · rw [impl_numberOf.l0, if_pos (by decide), if_pos (by decide), if_pos (by omega)]
    rw [wid (n := 0 * 256) (by decide) (by decide), wid (n := bt s 0) (by omega) (by omega), wid (by omega) (by omega), wid (n := 0 + 1) (by decide) (by decide)]
    congr 1; omega
  · rw [impl_numberOf.l0, if_pos (by decide), if_pos (by decide), if_pos (by omega)]
    rw [wid (n := bt s 0 * 256) (by omega) (by omega), wid (n := bt s 1) (by omega) (by omega), wid (by omega) (by omega), wid (n := 1 + 1) (by decide) (by decide)]
    rfl
  · rw [impl_numberOf.l0, if_neg (by decide)]
set_option maxHeartbeats 2000000 in
theorem readFields_go (N : Nat) (hN : N ≤ 40) : ∀ (d i : Nat) (out : List ByteArray) (s : ByteArray), i + d = N → out.length ≤ i → s.size ≤ 9223372036854000000 →
    ∃ x, Ev (fun k => impl_readFields.l0 k out s (N : Int) (i : Int)) (readR x out (readN d s)) := by
  intro d
  induction d with
  | zero =>
    intro i out s hi ho hs
    refine ⟨out, Ev.step (fun k => ?_) (Ev.now _)⟩
    rw [impl_readFields.l0, if_neg (by omega), readN]
    by_cases h : s.size = 0
    · have e : s.toList = [] := by rw [ByteArray.toList_eq]; exact List.length_eq_zero_iff.1 (by rw [size_data]; exact h)
      rw [if_pos h, e]
      simp [readR]
    · have e : (s.toList == []) = false := by
        rw [beq_eq_false_iff_ne]
        intro e
        rw [ByteArray.toList_eq] at e
        apply h
        rw [← size_data, e]; rfl
      rw [if_neg h, e]
      rfl
  | succ d ih =>
    intro i out s hi ho hs
    have hb := hd2_bd s
    rw [readN]
    by_cases h1 : s.size < 2
    · refine ⟨[], ?_⟩
      rw [if_pos h1]
      refine Ev.step (fun k => ?_) (Ev.now _)
      rw [impl_readFields.l0, if_pos (by omega), if_pos (by omega)]
      rfl
    rw [if_neg h1]
    have hz : (s.extract 0 2).size = 2 := by rw [size_ext]; omega
    have e2 : hd2 (s.extract 0 2) = hd2 s := by
      unfold hd2
      have a0 := bt_ext s 0 2 0 (by omega)
      have a1 := bt_ext s 0 2 1 (by omega)
      simp only [Nat.zero_add] at a0 a1
      rw [show ((0 : Nat) : Int) = 0 from rfl] at a0
      rw [show ((1 : Nat) : Int) = 1 from rfl] at a1
      rw [a0, a1]
    have hn := numberOf_ev (s.extract 0 2) hz
    rw [e2] at hn
    clear e2 hz
    generalize hd2 s = m at *
    have key : ∀ (x : List ByteArray) (r : List ByteArray × Bool), Ev (fun k => if (m : Int) > 1000 then (some (([] : List ByteArray), false)) else (if (s.size : Int) < 2 + (m : Int) then (some (([] : List ByteArray), false)) else impl_readFields.l0 k (out ++ [s.extract 2 (2 + m)]) (s.extract (2 + m) s.size) (N : Int) ((i + 1 : Nat) : Int))) r →
        Ev (fun k => impl_readFields.l0 k out s (N : Int) (i : Int)) r := by
      intro x r hr
      refine Ev.step (f := fun k => (impl_numberOf.f k (s.extract 0 2)).bind fun t => if t > 1000 then (some (([] : List ByteArray), false)) else (if (s.size : Int) < (wrap64 (2 + t)) then (some (([] : List ByteArray), false)) else (if 2 ≤ (wrap64 (2 + t)) then (if (wrap64 (2 + t)) ≤ (s.size : Int) then (if out.length < 8796093022208 then (if 0 ≤ (wrap64 (2 + t)) then (impl_readFields.l0 k (out ++ [s.extract 2 ((wrap64 (2 + t)) : Int).toNat]) (s.extract ((wrap64 (2 + t)) : Int).toNat s.size) (N : Int) (wrap64 ((i : Int) + 1))) else (none)) else (none)) else (none)) else (none)))) (fun k => ?_) (Ev.bind hn ?_)
      · rw [impl_readFields.l0, if_pos (by omega), if_neg (by omega), if_pos (by decide), if_pos (by omega)]
      · have ew : wrap64 (2 + (m : Int)) = 2 + (m : Int) := wid (by omega) (by omega)
        have ei : wrap64 ((i : Int) + 1) = ((i + 1 : Nat) : Int) := by rw [wid (by omega) (by omega)]; rfl
        rw [ew, ei]
        refine Ev.congr (fun k => ?_) hr
        by_cases c1 : (m : Int) > 1000
        · rw [if_pos c1, if_pos c1]
        rw [if_neg c1, if_neg c1]
        by_cases c2 : (s.size : Int) < 2 + (m : Int)
        · rw [if_pos c2, if_pos c2]
        rw [if_neg c2, if_neg c2, if_pos (by omega), if_pos (by omega), if_pos (by omega), if_pos (by omega)]
        rw [show (2 + (m : Int)).toNat = 2 + m by omega]
    by_cases h2 : 1000 < m
    · rw [if_pos h2]
      exact ⟨[], key [] _ (by simp only [if_pos (show (m : Int) > 1000 by omega)]; exact Ev.now _)⟩
    rw [if_neg h2]
    by_cases h3 : s.size < 2 + m
    · rw [if_pos h3]
      exact ⟨[], key [] _ (by simp only [if_neg (show ¬ (m : Int) > 1000 by omega), if_pos (show (s.size : Int) < 2 + (m : Int) by omega)]; exact Ev.now _)⟩
    rw [if_neg h3]
    obtain ⟨x, hx⟩ := ih (i + 1) (out ++ [s.extract 2 (2 + m)]) (s.extract (2 + m) s.size) (by omega) (by rw [List.length_append, List.length_singleton]; omega) (by rw [size_ext]; omega)
    refine ⟨x, key x _ ?_⟩
    simp only [if_neg (show ¬ (m : Int) > 1000 by omega), if_neg (show ¬ (s.size : Int) < 2 + (m : Int) by omega)]
    have e : readR x (out ++ [s.extract 2 (2 + m)]) (readN d (s.extract (2 + m) s.size)) = readR x out ((readN d (s.extract (2 + m) s.size)).map (s.extract 2 (2 + m) :: ·)) := by
      cases readN d (s.extract (2 + m) s.size) with
      | none => rfl
      | some l => simp [readR]
    rw [← e]
    exact hx
theorem toList_nil_iff (a : ByteArray) : a.toList = ([] : List UInt8) ↔ a.size = 0 := by
  rw [ByteArray.toList_eq]
  constructor
  · intro h; rw [← size_data, h]; rfl
  · intro h; exact List.length_eq_zero_iff.1 (by rw [size_data]; exact h)
theorem readFields_ev (a : ByteArray) (hs : a.size ≤ 9223372036854000000) : ∃ x, Ev (fun k => impl_readFields.f k a) (readR x [] (readV a)) := by
  have h0 := bt_range a 0
  unfold impl_readFields.f readV
  by_cases h1 : a.size = 0
  · refine ⟨[], ?_⟩
    simp only [if_pos ((toList_nil_iff a).2 h1), if_pos h1]
    exact Ev.step (fun k => by rw [impl_readFields.j0, if_pos rfl]; rfl) (Ev.now _)
  simp only [if_neg (mt (toList_nil_iff a).1 h1), if_neg h1, if_pos (show (0 : Int) < (a.size : Int) by omega)]
  by_cases h2 : 40 < bt a 0
  · refine ⟨[], ?_⟩
    simp only [if_pos h2, decide_eq_true (show bt a 0 > 40 from h2)]
    exact Ev.step (fun k => by rw [impl_readFields.j0, if_pos rfl]; rfl) (Ev.now _)
  simp only [if_neg h2, decide_eq_false (show ¬ bt a 0 > 40 from h2)]
  obtain ⟨x, hx⟩ := readFields_go (bt a 0).toNat (by omega) (bt a 0).toNat 0 [] (a.extract 1 a.size) (by omega) (by simp) (by rw [size_ext]; omega)
  refine ⟨x, Ev.step (fun k => ?_) hx⟩
  rw [impl_readFields.j0, if_neg (by decide), if_pos (by omega), if_pos (by omega), wid (n := bt a 0) (by omega) (by omega), show (((bt a 0).toNat : Nat) : Int) = bt a 0 by omega]
  rfl

set_option maxHeartbeats 2000000 in
theorem l02Read_go (a : ByteArray) (hs : a.size ≤ 9223372036854000000) : ∀ (d p : Nat) (out : List ByteArray), d ≤ 40 → out.length + d ≤ 40 → p ≤ a.size →
    ∃ x, Ev (fun k => spec_l02Read.l0 k a out (p : Int) (d : Int)) (readR x out (readN d (a.extract p a.size))) := by
  intro d
  induction d with
  | zero =>
    intro p out hd ho hp
    rw [readN, size_ext]
    by_cases h : p = a.size
    · rw [if_pos (by omega)]
      refine ⟨[], Ev.step (fun k => ?_) (Ev.now _)⟩
      rw [spec_l02Read.l0, if_neg (by decide), if_pos (by omega)]
      simp [readR]
    · rw [if_neg (by omega)]
      refine ⟨[], Ev.step (fun k => ?_) (Ev.now _)⟩
      rw [spec_l02Read.l0, if_neg (by decide), if_neg (by omega)]
      rfl
  | succ d ih =>
    intro p out hd ho hp
    have hsz : (a.extract p a.size).size = a.size - p := by rw [size_ext]; omega
    rw [readN, hsz]
    by_cases h1 : a.size - p < 2
    · rw [if_pos h1]
      refine ⟨[], Ev.step (fun k => ?_) (Ev.now _)⟩
      rw [spec_l02Read.l0, if_pos (by omega), wid (n := (p : Int) + 2) (by omega) (by omega), if_pos (by omega)]
      rfl
    rw [if_neg h1]
    have hb := hd2_bd (a.extract p a.size)
    have b0 := bt_ext a p a.size 0 (by omega)
    have b1 := bt_ext a p a.size 1 (by omega)
    have r0 := bt_range a (p : Int)
    have r1 := bt_range a ((p + 1 : Nat) : Int)
    have em : bt a (p : Int) * 256 + bt a ((p + 1 : Nat) : Int) = (hd2 (a.extract p a.size) : Int) := by
      rw [hb.2]
      have e0 : bt (a.extract p a.size) 0 = bt a (p : Int) := b0
      have e1 : bt (a.extract p a.size) 1 = bt a ((p + 1 : Nat) : Int) := b1
      rw [e0, e1]
    generalize hm : hd2 (a.extract p a.size) = m at *
    have ep1 : (p : Int) + 1 = ((p + 1 : Nat) : Int) := by omega
    have key : ∀ k, spec_l02Read.l0 (k + 1) a out (p : Int) ((d + 1 : Nat) : Int) = if 1000 < m then some (([] : List ByteArray), false) else if a.size < p + 2 + m then some (([] : List ByteArray), false) else spec_l02Read.l0 k a (out ++ [a.extract (p + 2) (p + 2 + m)]) ((p + 2 + m : Nat) : Int) (d : Int) := by
      intro k
      rw [spec_l02Read.l0, if_pos (by omega), wid (n := (p : Int) + 2) (by omega) (by omega), if_neg (by omega), if_pos (by omega), if_pos (by omega), wid (n := (p : Int) + 1) (by omega) (by omega), if_pos (by omega), if_pos (by omega),
        wid (n := bt a (p : Int)) (by omega) (by omega), ep1, wid (n := bt a ((p + 1 : Nat) : Int)) (by omega) (by omega), wid (n := bt a (p : Int) * 256) (by omega) (by omega), em, wid (n := (m : Int)) (by omega) (by omega)]
      by_cases c1 : 1000 < m
      · rw [if_pos (by omega), if_pos c1]
      rw [if_neg (by omega), if_neg c1, wid (n := (p : Int) + 2 + (m : Int)) (by omega) (by omega)]
      by_cases c2 : a.size < p + 2 + m
      · rw [if_pos (by omega), if_pos c2]
      rw [if_neg (by omega), if_neg c2, if_pos (by omega), if_pos (by omega), if_pos (by omega), if_pos (by omega), wid (n := 2 + (m : Int)) (by omega) (by omega), wid (n := (p : Int) + (2 + (m : Int))) (by omega) (by omega), wid (by omega) (by omega)]
      rw [show ((p : Int) + 2).toNat = p + 2 by omega, show ((p : Int) + 2 + (m : Int)).toNat = p + 2 + m by omega, show (p : Int) + (2 + (m : Int)) = ((p + 2 + m : Nat) : Int) by omega, show (((d + 1 : Nat) : Int) - 1) = (d : Int) by omega]
    by_cases h2 : 1000 < m
    · rw [if_pos h2]
      exact ⟨[], Ev.step (fun k => by rw [key k, if_pos h2]; rfl) (Ev.now _)⟩
    rw [if_neg h2]
    by_cases h3 : a.size - p < 2 + m
    · rw [if_pos h3]
      exact ⟨[], Ev.step (fun k => by rw [key k, if_neg h2, if_pos (by omega)]; rfl) (Ev.now _)⟩
    rw [if_neg h3]
    obtain ⟨x, hx⟩ := ih (p + 2 + m) (out ++ [a.extract (p + 2) (p + 2 + m)]) (by omega) (by rw [List.length_append, List.length_singleton]; omega) (by omega)
    refine ⟨x, Ev.step (f := fun k => spec_l02Read.l0 k a (out ++ [a.extract (p + 2) (p + 2 + m)]) ((p + 2 + m : Nat) : Int) (d : Int)) (fun k => by rw [key k, if_neg h2, if_neg (by omega)]) ?_⟩
    have ea : (a.extract p a.size).extract 2 (2 + m) = a.extract (p + 2) (p + 2 + m) := by rw [ext_ext, Nat.add_assoc]
    have eb : (a.extract p a.size).extract (2 + m) (a.size - p) = a.extract (p + 2 + m) a.size := by rw [ext_ext, show p + (a.size - p) = a.size by omega, Nat.add_assoc]
    rw [ea, eb]
    have e : readR x (out ++ [a.extract (p + 2) (p + 2 + m)]) (readN d (a.extract (p + 2 + m) a.size)) = readR x out ((readN d (a.extract (p + 2 + m) a.size)).map (a.extract (p + 2) (p + 2 + m) :: ·)) := by
      cases readN d (a.extract (p + 2 + m) a.size) with
      | none => rfl
      | some l => simp [readR]
    rw [← e]
    exact hx
theorem l02Read_ev (a : ByteArray) (hs : a.size ≤ 9223372036854000000) : ∃ x, Ev (fun k => spec_l02Read.f k a) (readR x [] (readV a)) := by
  have h0 := bt_range a 0
  unfold spec_l02Read.f readV
  simp only [Option.bind_some]
  by_cases h1 : a.size = 0
  · refine ⟨[], ?_⟩
    simp only [if_pos ((toList_nil_iff a).2 h1), if_pos h1]
    exact Ev.step (fun k => by rw [spec_l02Read.j0, if_pos rfl]; rfl) (Ev.now _)
  simp only [if_neg (mt (toList_nil_iff a).1 h1), if_neg h1, if_pos (show (0 : Int) < (a.size : Int) by omega)]
  by_cases h2 : 40 < bt a 0
  · refine ⟨[], ?_⟩
    simp only [if_pos h2, decide_eq_true (show bt a 0 > 40 from h2)]
    exact Ev.step (fun k => by rw [spec_l02Read.j0, if_pos rfl]; rfl) (Ev.now _)
  simp only [if_neg h2, decide_eq_false (show ¬ bt a 0 > 40 from h2)]
  obtain ⟨x, hx⟩ := l02Read_go a hs (bt a 0).toNat 1 [] (by omega) (by simp; omega) (by omega)
  refine ⟨x, Ev.step (fun k => ?_) hx⟩
  rw [spec_l02Read.j0, if_neg (by decide), if_pos (by omega), wid (n := bt a 0) (by omega) (by omega), show (((bt a 0).toNat : Nat) : Int) = bt a 0 by omega]
  rfl

/-! ### what is read is written so -/
theorem ofNat_nat (c : UInt8) (n : Int) (h : n = (c.toNat : Int)) : UInt8.ofNat n.toNat = c := by
  subst h
  simp
theorem restV_of (n : Nat) : ∀ (s : ByteArray) (l : List ByteArray), readN n s = some l → s = restV l ∧ l.length = n ∧ ∀ x ∈ l, x.size ≤ 1000 := by
  induction n with
  | zero =>
    intro s l h
    rw [readN] at h
    split at h
    · rename_i h0
      injection h with h
      subst h
      exact ⟨ext_list (List.length_eq_zero_iff.1 (by rw [size_data]; exact h0)), rfl, by simp⟩
    · cases h
  | succ n ih =>
    intro s l h
    rw [readN] at h
    split at h
    · cases h
    rename_i h1
    split at h
    · cases h
    rename_i h2
    split at h
    · cases h
    rename_i h3
    obtain ⟨l', h4, rfl⟩ := Option.map_eq_some_iff.1 h
    obtain ⟨e1, e2, e3⟩ := ih _ _ h4
    have hsz : (s.extract 2 (2 + hd2 s)).size = hd2 s := by rw [size_ext]; omega
    refine ⟨?_, by rw [List.length_cons, e2], ?_⟩
    · rw [restV, ← e1]
      have hb := hd2_bd s
      have r0 := bt_range s 0
      have r1 := bt_range s 1
      have b0 := bt_list s 0 (by omega)
      have b1 := bt_list s 1 (by omega)
      apply ext_list
      rw [ByteArray.data_append, Array.toList_append]
      unfold fieldV
      rw [ByteArray.data_append, Array.toList_append, extract_list, extract_list, hsz, List.take_of_length_le (i := s.size) (by rw [size_data]; exact Nat.le_refl _)]
      have hl := size_data s
      match hd : s.data.toList with
      | [] => rw [hd] at hl; simp at hl; omega
      | [_] => rw [hd] at hl; simp at hl; omega
      | c0 :: c1 :: r =>
        rw [hd] at b0 b1
        simp only [List.getD_cons_zero, List.getD_cons_succ] at b0 b1
        have c0b := UInt8.toNat_lt c0
        have c1b := UInt8.toNat_lt c1
        have f0 : bt s 0 = (c0.toNat : Int) := b0
        have f1 : bt s 1 = (c1.toNat : Int) := b1
        have g0 : (hd2 s : Int) / 256 % 256 = (c0.toNat : Int) := by rw [hb.2, f0, f1]; omega
        have g1 : (hd2 s : Int) % 256 = (c1.toNat : Int) := by rw [hb.2, f0, f1]; omega
        rw [g0, g1]
        have hr : (strOfNums [(c0.toNat : Int), (c1.toNat : Int)]).data.toList = [c0, c1] := by simp [strOfNums]
        rw [hr]
        rw [show 2 + hd2 s = hd2 s + 1 + 1 by omega]
        simp
    · intro x hx
      rcases List.mem_cons.1 hx with rfl | hx
      · rw [hsz]; omega
      · exact e3 x hx
theorem readV_of {a : ByteArray} {l : List ByteArray} (h : readV a = some l) : a = fieldsV l ∧ l.length ≤ 40 ∧ ∀ x ∈ l, x.size ≤ 1000 := by
  unfold readV at h
  split at h
  · cases h
  rename_i h1
  split at h
  · cases h
  rename_i h2
  obtain ⟨e1, e2, e3⟩ := restV_of _ _ _ h
  have r0 := bt_range a 0
  have b0 := bt_list a 0 (by omega)
  refine ⟨?_, by omega, e3⟩
  unfold fieldsV
  rw [← e1, e2]
  apply ext_list
  rw [ByteArray.data_append, Array.toList_append, extract_list, List.take_of_length_le (i := a.size) (by rw [size_data]; exact Nat.le_refl _)]
  have hl := size_data a
  match hd : a.data.toList with
  | [] => rw [hd] at hl; simp at hl; omega
  | c0 :: r =>
    rw [hd] at b0
    simp only [List.getD_cons_zero] at b0
    have c0b := UInt8.toNat_lt c0
    have f0 : bt a 0 = (c0.toNat : Int) := b0
    have g0 : (((bt a 0).toNat : Nat) : Int) % 256 = (c0.toNat : Int) := by rw [f0]; omega
    rw [g0]
    have hr : (strOfNums [(c0.toNat : Int)]).data.toList = [c0] := by simp [strOfNums]
    rw [hr]
    simp
end Go.Proofs.YtabmfhnhmoiljaaGreatDoor.U

namespace Go.Proofs.YtabmfhnhmoiljaaGreatDoor.Q
open Go.RowKit Go.Proofs.YtabmfhnhmoiljaaGreatDoorW.PrintWords Go.Proofs.YtabmfhnhmoiljaaGreatDoorW.PrintLast Go.Proofs.YtabmfhnhmoiljaaGreatDoorW.PrintMore
open Go.Proofs.YtabmfhnhmoiljaaGreatDoorW.PrintWords.Aside0 renaming mk → ζa
open Go.Proofs.YtabmfhnhmoiljaaGreatDoorW.PrintWords renaming gate_callee → δv, pw_below_drewN → δi, below_step → δr
open List renaming map_toArray → δd, map_cons → δe, map_nil → δf
open Bool renaming true → τ, false → φ
attribute [local go_sem] max2_int min2_int max_two min_two max_three min_three max_four min_four   -- for this text's walks alone
set_option linter.unusedVariables false
set_option linter.unusedSimpArgs false

/-! ### impl_storeCode: function 62 -/
def impl_storeCode.j0:Nat→List (S51)→Bool→Option (Int)
 | 0,_,_=>none
 | k+1,x0,x5=>if x5=τ then (some 2) else ((impl_StoreOK.f k x0).bind fun t720=>(if t720=τ then (some 0) else (some 1)))
def impl_storeCode.f (k:Nat) (l0:List (S51)) (l1:List ByteArray):Option (Int):=(impl_isList_impl_Pair.f l0).bind fun t718=>(if t718=τ then ((impl_isText.f l1).bind fun t719=>(impl_storeCode.j0 k l0 (!t719))) else (impl_storeCode.j0 k l0 τ))
set_option maxHeartbeats 8000000 in
set_option maxRecDepth 100000 in
theorem impl_storeCode.calls (k:Nat) (A0:Option Addr) (c0:Nat) (l0:List (S51)) (A1:Option Addr) (c1:Nat) (l1:List ByteArray) (r:Int) (w:World) (hr0:Kd.C k51 w A0 l0.length l0) (hc0:l0.length≤c0) (hr1:Kd.C Kd.string w A1 l1.length l1) (hc1:l1.length≤c1) (h:impl_storeCode.f k l0 l1=some r) :
  Calls Tryz.prog 62 #[.slice A0 l0.length c0,.slice A1 l1.length c1] w fun e w'=>e = .returned (.int .i64 r)∧Below w.heap.size w w':=by
 have HR0:=ζa hr0
 have HC0:=ζa hc0
 clear hr0 hc0
 have HR1:=ζa hr1
 have HC1:=ζa hc1
 clear hr1 hc1
 have HB:=ζa (Below.refl w.heap.size w)
 have H:((impl_isList_impl_Pair.f l0).bind fun t718=>(if t718=τ then ((impl_isText.f l1).bind fun t719=>(impl_storeCode.j0 k l0 (!t719))) else (impl_storeCode.j0 k l0 τ)))=some r:=h
 clear h
 have HC3:=ζa H
 clear H
 go_enter Tryz.func62,Tryz.ntmps62
 go_upto_region 1 with (fail)
 go_cut [5] (fun v5 wc => ∃ (kq:Nat) (x5_2:Bool),v5 = .bool x5_2∧Aside0 (impl_storeCode.j0 kq l0 x5_2=some r)∧Aside0 (kq≤k)∧Aside0 (Below w.heap.size w wc))
 case first =>
  have H:=HC3.out
  clear HC3
  replace H:=Option.bind_eq_some_iff.mp H
  obtain ⟨t718,A40,H⟩:=H
  replace H:(if t718=τ then ((impl_isText.f l1).bind fun t719=>(impl_storeCode.j0 k l0 (!t719))) else (impl_storeCode.j0 k l0 τ))=some r:=H
  have A4:=ζa A40
  clear A40
  by_cases c5:t718=τ
  ·
   subst c5
   have H1:((impl_isText.f l1).bind fun t719=>(impl_storeCode.j0 k l0 (!t719)))=some r:=by rw [if_pos rfl] at H;exact H
   clear H
   have H:=H1
   clear H1
   replace H:=Option.bind_eq_some_iff.mp H
   obtain ⟨t719,A60,H⟩:=H
   replace H:(impl_storeCode.j0 k l0 (!t719))=some r:=H
   have A6:=ζa A60
   clear A60
   have H':=ζa H
   clear H
   go_wp2_with (first|((with_reducible refine δv (f:=80) rfl ?_);refine goesL_ (some 7) rfl rfl Tryz.func80 (by kernel_rfl) rfl #[.slice A0 l0.length c0] rfl (by (try simp only [δd,δe,δf]);rfl) ?_;(with_reducible refine (impl_isList_impl_Pair.calls _ _ l0 τ _ ?side1 ?side2 A4.out).mono ?_);(case side1=>repeat (exact (Kd.C_below HR0.out HB.out)));(case side2=>exact HC0.out);rintro e w' ⟨rfl,⟨nd,rfl⟩⟩;refine ⟨_,rfl,?_⟩)|(go_at_call 61;(with_reducible refine (impl_isText.calls _ _ l1 t719 _ ?side1 ?side2 A6.out).mono ?_);(case side1=>repeat (exact (Kd.C_below HR1.out (by repeat ((with_reducible first|exact HB.out|apply δi))))));(case side2=>exact HC1.out);rintro e w' ⟨rfl,⟨nd,rfl⟩⟩))
   go_meet
   case rel=>exact ⟨_,(!t719),(by rfl),H',⟨by omega⟩,⟨by repeat ((with_reducible first|exact HB.out|apply δi))⟩⟩
  ·
   replace c5:=Bool.eq_false_iff.mpr c5
   subst c5
   have H1:(impl_storeCode.j0 k l0 τ)=some r:=by rw [if_neg (show ¬ (φ=τ) by decide)] at H;exact H
   clear H
   have H:=H1
   clear H1
   have H':=ζa H
   clear H
   go_wp2_with (((with_reducible refine δv (f:=80) rfl ?_);refine goesL_ (some 7) rfl rfl Tryz.func80 (by kernel_rfl) rfl #[.slice A0 l0.length c0] rfl (by (try simp only [δd,δe,δf]);rfl) ?_;(with_reducible refine (impl_isList_impl_Pair.calls _ _ l0 φ _ ?side1 ?side2 A4.out).mono ?_);(case side1=>repeat (exact (Kd.C_below HR0.out HB.out)));(case side2=>exact HC0.out);rintro e w' ⟨rfl,⟨nd,rfl⟩⟩;refine ⟨_,rfl,?_⟩))
   go_meet
   case rel=>exact ⟨_,(τ),(by rfl),H',⟨by omega⟩,⟨by repeat ((with_reducible first|exact HB.out|apply δi))⟩⟩
 case rest =>
  clear HC3
  try clear c1
  try clear p2
  try clear c5
  try clear c6
  obtain ⟨kq,x5_2,rfl,HA,HJ2,HB⟩:=hcut
  cases kq with
  | zero=>exact absurd HA.out (by simp [impl_storeCode.j0])
  | succ kj2 =>
   have H:=HA.out
   clear HA
   simp only [impl_storeCode.j0] at H
   by_cases c7:x5_2=τ
   ·
    subst c7
    have H1:(some 2)=some r:=by rw [if_pos rfl] at H;exact H
    clear H
    have H:=H1
    clear H1
    obtain rfl:=Option.some.inj H
    go_wp2
    go_ret
    exact ⟨by rfl,by repeat ((with_reducible exact HB.out))⟩
   ·
    replace c7:=Bool.eq_false_iff.mpr c7
    subst c7
    have H1:((impl_StoreOK.f kj2 l0).bind fun t720=>(if t720=τ then (some 0) else (some 1)))=some r:=by rw [if_neg (show ¬ (φ=τ) by decide)] at H;exact H
    clear H
    have H:=H1
    clear H1
    replace H:=Option.bind_eq_some_iff.mp H
    obtain ⟨t720,A80,H⟩:=H
    replace H:(if t720=τ then (some 0) else (some 1))=some r:=H
    have A8:=ζa A80
    clear A80
    by_cases c9:t720=τ
    ·
     subst c9
     have H1:(some 0)=some r:=by rw [if_pos rfl] at H;exact H
     clear H
     have H:=H1
     clear H1
     obtain rfl:=Option.some.inj H
     go_wp2_with (((with_reducible refine δv (f:=81) rfl ?_);refine goesL_ (some 16) rfl rfl Tryz.func81 (by kernel_rfl) rfl #[.slice A0 l0.length c0] rfl (by (try simp only [δd,δe,δf]);rfl) ?_;(with_reducible refine (impl_StoreOK.calls kj2 _ _ l0 τ _ ?side1 ?side2 A8.out).mono ?_);(case side1=>repeat (exact (Kd.C_below HR0.out HB.out)));(case side2=>exact HC0.out);rintro e w10 ⟨rfl,hb⟩;refine ⟨_,rfl,?_⟩;replace HB:=ζa (δr (by exact HB.out) hb);(try clear hb);(try clear hb2);(try clear hk);(try clear hi)))
     go_ret
     exact ⟨by rfl,by repeat ((with_reducible exact HB.out))⟩
    ·
     replace c9:=Bool.eq_false_iff.mpr c9
     subst c9
     have H1:(some 1)=some r:=by rw [if_neg (show ¬ (φ=τ) by decide)] at H;exact H
     clear H
     have H:=H1
     clear H1
     obtain rfl:=Option.some.inj H
     go_wp2_with (((with_reducible refine δv (f:=81) rfl ?_);refine goesL_ (some 16) rfl rfl Tryz.func81 (by kernel_rfl) rfl #[.slice A0 l0.length c0] rfl (by (try simp only [δd,δe,δf]);rfl) ?_;(with_reducible refine (impl_StoreOK.calls kj2 _ _ l0 φ _ ?side1 ?side2 A8.out).mono ?_);(case side1=>repeat (exact (Kd.C_below HR0.out HB.out)));(case side2=>exact HC0.out);rintro e w11 ⟨rfl,hb⟩;refine ⟨_,rfl,?_⟩;replace HB:=ζa (δr (by exact HB.out) hb);(try clear hb);(try clear hb2);(try clear hk);(try clear hi)))
     go_ret
     exact ⟨by rfl,by repeat ((with_reducible exact HB.out))⟩

end Go.Proofs.YtabmfhnhmoiljaaGreatDoor.Q

/- A store is a row of pairs: its size, its copy, whether it stands, and what is found in it. -/
namespace Go.Proofs.YtabmfhnhmoiljaaGreatDoor.U
open Go Go.RowKit Go.Proofs.YtabmfhnhmoiljaaGreatDoor.Q Go.Proofs.YtabmfhnhmoiljaaGreatDoorW.PrintWords Go.Proofs.YtabmfhnhmoiljaaGreatDoorW.PrintLast Go.Proofs.YtabmfhnhmoiljaaGreatDoorW.PrintMore
set_option linter.unusedVariables false
set_option linter.unusedSimpArgs false

abbrev LP := S49
abbrev IP := S51
def toP (x : LP) : IP := ⟨x.f0, x.f1⟩
theorem rdL (l : List LP) (i : Nat) (h : i < l.length) : rd_T49 l (i : Int) = l[i] := by simp [rd_T49, List.getD_eq_getElem?_getD, List.getElem?_eq_getElem h]
theorem rdI (l : List IP) (i : Nat) (h : i < l.length) : rd_T51 l (i : Int) = l[i] := by simp [rd_T51, List.getD_eq_getElem?_getD, List.getElem?_eq_getElem h]

theorem szPair_ok (a b : ByteArray) (n : Int) (ha : a.size ≤ 9223372036854775807) (hb : b.size ≤ 9223372036854775807) (h0 : 0 ≤ n) (h1 : n ≤ 1048576) :
    ∃ z, laws_szPair.f a b n = some z ∧ (z < 0 ∨ (0 ≤ z ∧ z ≤ n ∧ a.size ≤ 1048576 ∧ b.size ≤ 1048576)) := by
  unfold laws_szPair.f
  rw [wid (n := n - (a.size : Int)) (by omega) (by omega)]
  by_cases c1 : n - (a.size : Int) < 0
  · exact ⟨-1, by rw [if_pos c1], .inl (by decide)⟩
  rw [if_neg c1, wid (n := n - (a.size : Int) - (b.size : Int)) (by omega) (by omega)]
  by_cases c2 : n - (a.size : Int) - (b.size : Int) < 0
  · exact ⟨-1, by rw [if_pos c2], .inl (by decide)⟩
  exact ⟨_, by rw [if_neg c2], .inr (by omega)⟩
/-- All pairs are short. -/
def Short (l : List LP) : Prop := l.length ≤ 1048576 ∧ ∀ x ∈ l, x.f0.size ≤ 1048576 ∧ x.f1.size ≤ 1048576
theorem szPairS_go (l : List LP) (hl : l.length ≤ 1048576) (hx : ∀ x ∈ l, x.f0.size ≤ 9223372036854775807 ∧ x.f1.size ≤ 9223372036854775807) : ∀ (d i : Nat) (n : Int), i + d = l.length → 0 ≤ n → n ≤ 1048576 →
    ∃ z, Ev (fun k => laws_szPairS.l0 k l n (i : Int)) z ∧ (z < 0 ∨ (0 ≤ z ∧ z ≤ n ∧ ∀ x ∈ l.drop i, x.f0.size ≤ 1048576 ∧ x.f1.size ≤ 1048576)) := by
  intro d
  induction d with
  | zero =>
    intro i n hi h0 h1
    refine ⟨n, Ev.step (fun k => ?_) (Ev.now _), .inr ⟨h0, Int.le_refl _, ?_⟩⟩
    · rw [laws_szPairS.l0, if_neg (by omega)]
    · rw [List.drop_of_length_le (by omega)]; simp
  | succ d ih =>
    intro i n hi h0 h1
    have hlt : i < l.length := by omega
    obtain ⟨z1, e1, hz1⟩ := szPair_ok l[i].f0 l[i].f1 n (hx _ (List.getElem_mem hlt)).1 (hx _ (List.getElem_mem hlt)).2 h0 h1
    have hstep : ∀ k, laws_szPairS.l0 (k + 1) l n (i : Int) = if z1 < 0 then some (-1) else laws_szPairS.l0 k l z1 ((i + 1 : Nat) : Int) := by
      intro k
      rw [laws_szPairS.l0, if_pos (by omega), if_pos (by omega), rdL l i hlt, e1, wid (n := (i : Int) + 1) (by omega) (by omega)]
      rfl
    by_cases hn : z1 < 0
    · exact ⟨-1, Ev.step hstep (by simp only [if_pos hn]; exact Ev.now _), .inl (by decide)⟩
    rcases hz1 with hz1 | ⟨hz0, hzn, ha, hb⟩
    · exact absurd hz1 hn
    obtain ⟨z, e2, hz⟩ := ih (i + 1) z1 (by omega) hz0 (by omega)
    refine ⟨z, Ev.step hstep (by simp only [if_neg hn]; exact e2), ?_⟩
    rcases hz with hz | ⟨hz1, hz2, hz3⟩
    · exact .inl hz
    refine .inr ⟨hz1, by omega, ?_⟩
    rw [List.drop_eq_getElem_cons hlt]
    intro x hxm
    rcases List.mem_cons.1 hxm with rfl | hxm
    · exact ⟨ha, hb⟩
    · exact hz3 x hxm
theorem szPairS_ev (l : List LP) (n : Int) (hl : l.length ≤ 9223372036854775807) (hx : ∀ x ∈ l, x.f0.size ≤ 9223372036854775807 ∧ x.f1.size ≤ 9223372036854775807) (h0 : 0 ≤ n) (h1 : n ≤ 1048576) :
    ∃ z, Ev (fun k => laws_szPairS.f k l n) z ∧ (z < 0 ∨ (0 ≤ z ∧ z ≤ n ∧ Short l)) := by
  unfold laws_szPairS.f
  rw [wid (n := n - (l.length : Int)) (by omega) (by omega)]
  by_cases c1 : n - (l.length : Int) < 0
  · exact ⟨-1, by simp only [if_pos c1]; exact Ev.now _, .inl (by decide)⟩
  simp only [if_neg c1]
  obtain ⟨z, e, hz⟩ := szPairS_go l (by omega) hx l.length 0 (n - (l.length : Int)) (by omega) (by omega) (by omega)
  refine ⟨z, e, ?_⟩
  rcases hz with hz | ⟨hz1, hz2, hz3⟩
  · exact .inl hz
  · exact .inr ⟨hz1, by omega, by omega, by simpa using hz3⟩

theorem toPairS_go (l : List LP) (hl : l.length ≤ 1048576) : ∀ (d i : Nat) (o : List IP), i + d = l.length → o.length = l.length → (∀ j, j < i → o[j]? = (l.map toP)[j]?) →
    Ev (fun k => laws_toPairS.l0 k l o (i : Int)) (l.map toP) := by
  intro d
  induction d with
  | zero =>
    intro i o hi ho hj
    have e : o = l.map toP := by
      apply List.ext_getElem?
      intro j
      by_cases h : j < i
      · exact hj j h
      · rw [List.getElem?_eq_none (by omega), List.getElem?_eq_none (by simp; omega)]
    refine Ev.step (fun k => ?_) (Ev.now _)
    rw [laws_toPairS.l0, if_neg (by omega), e]
  | succ d ih =>
    intro i o hi ho hj
    have hlt : i < l.length := by omega
    refine Ev.step (f := fun k => laws_toPairS.l0 k l (o.set i (toP l[i])) ((i + 1 : Nat) : Int)) (fun k => ?_) (ih (i + 1) (o.set i (toP l[i])) (by omega) (by simpa using ho) ?_)
    · rw [laws_toPairS.l0, if_pos (by omega), if_pos (by omega), rdL l i hlt]
      simp only [laws_toPair.f, Option.bind_some]
      rw [if_pos (by omega), wid (n := (i : Int) + 1) (by omega) (by omega)]
      rfl
    · intro j hji
      rw [List.getElem?_set]
      by_cases h : i = j
      · subst h
        rw [if_pos rfl, if_pos (by omega)]
        simp [hlt]
      · rw [if_neg h]
        exact hj j (by omega)
theorem toPairS_ev (l : List LP) (hl : l.length ≤ 1048576) : Ev (fun k => laws_toPairS.f k l) (l.map toP) := by
  unfold laws_toPairS.f
  simp only [if_pos (show (0 : Int) ≤ (l.length : Int) by omega), if_pos (show (l.length : Int).toNat ≤ 8796093022208 by omega)]
  exact toPairS_go l hl l.length 0 _ (by omega) (by simp) (by simp)
theorem eqPair_self (a b : ByteArray) : laws_eqPair.f a b a b = some true := by unfold laws_eqPair.f; rw [if_pos rfl, if_pos rfl]
theorem eqPairS_go (l : List IP) (hl : l.length ≤ 1048576) : ∀ (d i : Nat), i + d = l.length → Ev (fun k => laws_eqPairS.l0 k l l (i : Int)) true := by
  intro d
  induction d with
  | zero =>
    intro i hi
    exact Ev.step (fun k => by rw [laws_eqPairS.l0, if_neg (by omega)]) (Ev.now _)
  | succ d ih =>
    intro i hi
    refine Ev.step (f := fun k => laws_eqPairS.l0 k l l ((i + 1 : Nat) : Int)) (fun k => ?_) (ih (i + 1) (by omega))
    rw [laws_eqPairS.l0, if_pos (by omega), if_pos (by omega), if_pos (by omega), eqPair_self, wid (n := (i : Int) + 1) (by omega) (by omega)]
    rfl
theorem eqPairS_ev (l : List IP) (hl : l.length ≤ 1048576) : Ev (fun k => laws_eqPairS.f k l l) true := by
  unfold laws_eqPairS.f
  simp only [if_true]
  exact eqPairS_go l hl l.length 0 (by omega)

/-! ### whether it stands -/
def keyB (x : ByteArray) : Bool := decide (1 ≤ x.size ∧ x.size ≤ 60)
def valueB (x : ByteArray) : Bool := decide (x.size ≤ 1000)
def lessB (l : List IP) (i : Nat) : Bool := decide (i = 0) || Op.bytesLess ((rd_T51 l ((i : Int) - 1)).f0).toList ((rd_T51 l (i : Int)).f0).toList
def pairB (l : List IP) (i : Nat) : Bool := keyB (rd_T51 l (i : Int)).f0 && (valueB (rd_T51 l (i : Int)).f1 && lessB l i)
def fromB (l : List IP) : Nat → Nat → Bool
  | 0, _ => true
  | d + 1, i => pairB l i && fromB l d (i + 1)
/-- The store stands: keys and values are in their bounds, keys rise, and there are at most 400. -/
def storeB (l : List IP) : Bool := fromB l l.length 0 && decide (l.length ≤ 400)
theorem implKey_eq (x : ByteArray) : impl_isKey.f x = some (keyB x) := by
  unfold impl_isKey.f impl_within.f keyB
  by_cases h : (x.size : Int) ≥ 1
  · simp only [if_pos h, Option.bind_some]; congr 1; rw [decide_eq_decide]; omega
  · simp only [if_neg h, Option.bind_some]; congr 1; rw [eq_comm, decide_eq_false_iff_not]; omega
theorem specKey_eq (x : ByteArray) : spec_l03Key.f x = some (keyB x) := by
  unfold spec_l03Key.f spec_l01In.f keyB
  by_cases h : (x.size : Int) ≥ 1
  · simp only [if_pos h, Option.bind_some]; congr 1; rw [decide_eq_decide]; omega
  · simp only [if_neg h, Option.bind_some]; congr 1; rw [eq_comm, decide_eq_false_iff_not]; omega
theorem implValue_eq (x : ByteArray) : impl_isValue.f x = some (valueB x) := by
  unfold impl_isValue.f valueB; congr 1; rw [decide_eq_decide]; omega
theorem specPair_eq (x y : ByteArray) : spec_l03Pair.f x y = some (keyB x && valueB y) := by
  unfold spec_l03Pair.f valueB
  rw [specKey_eq]
  simp only [Option.bind_some]
  cases keyB x with
  | false => rfl
  | true => simp only [if_true, Bool.true_and]; congr 1; rw [decide_eq_decide]; omega
theorem specStore_go (l : List IP) (hl : l.length ≤ 1048576) : ∀ (d i : Nat), i + d = l.length → Ev (fun k => spec_StoreOK.l0 k l (i : Int)) (fromB l d i) := by
  intro d
  induction d with
  | zero =>
    intro i hi
    exact Ev.step (fun k => by rw [spec_StoreOK.l0, if_neg (by omega)]; rfl) (Ev.now _)
  | succ d ih =>
    intro i hi
    have hstep : ∀ k, spec_StoreOK.l0 (k + 1) l (i : Int) = if pairB l i = true then spec_StoreOK.l0 k l ((i + 1 : Nat) : Int) else some false := by
      intro k
      rw [spec_StoreOK.l0, if_pos (by omega), if_pos (by omega), specPair_eq]
      simp only [Option.bind_some, pairB, lessB]
      rw [wid (n := (i : Int) + 1) (by omega) (by omega)]
      rcases Bool.eq_false_or_eq_true (keyB (rd_T51 l (i : Int)).f0) with hk | hk
      · rcases Bool.eq_false_or_eq_true (valueB (rd_T51 l (i : Int)).f1) with hv | hv
        · simp only [hk, hv, Bool.true_and, Bool.and_self, if_true]
          by_cases h0 : i = 0
          · subst h0; simp
          · rw [if_pos (show (i : Int) > 0 by omega), wid (n := (i : Int) - 1) (by omega) (by omega), if_pos (by omega), if_pos (by omega), decide_eq_false h0, Bool.false_or]
            rfl
        · simp only [hk, hv, Bool.true_and, Bool.and_false, Bool.false_and, Bool.false_eq_true, if_false, if_true]
      · simp only [hk, Bool.false_and, Bool.false_eq_true, if_false]
    have h2 := ih (i + 1) (by omega)
    refine Ev.step hstep ?_
    rw [fromB]
    cases pairB l i with
    | false => exact Ev.now _
    | true => simp only [if_true, Bool.true_and]; exact h2
theorem specStoreOK_ev (l : List IP) (hl : l.length ≤ 1048576) : Ev (fun k => spec_StoreOK.f k l) (storeB l) := by
  unfold spec_StoreOK.f storeB
  by_cases h1 : (l.length : Int) > 4096
  · simp only [if_pos h1, decide_eq_false (show ¬ l.length ≤ 400 by omega), Bool.and_false]; exact Ev.now _
  simp only [if_neg h1]
  by_cases h2 : (l.length : Int) > 400
  · simp only [if_pos h2, decide_eq_false (show ¬ l.length ≤ 400 by omega), Bool.and_false]; exact Ev.now _
  simp only [if_neg h2, decide_eq_true (show l.length ≤ 400 by omega), Bool.and_true]
  exact specStore_go l hl l.length 0 (by omega)
theorem implStore_go (l : List IP) (hl : l.length ≤ 1048576) : ∀ (d i : Nat), i + d = l.length → Ev (fun k => impl_StoreOK.l0 k l l (l.length : Int) (i : Int)) (fromB l d i && decide (l.length ≤ 400)) := by
  intro d
  induction d with
  | zero =>
    intro i hi
    refine Ev.step (fun k => ?_) (Ev.now _)
    rw [impl_StoreOK.l0, if_neg (by omega), fromB, Bool.true_and]
    congr 1; rw [decide_eq_decide]; omega
  | succ d ih =>
    intro i hi
    have hstep : ∀ k, impl_StoreOK.l0 (k + 1) l l (l.length : Int) (i : Int) = if pairB l i = true then impl_StoreOK.l0 k l l (l.length : Int) ((i + 1 : Nat) : Int) else some false := by
      intro k
      rw [impl_StoreOK.l0, if_pos (by omega), if_pos (by omega), if_pos (by omega), implKey_eq, implValue_eq]
      simp only [Option.bind_some, pairB, lessB]
      rw [wid (n := (i : Int) + 1) (by omega) (by omega)]
      rcases Bool.eq_false_or_eq_true (keyB (rd_T51 l (i : Int)).f0) with hk | hk
      · rcases Bool.eq_false_or_eq_true (valueB (rd_T51 l (i : Int)).f1) with hv | hv
        · simp only [hk, hv, Bool.true_and, Bool.and_self, if_true]
          by_cases h0 : i = 0
          · subst h0; simp
          · rw [if_pos (show (i : Int) > 0 by omega), wid (n := (i : Int) - 1) (by omega) (by omega), if_pos (by omega), if_pos (by omega), decide_eq_false h0, Bool.false_or]
            rfl
        · simp only [hk, hv, Bool.true_and, Bool.and_false, Bool.false_and, Bool.false_eq_true, if_false, if_true]
      · simp only [hk, Bool.false_and, Bool.false_eq_true, if_false]
    have h2 := ih (i + 1) (by omega)
    refine Ev.step hstep ?_
    rw [fromB]
    cases pairB l i with
    | false => exact Ev.now _
    | true => simp only [if_true, Bool.true_and]; exact h2
theorem implStoreOK_ev (l : List IP) (hl : l.length ≤ 1048576) : Ev (fun k => impl_StoreOK.f k l) (storeB l) := by
  unfold impl_StoreOK.f storeB
  exact implStore_go l hl l.length 0 (by omega)
/-- The code of a store, no texts being too long. -/
def storeV (l : List IP) : Int := if l.length ≤ 4096 then (if storeB l = true then 0 else 1) else 2
theorem storeCode_ev (l : List IP) (ts : List ByteArray) (hl : l.length ≤ 1048576) :
    Ev (fun k => impl_storeCode.f k l ts) (if l.length ≤ 4096 ∧ (ts.any fun t => decide ((t.size : Int) > 65536)) = false then (if storeB l = true then 0 else 1) else 2) := by
  unfold impl_storeCode.f impl_isList_impl_Pair.f impl_isText.f
  simp only [Option.bind_some]
  have hbad : Ev (fun k => impl_storeCode.j0 k l true) 2 := Ev.step (fun k => by rw [impl_storeCode.j0, if_pos rfl]) (Ev.now _)
  by_cases h1 : l.length ≤ 4096
  · rw [decide_eq_true (show (l.length : Int) ≤ 4096 by omega)]
    simp only [if_true]
    cases h2 : (ts.any fun t => decide ((t.size : Int) > 65536)) with
    | true => simp only [Bool.not_true, Bool.not_false, Bool.true_eq_false, and_false, if_false]; exact hbad
    | false =>
      simp only [Bool.not_false, Bool.not_true, h1, and_true, if_true]
      refine Ev.step (fun k => by rw [impl_storeCode.j0, if_neg (by decide)]) (Ev.bind (implStoreOK_ev l hl) ?_)
      cases storeB l with
      | false => exact Ev.now _
      | true => simp only [if_true]; exact Ev.now _
  · rw [decide_eq_false (show ¬ (l.length : Int) ≤ 4096 by omega), if_neg (by simp [h1])]
    exact hbad
end Go.Proofs.YtabmfhnhmoiljaaGreatDoor.U

/- What is found in a store: the reference's search and the program's take the same steps. -/
namespace Go.Proofs.YtabmfhnhmoiljaaGreatDoor.U
open Go Go.RowKit Go.Proofs.YtabmfhnhmoiljaaGreatDoor.Q Go.Proofs.YtabmfhnhmoiljaaGreatDoorW.PrintWords Go.Proofs.YtabmfhnhmoiljaaGreatDoorW.PrintLast Go.Proofs.YtabmfhnhmoiljaaGreatDoorW.PrintMore
set_option linter.unusedVariables false
set_option linter.unusedSimpArgs false

theorem cmp_neg : ∀ a b : List UInt8, Lib.compareBytes a b < 0 ↔ Op.bytesLess a b = true
  | [], [] => by simp [Lib.compareBytes, Op.bytesLess]
  | [], _ :: _ => by simp [Lib.compareBytes, Op.bytesLess]
  | _ :: _, [] => by simp [Lib.compareBytes, Op.bytesLess]
  | a :: x, b :: y => by
    rw [Lib.compareBytes, Op.bytesLess]
    by_cases h1 : a < b
    · simp [h1]
    · by_cases h2 : b < a
      · have h3 : ¬ a = b := fun e => by subst e; exact h1 h2
        simp [h1, h2, h3]
      · have h3 : a = b := UInt8.le_antisymm (UInt8.not_lt.1 h2) (UInt8.not_lt.1 h1)
        subst h3
        simp [h1, cmp_neg x y]
theorem cmp_zero : ∀ a b : List UInt8, Lib.compareBytes a b = 0 ↔ a = b
  | [], [] => by simp [Lib.compareBytes]
  | [], _ :: _ => by simp [Lib.compareBytes]
  | _ :: _, [] => by simp [Lib.compareBytes]
  | a :: x, b :: y => by
    rw [Lib.compareBytes]
    by_cases h1 : a < b
    · have h3 : ¬ a = b := fun e => by subst e; exact UInt8.lt_irrefl _ h1
      simp [h1, h3]
    · by_cases h2 : b < a
      · have h3 : ¬ a = b := fun e => by subst e; exact h1 h2
        simp [h1, h2, h3]
      · have h3 : a = b := UInt8.le_antisymm (UInt8.not_lt.1 h2) (UInt8.not_lt.1 h1)
        subst h3
        simp [h1, cmp_zero x y]
/-- Where a key's search ends. -/
def atV (l : List IP) (key : ByteArray) : Nat → Nat → Nat → Nat
  | 0, i, _ => i
  | f + 1, i, j => if i < j then (if Op.bytesLess ((rd_T51 l (((i + j) / 2 : Nat) : Int)).f0).toList key.toList = true then atV l key f ((i + j) / 2 + 1) j else atV l key f i ((i + j) / 2)) else i
theorem atV_bd (l : List IP) (key : ByteArray) : ∀ (f i j : Nat), i ≤ j → i ≤ atV l key f i j ∧ atV l key f i j ≤ j
  | 0, i, j, h => ⟨Nat.le_refl _, h⟩
  | f + 1, i, j, h => by
    rw [atV]
    by_cases h1 : i < j
    · rw [if_pos h1]
      split
      · have := atV_bd l key f ((i + j) / 2 + 1) j (by omega); omega
      · have := atV_bd l key f i ((i + j) / 2) (by omega); omega
    · rw [if_neg h1]; omega
theorem specAt_go (l : List IP) (key : ByteArray) (hl : l.length ≤ 1048576) : ∀ (f i j : Nat), j - i < f → i ≤ j → j ≤ l.length → Ev (fun k => spec_l03At.l0 k l key (i : Int) (j : Int)) (atV l key f i j : Int)
  | 0, i, j, h, _, _ => by omega
  | f + 1, i, j, h, hij, hj => by
    rw [atV]
    by_cases h1 : i < j
    · rw [if_pos h1]
      have e1 : wrap64 (Int.tdiv (wrap64 ((i : Int) + (j : Int))) 2) = (((i + j) / 2 : Nat) : Int) := by
        rw [wid (n := (i : Int) + (j : Int)) (by omega) (by omega), tdiv_nn (by omega), wid (by omega) (by omega)]; omega
      have hstep : ∀ k, spec_l03At.l0 (k + 1) l key (i : Int) (j : Int) = if Op.bytesLess ((rd_T51 l (((i + j) / 2 : Nat) : Int)).f0).toList key.toList = true then spec_l03At.l0 k l key (((i + j) / 2 + 1 : Nat) : Int) (j : Int) else spec_l03At.l0 k l key (i : Int) (((i + j) / 2 : Nat) : Int) := by
        intro k
        rw [spec_l03At.l0, if_pos (by omega), e1, if_pos (by omega), if_pos (by omega), wid (n := (((i + j) / 2 : Nat) : Int) + 1) (by omega) (by omega)]
        rfl
      refine Ev.step hstep ?_
      split
      · exact specAt_go l key hl f _ _ (by omega) (by omega) hj
      · exact specAt_go l key hl f _ _ (by omega) (by omega) (by omega)
    · rw [if_neg h1]
      exact Ev.step (fun k => by rw [spec_l03At.l0, if_neg (by omega)]) (Ev.now _)
theorem implAt_go (l : List IP) (key : ByteArray) (hl : l.length ≤ 1048576) : ∀ (f i j : Nat), j - i < f → i ≤ j → j ≤ l.length → Ev (fun k => impl_pairAt.l0 k l key (i : Int) (j : Int)) (atV l key f i j : Int)
  | 0, i, j, h, _, _ => by omega
  | f + 1, i, j, h, hij, hj => by
    rw [atV]
    by_cases h1 : i < j
    · rw [if_pos h1]
      have e1 : ((i : Int) + (j : Int)) / 2 = (((i + j) / 2 : Nat) : Int) := by omega
      have hstep : ∀ k, impl_pairAt.l0 (k + 1) l key (i : Int) (j : Int) = if Op.bytesLess ((rd_T51 l (((i + j) / 2 : Nat) : Int)).f0).toList key.toList = true then impl_pairAt.l0 k l key (((i + j) / 2 + 1 : Nat) : Int) (j : Int) else impl_pairAt.l0 k l key (i : Int) (((i + j) / 2 : Nat) : Int) := by
        intro k
        rw [impl_pairAt.l0, if_pos (by omega), e1, if_pos (by omega), if_pos (by omega), Lib.toList_data, Lib.toList_data]
        by_cases hb : Op.bytesLess ((rd_T51 l (((i + j) / 2 : Nat) : Int)).f0).data.toList key.data.toList = true
        · rw [if_pos hb, if_pos ((cmp_neg _ _).2 hb)]; rfl
        · rw [if_neg hb, if_neg (fun e => hb ((cmp_neg _ _).1 e))]
      refine Ev.step hstep ?_
      split
      · exact implAt_go l key hl f _ _ (by omega) (by omega) hj
      · exact implAt_go l key hl f _ _ (by omega) (by omega) (by omega)
    · rw [if_neg h1]
      exact Ev.step (fun k => by rw [impl_pairAt.l0, if_neg (by omega)]) (Ev.now _)
def atOf (l : List IP) (key : ByteArray) : Nat := atV l key (l.length + 1) 0 l.length
theorem atOf_le (l : List IP) (key : ByteArray) : atOf l key ≤ l.length := (atV_bd l key _ 0 l.length (by omega)).2
theorem specAt_ev (l : List IP) (key : ByteArray) (hl : l.length ≤ 1048576) : Ev (fun k => spec_l03At.f k l key) (atOf l key : Int) := specAt_go l key hl (l.length + 1) 0 l.length (by omega) (by omega) (by omega)
def hitB (l : List IP) (key : ByteArray) : Bool := decide (atOf l key < l.length) && (((rd_T51 l (atOf l key : Int)).f0).toList == key.toList)
theorem implAt_ev (l : List IP) (key : ByteArray) (hl : l.length ≤ 1048576) : Ev (fun k => impl_pairAt.f k l key) ((atOf l key : Int), hitB l key) := by
  unfold impl_pairAt.f
  refine Ev.bind (implAt_go l key hl (l.length + 1) 0 l.length (by omega) (by omega) (by omega)) ?_
  have hle := atOf_le l key
  have e : impl_pairAt.hit l key (atOf l key : Int) = hitB l key := by
    unfold impl_pairAt.hit hitB
    congr 1
    · rw [decide_eq_decide]; omega
    · rw [Lib.toList_data, Lib.toList_data, Bool.eq_iff_iff, beq_iff_eq, beq_iff_eq]
      exact cmp_zero _ _
  rw [show atV l key (l.length + 1) 0 l.length = atOf l key from rfl]
  simp only [if_pos (show (l.length : Int) < 1000000000000 by omega), if_pos (show (0 : Int) ≤ (atOf l key : Int) by omega), if_pos (show (atOf l key : Int) ≤ (l.length : Int) by omega), e]
  exact Ev.now _
/-- What is found, and whether. -/
def getV (l : List IP) (key : ByteArray) : ByteArray × Bool := if hitB l key = true then ((rd_T51 l (atOf l key : Int)).f1, true) else ((⟨#[]⟩ : ByteArray), false)
theorem specGet_ev (l : List IP) (key : ByteArray) (hl : l.length ≤ 1048576) : Ev (fun k => spec_l03Get.f k l key) (getV l key) := by
  unfold spec_l03Get.f getV hitB
  refine Ev.bind (specAt_ev l key hl) ?_
  by_cases h1 : atOf l key < l.length
  · simp only [if_pos (show (atOf l key : Int) < (l.length : Int) by omega), if_pos (show (0 : Int) ≤ (atOf l key : Int) by omega), decide_eq_true h1, Bool.true_and]
    by_cases h2 : ((rd_T51 l (atOf l key : Int)).f0).toList = key.toList
    · simp only [h2, beq_self_eq_true, if_true]; exact Ev.now _
    · simp only [if_neg h2, beq_eq_false_iff_ne.2 h2, Bool.false_eq_true, if_false]; exact Ev.now _
  · simp only [if_neg (show ¬ (atOf l key : Int) < (l.length : Int) by omega), decide_eq_false h1, Bool.false_and, Bool.false_eq_true, if_false]; exact Ev.now _
theorem implGet_ev (l : List IP) (key : ByteArray) (hl : l.length ≤ 1048576) : Ev (fun k => impl_get.f k l key) (getV l key) := by
  unfold impl_get.f getV
  refine Ev.bind (implAt_ev l key hl) ?_
  cases h : hitB l key with
  | false => simp only [Bool.false_eq_true, if_false]; exact Ev.now _
  | true =>
    have h1 : atOf l key < l.length := by
      unfold hitB at h
      rw [Bool.and_eq_true, decide_eq_true_iff] at h
      exact h.1
    simp only [if_true, if_pos (show (0 : Int) ≤ (atOf l key : Int) by omega), if_pos (show (atOf l key : Int) < (l.length : Int) by omega)]
    exact Ev.now _
end Go.Proofs.YtabmfhnhmoiljaaGreatDoor.U

/- Fields that are written are read back; amounts and bounds as both sides read them. -/
namespace Go.Proofs.YtabmfhnhmoiljaaGreatDoor.U
open Go Go.RowKit Go.Proofs.YtabmfhnhmoiljaaGreatDoor.Q Go.Proofs.YtabmfhnhmoiljaaGreatDoorW.PrintWords Go.Proofs.YtabmfhnhmoiljaaGreatDoorW.PrintLast Go.Proofs.YtabmfhnhmoiljaaGreatDoorW.PrintMore
set_option linter.unusedVariables false
set_option linter.unusedSimpArgs false

def someB (n : Int) : Bool := decide (1 ≤ n ∧ n ≤ 1000000000000000000)
def max0 (n : Int) : Int := if 0 ≤ n then n else 0
theorem within_eq (n a b : Int) : impl_within.f n a b = some (decide (a ≤ n ∧ n ≤ b)) := by
  unfold impl_within.f
  by_cases h : n ≥ a
  · rw [if_pos h]; congr 1; rw [decide_eq_decide]; omega
  · rw [if_neg h]; congr 1; rw [eq_comm, decide_eq_false_iff_not]; omega
theorem l01In_eq (n a b : Int) : spec_l01In.f n a b = some (decide (a ≤ n ∧ n ≤ b)) := by
  unfold spec_l01In.f
  by_cases h : n ≥ a
  · rw [if_pos h]; congr 1; rw [decide_eq_decide]; omega
  · rw [if_neg h]; congr 1; rw [eq_comm, decide_eq_false_iff_not]; omega
theorem isSome_eq (n : Int) : impl_isSome.f n = some (someB n) := by unfold impl_isSome.f; rw [within_eq]; rfl
theorem amountText_eq (n : Int) (h0 : 0 ≤ n) (h1 : n ≤ 9223372036854775807) : impl_amountText.f n = some (digV n.toNat) := by
  unfold impl_amountText.f strconv_Itoa.f
  rw [if_pos (by omega), if_pos h1, itoa_eq n h0]
  rfl
theorem readAmount_fst (a : ByteArray) (hs : a.size ≤ 281474976710656) : ∃ b, impl_readAmount.f a = some (max0 (amtV a), b) := by
  rw [readAmount_eq a hs]
  unfold max0
  by_cases h : 0 ≤ amtV a
  · rw [if_pos h, if_pos h]; exact ⟨_, rfl⟩
  · rw [if_neg h, if_neg h]; exact ⟨_, rfl⟩
theorem getV_size (l : List IP) (key : ByteArray) (B : Nat) (h : ∀ x ∈ l, x.f1.size ≤ B) : (getV l key).1.size ≤ B := by
  unfold getV
  split
  · rename_i hh
    unfold hitB at hh
    rw [Bool.and_eq_true, decide_eq_true_iff] at hh
    rw [rdI l _ hh.1]
    exact h _ (List.getElem_mem hh.1)
  · exact Nat.zero_le _
theorem getV_none (l : List IP) (key : ByteArray) (h : (getV l key).2 = false) : (getV l key).1 = ⟨#[]⟩ := by
  unfold getV at *
  split
  · rename_i hh; rw [if_pos hh] at h; cases h
  · rfl
theorem readV_empty : readV (⟨#[]⟩ : ByteArray) = none := by unfold readV; rw [if_pos (by rfl)]

/-! ### what is written is read back -/
theorem ofNums2 (n : Nat) (h : n ≤ 65535) : ∃ a b : UInt8, strOfNums [(n : Int) / 256 % 256, (n : Int) % 256] = ⟨#[a, b]⟩ ∧ (a.toNat : Int) * 256 + b.toNat = n := by
  refine ⟨UInt8.ofNat (n / 256), UInt8.ofNat (n % 256), ?_, ?_⟩
  · have e1 : ((n : Int) / 256 % 256).toNat = n / 256 := by omega
    have e2 : ((n : Int) % 256).toNat = n % 256 := by omega
    simp [strOfNums, e1, e2]
  · rw [UInt8.toNat_ofNat', UInt8.toNat_ofNat']; omega
theorem readN_restV : ∀ (l : List ByteArray), (∀ x ∈ l, x.size ≤ 1000) → readN l.length (restV l) = some l
  | [], _ => by rw [List.length_nil, readN]; rfl
  | x :: xs, h => by
    have hx := h x (by simp)
    obtain ⟨a, b, e, hab⟩ := ofNums2 x.size (by omega)
    have ih := readN_restV xs (fun y hy => h y (by simp [hy]))
    have hl : (restV (x :: xs)).data.toList = a :: b :: (x.data.toList ++ (restV xs).data.toList) := by
      rw [restV, fieldV, e]
      simp
    have hsz : (restV (x :: xs)).size = 2 + x.size + (restV xs).size := by
      rw [← size_data, hl, List.length_cons, List.length_cons, List.length_append, size_data, size_data]; omega
    generalize restV (x :: xs) = s at *
    have b0 := bt_list s 0 (by omega)
    have b1 := bt_list s 1 (by omega)
    rw [hl] at b0 b1
    simp only [List.getD_cons_zero, List.getD_cons_succ] at b0 b1
    have f0 : bt s 0 = (a.toNat : Int) := b0
    have f1 : bt s 1 = (b.toNat : Int) := b1
    have hh : hd2 s = x.size := by
      have := (hd2_bd s).2
      rw [f0, f1, hab] at this
      omega
    rw [List.length_cons, readN, hh, if_neg (by omega), if_neg (by omega), if_neg (by omega)]
    have e1 : s.extract 2 (2 + x.size) = x := by
      apply ext_list
      rw [extract_list, hl, show 2 + x.size = x.size + 1 + 1 by omega]
      simp only [List.take_succ_cons, List.drop_succ_cons, List.drop_zero]
      exact List.take_left' (size_data x)
    have e2 : s.extract (2 + x.size) s.size = restV xs := by
      apply ext_list
      rw [extract_list, List.take_of_length_le (by rw [size_data]; exact Nat.le_refl _), hl, show 2 + x.size = x.size + 1 + 1 by omega]
      simp only [List.drop_succ_cons]
      exact List.drop_left' (size_data x)
    rw [e1, e2, ih]
    rfl
theorem readV_fieldsV (l : List ByteArray) (hl : l.length ≤ 40) (hx : ∀ x ∈ l, x.size ≤ 1000) : readV (fieldsV l) = some l := by
  have hlist : (fieldsV l).data.toList = UInt8.ofNat l.length :: (restV l).data.toList := by
    unfold fieldsV
    have : ((l.length : Int) % 256).toNat = l.length := by omega
    simp [strOfNums, this]
  have hsz : (fieldsV l).size = 1 + (restV l).size := by rw [← size_data, hlist, List.length_cons, size_data]; omega
  have e2 : (fieldsV l).extract 1 (fieldsV l).size = restV l := by
    apply ext_list
    rw [extract_list, List.take_of_length_le (by rw [size_data]; exact Nat.le_refl _), hlist]
    rfl
  have b0 := bt_list (fieldsV l) 0 (by omega)
  rw [hlist] at b0
  simp only [List.getD_cons_zero] at b0
  have f0 : bt (fieldsV l) 0 = (l.length : Int) := by
    refine (show bt (fieldsV l) 0 = _ from b0).trans ?_
    rw [UInt8.toNat_ofNat']; omega
  unfold readV
  rw [if_neg (by omega), f0, if_neg (by omega), e2, Int.toNat_natCast]
  exact readN_restV l hx
theorem fieldsV_inj {l l' : List ByteArray} (hl : l.length ≤ 40) (hx : ∀ x ∈ l, x.size ≤ 1000) (hl' : l'.length ≤ 40) (hx' : ∀ x ∈ l', x.size ≤ 1000) (h : fieldsV l = fieldsV l') : l = l' := by
  have h1 := readV_fieldsV l hl hx
  have h2 := readV_fieldsV l' hl' hx'
  rw [h, h2] at h1
  exact (Option.some.inj h1).symm

end Go.Proofs.YtabmfhnhmoiljaaGreatDoor.U

/- A pool as it stands in a store: the program's reading is the reference's. -/
namespace Go.Proofs.YtabmfhnhmoiljaaGreatDoor.U
open Go Go.RowKit Go.Proofs.YtabmfhnhmoiljaaGreatDoor.Q Go.Proofs.YtabmfhnhmoiljaaGreatDoorW.PrintWords Go.Proofs.YtabmfhnhmoiljaaGreatDoorW.PrintLast Go.Proofs.YtabmfhnhmoiljaaGreatDoorW.PrintMore
set_option linter.unusedVariables false
set_option linter.unusedSimpArgs false

/-! ### pools -/
def poolB (a b c : Int) : Bool := (a == 0 && (b == 0 && c == 0)) || (someB a && (someB b && someB c))
def poolR (v : ByteArray) : Int × Int × Int :=
  match readV v with
  | some [x, y, z] => if poolB (amtV x) (amtV y) (amtV z) = true then (amtV x, amtV y, amtV z) else (0, 0, 0)
  | _ => (0, 0, 0)
theorem implPoolOK_eq (a b c : Int) : impl_PoolOK.f a b c = some (poolB a b c) := by
  unfold impl_PoolOK.f poolB
  simp only [isSome_eq, Option.bind_some]
  cases (a == 0 && (b == 0 && c == 0)) with
  | true => simp
  | false => cases someB a <;> cases someB b <;> simp
theorem specPoolOK_ev (a b c : Int) : Ev (fun k => spec_PoolOK.f k a b c) (poolB a b c) := by
  have key : ∀ z, Ev (fun k => spec_PoolOK.j0 k z a b c) (z || (someB a && (someB b && someB c))) := by
    intro z
    refine Ev.step (fun k => ?_) (Ev.now _)
    rw [spec_PoolOK.j0, l01In_eq, l01In_eq, l01In_eq]
    simp only [Option.bind_some]
    unfold someB
    cases z with
    | true => rfl
    | false =>
      simp only [Bool.false_eq_true, if_false, Bool.false_or]
      cases decide (1 ≤ a ∧ a ≤ 1000000000000000000) <;> cases decide (1 ≤ b ∧ b ≤ 1000000000000000000) <;> simp
  unfold spec_PoolOK.f poolB
  by_cases h1 : a = 0
  · simp only [if_pos h1, beq_iff_eq.2 h1, Bool.true_and]
    by_cases h2 : b = 0
    · simp only [if_pos h2, beq_iff_eq.2 h2, Bool.true_and]; exact key _
    · simp only [if_neg h2, beq_eq_false_iff_ne.2 h2, Bool.false_and]; exact key _
  · simp only [if_neg h1, beq_eq_false_iff_ne.2 h1, Bool.false_and]; exact key _
theorem three {α : Type} (l : List α) (h : l.length = 3) : ∃ x y z, l = [x, y, z] := by
  match l, h with
  | [x, y, z], _ => exact ⟨x, y, z, rfl⟩
theorem poolR_ne (v : ByteArray) (l : List ByteArray) (h : readV v = some l) (hl : l.length ≠ 3) : poolR v = (0, 0, 0) := by
  unfold poolR
  rw [h]
  match l with
  | [] => rfl
  | [_] => rfl
  | [_, _] => rfl
  | [_, _, _] => exact absurd rfl hl
  | _ :: _ :: _ :: _ :: _ => rfl
theorem specFind_ev (l : List IP) (hl : l.length ≤ 1048576) (hv : ∀ x ∈ l, x.f1.size ≤ 1048576) : Ev (fun k => spec_l10Find.f k l) (poolR (getV l (⟨#[112]⟩ : ByteArray)).1) := by
  have hsz := getV_size l (⟨#[112]⟩ : ByteArray) 1048576 hv
  unfold spec_l10Find.f
  refine Ev.bind (specGet_ev l _ hl) ?_
  have hn := getV_none l (⟨#[112]⟩ : ByteArray)
  generalize hg : getV l (⟨#[112]⟩ : ByteArray) = g at *
  obtain ⟨v, ok⟩ := g
  simp only at hsz hn ⊢
  obtain ⟨x, hx⟩ := l02Read_ev v (by omega)
  refine Ev.bind hx ?_
  have hbad : ∀ x4, Ev (fun k => spec_l10Find.j0 k x4 true) (0, 0, 0) := fun x4 => Ev.step (fun k => by rw [spec_l10Find.j0, if_pos rfl]) (Ev.now _)
  cases hr : readV v with
  | none =>
    have e : poolR v = (0, 0, 0) := by unfold poolR; rw [hr]
    rw [e]
    simp only [readR, Bool.false_eq_true, if_false]
    cases ok <;> exact hbad _
  | some fs =>
    obtain ⟨_, _, hfs⟩ := readV_of hr
    simp only [readR, List.nil_append, if_true]
    cases ok with
    | false =>
      rw [hn rfl, readV_empty] at hr
      cases hr
    | true =>
      simp only [if_true]
      by_cases h3 : fs.length = 3
      · obtain ⟨a, b, c, rfl⟩ := three fs h3
        have ha := hfs a (by simp)
        have hb := hfs b (by simp)
        have hc := hfs c (by simp)
        have L3 : ((([a, b, c] : List ByteArray).length : Nat) : Int) = 3 := rfl
        have e : (((([a, b, c] : List ByteArray).length : Nat) : Int) != 3) = false := rfl
        rw [e]
        have d0 : rdOf ByteArray.empty [a, b, c] 0 = a := rfl
        have d1 : rdOf ByteArray.empty [a, b, c] 1 = b := rfl
        have d2 : rdOf ByteArray.empty [a, b, c] 2 = c := rfl
        refine Ev.step (f := fun k => (spec_l02Of.f k a).bind fun t1 => (spec_l02Of.f k b).bind fun t2 => (spec_l02Of.f k c).bind fun t3 => (spec_PoolOK.f k t1 t2 t3).bind fun t => if t = true then some (t1, t2, t3) else some (0, 0, 0)) (fun k => by
          rw [spec_l10Find.j0, if_neg (by decide), L3, d0, d1, d2, if_pos (show (0 : Int) < 3 by decide)]
          simp only [if_pos (show (1 : Int) < 3 by decide), if_pos (show (2 : Int) < 3 by decide)]) ?_
        refine Ev.bind (l02Of_ev a (by omega)) (Ev.bind (l02Of_ev b (by omega)) (Ev.bind (l02Of_ev c (by omega)) (Ev.bind (specPoolOK_ev _ _ _) ?_)))
        have e2 : poolR v = if poolB (amtV a) (amtV b) (amtV c) = true then (amtV a, amtV b, amtV c) else (0, 0, 0) := by unfold poolR; rw [hr]
        rw [e2]
        cases poolB (amtV a) (amtV b) (amtV c) <;> exact Ev.now _
      · have e : (((fs.length : Nat) : Int) != 3) = true := by rw [bne_iff_ne]; omega
        rw [e, poolR_ne v fs hr h3]
        exact hbad _
theorem poolValue_ev (a b c : Int) (ha : 0 ≤ a ∧ a ≤ 1000000000000000000) (hb : 0 ≤ b ∧ b ≤ 1000000000000000000) (hc : 0 ≤ c ∧ c ≤ 1000000000000000000) : Ev (fun k => impl_Pool_value.f k a b c) (fieldsV [digV a.toNat, digV b.toNat, digV c.toNat]) := by
  unfold impl_Pool_value.f
  rw [amountText_eq a (by omega) (by omega), amountText_eq b (by omega) (by omega), amountText_eq c (by omega) (by omega)]
  simp only [Option.bind_some]
  have s1 := digV_size a.toNat (by omega)
  have s2 := digV_size b.toNat (by omega)
  have s3 := digV_size c.toNat (by omega)
  refine Ev.bind (fields_ev _ (by simp) ?_) (Ev.now _)
  intro x hx
  simp only [List.mem_cons, List.mem_nil_iff, or_false] at hx
  rcases hx with rfl | rfl | rfl <;> omega
theorem poolB_bd {a b c : Int} (h : poolB a b c = true) : (0 ≤ a ∧ a ≤ 1000000000000000000) ∧ (0 ≤ b ∧ b ≤ 1000000000000000000) ∧ (0 ≤ c ∧ c ≤ 1000000000000000000) := by
  unfold poolB someB at h
  simp only [Bool.or_eq_true, Bool.and_eq_true, beq_iff_eq, decide_eq_true_iff] at h
  omega
theorem implPoolAt_ev (l : List IP) (hl : l.length ≤ 1048576) (hv : ∀ x ∈ l, x.f1.size ≤ 1048576) : Ev (fun k => impl_poolAt.f k l) (poolR (getV l (⟨#[112]⟩ : ByteArray)).1) := by
  have hsz := getV_size l (⟨#[112]⟩ : ByteArray) 1048576 hv
  unfold impl_poolAt.f
  refine Ev.bind (implGet_ev l _ hl) ?_
  generalize hg : getV l (⟨#[112]⟩ : ByteArray) = g at *
  obtain ⟨v, ok⟩ := g
  simp only at hsz ⊢
  obtain ⟨x, hx⟩ := readFields_ev v (by omega)
  refine Ev.bind hx ?_
  have hbad : ∀ x4, Ev (fun k => impl_poolAt.j0 k v x4 true) (0, 0, 0) := fun x4 => Ev.step (fun k => by rw [impl_poolAt.j0, if_pos rfl]) (Ev.now _)
  cases hr : readV v with
  | none =>
    have e : poolR v = (0, 0, 0) := by unfold poolR; rw [hr]
    rw [e]
    simp only [readR, Bool.false_eq_true, if_false]
    exact hbad _
  | some fs =>
    obtain ⟨hv1, _, hfs⟩ := readV_of hr
    simp only [readR, List.nil_append, if_true]
    by_cases h3 : fs.length = 3
    · obtain ⟨a, b, c, rfl⟩ := three fs h3
      have ha := hfs a (by simp)
      have hb := hfs b (by simp)
      have hc := hfs c (by simp)
      have L3 : ((([a, b, c] : List ByteArray).length : Nat) : Int) = 3 := rfl
      have e : (((([a, b, c] : List ByteArray).length : Nat) : Int) != 3) = false := rfl
      rw [e]
      obtain ⟨b1, e1⟩ := readAmount_fst a (by omega)
      obtain ⟨b2, e2⟩ := readAmount_fst b (by omega)
      obtain ⟨b3, e3⟩ := readAmount_fst c (by omega)
      have e4 : poolR v = if poolB (amtV a) (amtV b) (amtV c) = true then (amtV a, amtV b, amtV c) else (0, 0, 0) := by unfold poolR; rw [hr]
      have d0 : rdOf ByteArray.empty [a, b, c] 0 = a := rfl
      have d1 : rdOf ByteArray.empty [a, b, c] 1 = b := rfl
      have d2 : rdOf ByteArray.empty [a, b, c] 2 = c := rfl
      refine Ev.step (f := fun k => if poolB (max0 (amtV a)) (max0 (amtV b)) (max0 (amtV c)) = true then ((impl_Pool_value.f k (max0 (amtV a)) (max0 (amtV b)) (max0 (amtV c))).bind fun t => if t.toList = v.toList then some (max0 (amtV a), max0 (amtV b), max0 (amtV c)) else some (0, 0, 0)) else some (0, 0, 0)) (fun k => ?_) ?_
      · rw [impl_poolAt.j0, if_neg (by decide), L3, d0, d1, d2, e1, e2, e3, if_pos (show (0 : Int) < 3 by decide)]
        simp only [Option.bind_some, implPoolOK_eq, if_pos (show (1 : Int) < 3 by decide), if_pos (show (2 : Int) < 3 by decide)]
      · rw [e4]
        by_cases hp : poolB (max0 (amtV a)) (max0 (amtV b)) (max0 (amtV c)) = true
        · simp only [if_pos hp]
          obtain ⟨q1, q2, q3⟩ := poolB_bd hp
          refine Ev.bind (poolValue_ev _ _ _ q1 q2 q3) ?_
          by_cases hval : 0 ≤ amtV a ∧ 0 ≤ amtV b ∧ 0 ≤ amtV c
          · have m1 : max0 (amtV a) = amtV a := if_pos hval.1
            have m2 : max0 (amtV b) = amtV b := if_pos hval.2.1
            have m3 : max0 (amtV c) = amtV c := if_pos hval.2.2
            rw [m1, m2, m3] at hp ⊢
            rw [← (amtV_eq hval.1).1, ← (amtV_eq hval.2.1).1, ← (amtV_eq hval.2.2).1, ← hv1]
            simp only [if_pos hp, if_true]
            exact Ev.now _
          · have hz : max0 (amtV a) = 0 ∧ max0 (amtV b) = 0 ∧ max0 (amtV c) = 0 := by
              have l1 := amtV_low a
              have l2 := amtV_low b
              have l3 := amtV_low c
              unfold poolB someB max0 at hp
              unfold max0
              simp only [Bool.or_eq_true, Bool.and_eq_true, beq_iff_eq, decide_eq_true_iff] at hp
              repeat' split at hp
              all_goals repeat' split
              all_goals omega
            have hp2 : ¬ poolB (amtV a) (amtV b) (amtV c) = true := fun h => hval ⟨(poolB_bd h).1.1, (poolB_bd h).2.1.1, (poolB_bd h).2.2.1⟩
            rw [hz.1, hz.2.1, hz.2.2, if_neg hp2]
            split <;> exact Ev.now _
        · simp only [if_neg hp]
          have hp2 : ¬ poolB (amtV a) (amtV b) (amtV c) = true := fun h => by
            obtain ⟨q1, q2, q3⟩ := poolB_bd h
            apply hp
            have m1 : max0 (amtV a) = amtV a := if_pos q1.1
            have m2 : max0 (amtV b) = amtV b := if_pos q2.1
            have m3 : max0 (amtV c) = amtV c := if_pos q3.1
            rw [m1, m2, m3]
            exact h
          rw [if_neg hp2]
          exact Ev.now _
    · have e : (((fs.length : Nat) : Int) != 3) = true := by rw [bne_iff_ne]; omega
      rw [e, poolR_ne v fs hr h3]
      exact hbad _
end Go.Proofs.YtabmfhnhmoiljaaGreatDoor.U

/- Marks: what the laws write into rows to see whether memory is shared. -/
namespace Go.Proofs.YtabmfhnhmoiljaaGreatDoor.U
open Go Go.RowKit Go.Proofs.YtabmfhnhmoiljaaGreatDoor.Q Go.Proofs.YtabmfhnhmoiljaaGreatDoorW.PrintWords Go.Proofs.YtabmfhnhmoiljaaGreatDoorW.PrintLast Go.Proofs.YtabmfhnhmoiljaaGreatDoorW.PrintMore
set_option linter.unusedVariables false
set_option linter.unusedSimpArgs false

def markV (n : Nat) : ByteArray := if n = 0 then (⟨#[109, 48]⟩ : ByteArray) else (⟨#[109]⟩ : ByteArray) ++ digV n
theorem digV_big {v : Nat} (h : ¬ v < 10) : digV v = digV (v / 10) ++ (⟨#[UInt8.ofNat (48 + v % 10)]⟩ : ByteArray) := by
  apply ByteArray.ext
  unfold digV
  rw [dec_big h]
  simp
theorem mark_go (v : Nat) : ∀ (acc : ByteArray), 1 ≤ v → v ≤ 1000000000000000000 → acc.size + v ≤ 9000000000000000000 → Ev (fun k => laws_markText.l0 k (v : Int) acc) ((⟨#[109]⟩ : ByteArray) ++ (digV v ++ acc)) := by
  induction v using Nat.strongRecOn with
  | _ v ih =>
    intro acc h1 h2 h3
    have e1 : wrap64 (Int.tdiv (v : Int) 10) = ((v / 10 : Nat) : Int) := by rw [tdiv_nn (by omega), wid (by omega) (by omega)]; omega
    have e2 : Int.tmod (v : Int) 10 = ((v % 10 : Nat) : Int) := by rw [tmod_nn (by omega)]; omega
    have sz : (⟨#[UInt8.ofNat (48 + v % 10)]⟩ : ByteArray).size = 1 := rfl
    refine Ev.step (f := fun k => laws_markText.l0 k ((v / 10 : Nat) : Int) ((⟨#[UInt8.ofNat (48 + v % 10)]⟩ : ByteArray) ++ acc)) (fun k => ?_) ?_
    · rw [laws_markText.l0, if_pos (by omega), e1, e2]
      simp only [Option.bind_some, one_digit (v % 10) (by omega)]
      rw [if_pos (by rw [sz]; omega)]
    · have hacc : ((⟨#[UInt8.ofNat (48 + v % 10)]⟩ : ByteArray) ++ acc).size = 1 + acc.size := by rw [ByteArray.size_append, sz]
      by_cases hv : v < 10
      · have e : v / 10 = 0 := by omega
        rw [e]
        refine Ev.step (fun k => ?_) (Ev.now _)
        rw [show ((0 : Nat) : Int) = 0 from rfl, laws_markText.l0, if_neg (by decide), if_pos (by rw [hacc]; omega)]
        have : digV v = (⟨#[UInt8.ofNat (48 + v % 10)]⟩ : ByteArray) := by
          apply ByteArray.ext
          unfold digV
          rw [Lib.decDigits_one hv, Nat.mod_eq_of_lt hv]
        rw [this]
      · have := ih (v / 10) (by omega) ((⟨#[UInt8.ofNat (48 + v % 10)]⟩ : ByteArray) ++ acc) (by omega) (by omega) (by rw [hacc]; omega)
        rw [digV_big hv]
        simp only [ByteArray.append_assoc] at this ⊢
        exact this
theorem markText_ev (n : Nat) (h : n ≤ 1000000000000000000) : Ev (fun k => laws_markText.f k (n : Int)) (markV n) := by
  unfold laws_markText.f markV
  by_cases h0 : n = 0
  · subst h0
    simp only [if_pos (show ((0 : Nat) : Int) ≤ 0 by decide), if_true]
    exact Ev.now _
  · simp only [if_neg (show ¬ (n : Int) ≤ 0 by omega), if_neg h0]
    have e := mark_go n (⟨#[]⟩ : ByteArray) (by omega) h (by show 0 + n ≤ _; omega)
    have z : digV n ++ (⟨#[]⟩ : ByteArray) = digV n := by apply ByteArray.ext; simp
    rw [z] at e
    exact e
/-- The pairs as they are marked, from a number on. -/
def markP (n i : Nat) : IP := ⟨markV (n + 2 * i), markV (n + 2 * i + 1)⟩
def markPs (n : Nat) (l : List IP) : List IP := (List.range l.length).map fun i => markP n i
theorem markPairS_go (N : Nat) (l : List IP) (n : Nat) (hl : l.length = N) (hN : N ≤ 1048576) (hn : n ≤ 1000000) : ∀ (d i : Nat) (o : List IP), i + d = N → o.length = N → (∀ j, j < i → o[j]? = some (markP n j)) →
    Ev (fun k => laws_markPairS.l0 k o ((n + 2 * i : Nat) : Int) (i : Int)) (((n + 2 * N : Nat) : Int), markPs n l) := by
  intro d
  induction d with
  | zero =>
    intro i o hi ho hj
    have e : o = markPs n l := by
      apply List.ext_getElem?
      intro j
      by_cases h : j < i
      · rw [hj j h]; unfold markPs; rw [List.getElem?_map, List.getElem?_range (by omega)]; rfl
      · rw [List.getElem?_eq_none (by omega), List.getElem?_eq_none (by unfold markPs; simp; omega)]
    refine Ev.step (fun k => ?_) (Ev.now _)
    rw [laws_markPairS.l0, if_neg (by omega), e, show i = N by omega]
  | succ d ih =>
    intro i o hi ho hj
    have hlt : i < o.length := by omega
    refine Ev.step (f := fun k => (laws_markText.f k ((n + 2 * i : Nat) : Int)).bind fun t => (laws_markText.f k ((n + 2 * i + 1 : Nat) : Int)).bind fun u => laws_markPairS.l0 k (o.set i ⟨t, u⟩) ((n + 2 * (i + 1) : Nat) : Int) ((i + 1 : Nat) : Int)) (fun k => ?_) ?_
    · have w1 : wrap64 (((n + 2 * i : Nat) : Int) + 1) = ((n + 2 * i + 1 : Nat) : Int) := by rw [wid (by omega) (by omega)]; omega
      have w2 : wrap64 (((n + 2 * i + 1 : Nat) : Int) + 1) = ((n + 2 * (i + 1) : Nat) : Int) := by rw [wid (by omega) (by omega)]; omega
      have w3 : wrap64 ((i : Int) + 1) = ((i + 1 : Nat) : Int) := by rw [wid (by omega) (by omega)]; omega
      rw [laws_markPairS.l0, if_pos (by omega)]
      congr 1
      funext t
      rw [if_pos (by omega), w1, w2, w3]
      simp only [Option.bind_some]
      congr 1
      funext u
      rw [Int.toNat_natCast, List.set_set]
      have : (rd_T51 (o.set i (⟨t, (rd_T51 o (i : Int)).f1⟩ : IP)) (i : Int)).f0 = t := by
        rw [rdI _ i (by rw [List.length_set]; exact hlt), List.getElem_set_self]
      rw [this]
    · refine Ev.bind (markText_ev _ (by omega)) (Ev.bind (markText_ev _ (by omega)) ?_)
      refine ih (i + 1) _ (by omega) (by rw [List.length_set]; exact ho) (fun j hji => ?_)
      rw [List.getElem?_set]
      by_cases h : i = j
      · subst h
        rw [if_pos rfl, if_pos hlt]
        rfl
      · rw [if_neg h]
        exact hj j (by omega)
theorem markPairS_ev (l : List IP) (n : Nat) (hN : l.length ≤ 1048576) (hn : n ≤ 1000000) : Ev (fun k => laws_markPairS.f k l (n : Int)) (((n + 2 * l.length : Nat) : Int), markPs n l) := by
  unfold laws_markPairS.f
  exact markPairS_go l.length l n rfl hN hn l.length 0 l (by omega) rfl (fun j h => by omega)
end Go.Proofs.YtabmfhnhmoiljaaGreatDoor.U

/- Names of accounts and denominations: as the reference and as the program read them. -/
namespace Go.Proofs.YtabmfhnhmoiljaaGreatDoor.U
open Go Go.RowKit Go.Proofs.YtabmfhnhmoiljaaGreatDoor.Q Go.Proofs.YtabmfhnhmoiljaaGreatDoorW.PrintWords Go.Proofs.YtabmfhnhmoiljaaGreatDoorW.PrintLast Go.Proofs.YtabmfhnhmoiljaaGreatDoorW.PrintMore
set_option linter.unusedVariables false
set_option linter.unusedSimpArgs false

def Letter (c : Int) : Prop := (97 ≤ c ∧ c ≤ 122) ∨ (65 ≤ c ∧ c ≤ 90) ∨ c = 95
def Digit (c : Int) : Prop := 48 ≤ c ∧ c ≤ 57
def IsName (x : ByteArray) : Prop := 1 ≤ x.size ∧ x.size ≤ 40 ∧ ∀ j : Int, 0 ≤ j → j < (x.size : Int) → Letter (bt x j) ∨ (j ≠ 0 ∧ Digit (bt x j))
instance (c : Int) : Decidable (Letter c) := by unfold Letter; infer_instance
instance (c : Int) : Decidable (Digit c) := by unfold Digit; infer_instance

theorem nameok_l0 (x : ByteArray) (hn : (x.size : Int) ≤ 140737488351232) (d : Nat) : ∀ i : Int, 0 ≤ i → i ≤ (x.size : Int) → (x.size : Int) - i = d →
    ∃ b, Ev (fun k => impl_NameOK.l0 k x (x.size : Int) i) b ∧ (b = true ↔ (∀ j : Int, i ≤ j → j < (x.size : Int) → Letter (bt x j) ∨ (j ≠ 0 ∧ Digit (bt x j))) ∧ 1 ≤ x.size ∧ x.size ≤ 40) := by
  induction d with
  | zero =>
    intro i h0 h1 hd
    refine ⟨decide (1 ≤ (x.size : Int) ∧ (x.size : Int) ≤ 40), Ev.step (fun k => ?_) (Ev.now _), ?_⟩
    · rw [impl_NameOK.l0, if_neg (by omega)]
      unfold impl_within.f
      by_cases h : (x.size : Int) ≥ 1
      · rw [if_pos h]
        simp only [Option.bind_some]
        congr 1
        exact decide_eq_decide.2 ⟨fun y => ⟨h, y⟩, fun y => y.2⟩
      · rw [if_neg h, decide_eq_false (fun y => h y.1)]
        rfl
    · rw [decide_eq_true_iff]
      exact ⟨fun h => ⟨fun j hj hj' => by omega, by omega, by omega⟩, fun h => by omega⟩
  | succ d ih =>
    intro i h0 h1 hd
    have hlt : i < (x.size : Int) := by omega
    by_cases hg : Letter (bt x i) ∨ (i ≠ 0 ∧ Digit (bt x i))
    · obtain ⟨b, hb, hb'⟩ := ih (i + 1) (by omega) (by omega) (by omega)
      refine ⟨b, Ev.step (fun k => ?_) hb, hb'.trans ⟨fun h => ⟨fun j hj hj' => ?_, h.2⟩, fun h => ⟨fun j hj hj' => h.1 j (by omega) hj', h.2⟩⟩⟩
      · rw [impl_NameOK.l0, if_pos hlt, if_pos h0, if_pos hlt, wid (n := i + 1) (by omega) (by omega)]
        unfold Letter Digit at hg
        generalize bt x i = c at *
        repeat' split
        all_goals first | rfl | (exfalso; omega)
      · by_cases e : j = i
        · subst e; exact hg
        · exact h.1 j (by omega) hj'
    · refine ⟨false, Ev.step (fun k => ?_) (Ev.now _), ⟨(fun h => by cases h), fun h => absurd (h.1 i (Int.le_refl _) hlt) hg⟩⟩
      rw [impl_NameOK.l0, if_pos hlt, if_pos h0, if_pos hlt]
      unfold Letter Digit at hg
      generalize bt x i = c at *
      repeat' split
      all_goals first | rfl | (exfalso; omega)

theorem NameOK_ev (x : ByteArray) (hn : (x.size : Int) ≤ 140737488351232) : ∃ b, Ev (fun k => impl_NameOK.f k x) b ∧ (b = true ↔ IsName x) := by
  obtain ⟨b, hb, hb'⟩ := nameok_l0 x hn x.size 0 (by omega) (by omega) (by omega)
  exact ⟨b, hb, hb'.trans ⟨fun h => ⟨h.2.1, h.2.2, h.1⟩, fun h => ⟨h.2.2, h.1, h.2.1⟩⟩⟩

theorem bool_of_iff {b : Bool} {p : Prop} [Decidable p] (h : b = true ↔ p) : b = decide p := by rw [Bool.eq_iff_iff, h, decide_eq_true_iff]
theorem letter_eq (c : Int) : spec_l00Letter.f c = some (decide (Letter c)) := by
  unfold spec_l00Letter.f
  repeat' split
  all_goals
    refine congrArg some (bool_of_iff ?_)
    unfold Letter
    first
    | exact ⟨fun _ => by omega, fun _ => rfl⟩
    | (rw [beq_iff_eq]; omega)
theorem digit_eq (c : Int) : spec_l00Digit.f c = some (decide (Digit c)) := by
  unfold spec_l00Digit.f
  split
  · refine congrArg some (bool_of_iff ?_)
    unfold Digit
    rw [decide_eq_true_iff]
    omega
  · refine congrArg some (bool_of_iff ?_)
    unfold Digit
    exact ⟨(fun h => by cases h), fun h => by omega⟩

theorem word_l0 (x : ByteArray) (hn : (x.size : Int) ≤ 40) (d : Nat) : ∀ i : Int, 1 ≤ i → i ≤ (x.size : Int) → (x.size : Int) - i = d →
    ∃ b, Ev (fun k => spec_l00Word.l0 k x i) b ∧ (b = true ↔ ∀ j : Int, i ≤ j → j < (x.size : Int) → Letter (bt x j) ∨ (j ≠ 0 ∧ Digit (bt x j))) := by
  induction d with
  | zero =>
    intro i h0 h1 hd
    exact ⟨true, Ev.step (fun k => by rw [spec_l00Word.l0, if_neg (by omega)]) (Ev.now _), ⟨fun _ j hj hj' => by omega, fun _ => rfl⟩⟩
  | succ d ih =>
    intro i h0 h1 hd
    have hlt : i < (x.size : Int) := by omega
    have hstep : ∀ k, spec_l00Word.l0 (k + 1) x i = if decide (Letter (bt x i)) = true then spec_l00Word.l0 k x (i + 1) else if decide (Digit (bt x i)) = true then spec_l00Word.l0 k x (i + 1) else some false := by
      intro k
      rw [spec_l00Word.l0, if_pos hlt, if_pos (by omega), letter_eq, digit_eq, wid (n := i + 1) (by omega) (by omega)]
      rfl
    by_cases hg : Letter (bt x i) ∨ Digit (bt x i)
    · obtain ⟨b, hb, hb'⟩ := ih (i + 1) (by omega) (by omega) (by omega)
      refine ⟨b, Ev.step (fun k => ?_) hb, hb'.trans ⟨fun h j hj hj' => ?_, fun h j hj hj' => h j (by omega) hj'⟩⟩
      · rw [hstep]
        rcases hg with hg | hg
        · rw [if_pos (decide_eq_true hg)]
        · rw [if_pos (decide_eq_true hg)]
          split <;> rfl
      · by_cases e : j = i
        · subst e; exact hg.imp id (fun y => ⟨by omega, y⟩)
        · exact h j (by omega) hj'
    · refine ⟨false, Ev.step (fun k => ?_) (Ev.now _), ⟨(fun h => by cases h), fun h => absurd ((h i (Int.le_refl _) hlt).imp id (fun y => y.2)) hg⟩⟩
      rw [hstep, if_neg (by rw [decide_eq_true_iff]; exact fun y => hg (.inl y)), if_neg (by rw [decide_eq_true_iff]; exact fun y => hg (.inr y))]

theorem Word_ev (x : ByteArray) : ∃ b, Ev (fun k => spec_l00Word.f k x) b ∧ (b = true ↔ IsName x) := by
  unfold spec_l00Word.f
  have hf : Ev (fun k => spec_l00Word.j0 k x true) false := Ev.step (fun k => by rw [spec_l00Word.j0, if_pos rfl]) (Ev.now _)
  by_cases h1 : (x.size : Int) < 1
  · simp only [if_pos h1]
    exact ⟨false, hf, ⟨(fun h => by cases h), fun h => by have := h.1; omega⟩⟩
  simp only [if_neg h1]
  by_cases h2 : (x.size : Int) > 40
  · simp only [if_pos h2]
    exact ⟨false, hf, ⟨(fun h => by cases h), fun h => by have := h.2.1; omega⟩⟩
  simp only [if_neg h2, if_pos (show (0 : Int) < (x.size : Int) by omega), letter_eq, Option.bind_some]
  by_cases h3 : Letter (bt x 0)
  · obtain ⟨b, hb, hb'⟩ := word_l0 x (by omega) (x.size - 1) 1 (by omega) (by omega) (by omega)
    refine ⟨b, ?_, hb'.trans ⟨fun h => ⟨by omega, by omega, fun j hj hj' => ?_⟩, fun h j hj hj' => h.2.2 j (by omega) hj'⟩⟩
    · rw [decide_eq_true h3]
      exact Ev.step (fun k => by rw [Bool.not_true, spec_l00Word.j0, if_neg (by decide)]) hb
    · by_cases e : j = 0
      · subst e; exact .inl h3
      · exact h j (by omega) hj'
  · rw [decide_eq_false h3]
    refine ⟨false, hf, ⟨(fun h => by cases h), fun h => ?_⟩⟩
    rcases h.2.2 0 (by omega) (by omega) with h | h
    · exact absurd h h3
    · exact absurd rfl h.1

noncomputable instance (x : ByteArray) : Decidable (IsName x) := Classical.propDecidable _
/-- A name of at most twelve bytes. -/
noncomputable def nameB (x : ByteArray) : Bool := decide (IsName x ∧ x.size ≤ 12)
noncomputable def peopleB (x : ByteArray) : Bool := nameB x && !impl_isPeople.bad x

theorem DenomOK_ev (x : ByteArray) (hn : (x.size : Int) ≤ 140737488351232) : Ev (fun k => impl_DenomOK.f k x) (nameB x) := by
  obtain ⟨b, hb, hb'⟩ := NameOK_ev x hn
  unfold impl_DenomOK.f
  refine Ev.bind hb ?_
  unfold nameB
  by_cases h : IsName x
  · simp only [hb'.2 h, if_true]
    rw [show decide ((x.size : Int) ≤ 12) = decide (IsName x ∧ x.size ≤ 12) from by rw [Bool.eq_iff_iff, decide_eq_true_iff, decide_eq_true_iff]; exact ⟨fun y => ⟨h, by omega⟩, fun y => by have := y.2; omega⟩]
    exact Ev.now _
  · obtain rfl : b = false := by cases b; rfl; exact absurd (hb'.1 rfl) h
    rw [decide_eq_false (fun y : IsName x ∧ x.size ≤ 12 => h y.1)]
    exact Ev.now _

theorem l05Name_ev (x : ByteArray) : Ev (fun k => spec_l05Name.f k x) (nameB x) := by
  obtain ⟨b, hb, hb'⟩ := Word_ev x
  unfold spec_l05Name.f nameB
  by_cases h12 : (x.size : Int) ≤ 12
  · simp only [if_pos h12]
    have : Ev (fun k => spec_NameOK.f k x) b := by unfold spec_NameOK.f; exact Ev.bind hb (Ev.now _)
    refine Ev.bind this ?_
    rw [show b = decide (IsName x ∧ x.size ≤ 12) from by rw [Bool.eq_iff_iff, decide_eq_true_iff, hb']; exact ⟨fun y => ⟨y, by omega⟩, fun y => y.1⟩]
    exact Ev.now _
  · simp only [if_neg h12]
    rw [decide_eq_false (fun y : IsName x ∧ x.size ≤ 12 => h12 (by have := y.2; omega))]
    exact Ev.now _

theorem l08Name_ev (x : ByteArray) : Ev (fun k => spec_l08Name.f k x) (peopleB x) := by
  unfold spec_l08Name.f
  refine Ev.bind (l05Name_ev x) ?_
  unfold peopleB impl_isPeople.bad
  cases nameB x with
  | false => exact Ev.now _
  | true =>
    simp only [if_true, Bool.true_and]
    by_cases h1 : x.toList = ([101, 115, 99, 114, 111, 119] : List UInt8)
    · simp only [h1, if_true]; exact Ev.now _
    · simp only [if_neg h1]
      by_cases h2 : x.toList = ([111, 114, 100, 101, 114, 115] : List UInt8)
      · simp only [h2, if_true]; exact Ev.now _
      · simp only [if_neg h2]
        by_cases h3 : x.toList = ([116, 97, 107, 101, 115] : List UInt8)
        · simp only [h3, if_true]; exact Ev.now _
        · simp only [if_neg h3, beq_eq_false_iff_ne.2 h1, beq_eq_false_iff_ne.2 h2, beq_eq_false_iff_ne.2 h3, Bool.false_or]
          exact Ev.now _

theorem areNames_go (l : List ByteArray) (hl : l.length < 1000000) (hn : ∀ x ∈ l, (x.size : Int) ≤ 140737488351232) : ∀ (d : Nat) (i : Nat), i + d = l.length →
    Ev (fun k => impl_areNames.l0 k l (l.length : Int) (i : Int)) ((l.drop i).all nameB) := by
  intro d
  induction d with
  | zero =>
    intro i hi
    refine Ev.step (fun k => ?_) (Ev.now _)
    rw [impl_areNames.l0, if_neg (by omega), List.drop_of_length_le (by omega)]
    rfl
  | succ d ih =>
    intro i hi
    have hlt : i < l.length := by omega
    have hx : rdOf ByteArray.empty l (i : Int) = l[i] := by simp [rdOf, List.getD_eq_getElem?_getD, List.getElem?_eq_getElem hlt]
    have h1 := DenomOK_ev l[i] (hn _ (List.getElem_mem hlt))
    have h2 := ih (i + 1) (by omega)
    rw [List.drop_eq_getElem_cons hlt, List.all_cons]
    have hstep : ∀ k, impl_areNames.l0 (k + 1) l (l.length : Int) (i : Int) = (impl_DenomOK.f k l[i]).bind fun t => if t = true then impl_areNames.l0 k l (l.length : Int) ((i + 1 : Nat) : Int) else some false := by
      intro k
      rw [impl_areNames.l0, if_pos (by omega), if_pos (by omega), if_pos (by omega), hx, wid (n := (i : Int) + 1) (by omega) (by omega)]
      rfl
    refine Ev.step hstep (Ev.bind h1 ?_)
    cases nameB l[i] with
    | false => exact Ev.now _
    | true =>
      simp only [if_true, Bool.true_and]
      exact h2
theorem areNames_ev (l : List ByteArray) (hl : l.length < 1000000) (hn : ∀ x ∈ l, (x.size : Int) ≤ 140737488351232) : Ev (fun k => impl_areNames.f k l) (l.all nameB) := by
  have := areNames_go l hl hn l.length 0 (by omega)
  unfold impl_areNames.f
  simpa using this
theorem isPeople_ev (l : List ByteArray) (hl : l.length < 1000000) (hn : ∀ x ∈ l, (x.size : Int) ≤ 140737488351232) : Ev (fun k => impl_isPeople.f k l) (l.all peopleB) := by
  unfold impl_isPeople.f
  refine Ev.bind (areNames_ev l hl hn) ?_
  have e : l.all peopleB = (l.all nameB && !l.any impl_isPeople.bad) := by
    clear hl hn
    induction l with
    | nil => rfl
    | cons a l ih =>
      simp only [List.all_cons, List.any_cons, ih, peopleB]
      cases nameB a <;> cases impl_isPeople.bad a <;> cases l.all nameB <;> cases l.any impl_isPeople.bad <;> rfl
  rw [e]
  cases l.all nameB with
  | false => exact Ev.now _
  | true => simp only [if_true, Bool.true_and]; exact Ev.now _

end Go.Proofs.YtabmfhnhmoiljaaGreatDoor.U

/- What is put into a store, dropped from it, and moved in it: the program and the reference take the same steps. -/
namespace Go.Proofs.YtabmfhnhmoiljaaGreatDoor.U
open Go Go.RowKit Go.Proofs.YtabmfhnhmoiljaaGreatDoor.Q Go.Proofs.YtabmfhnhmoiljaaGreatDoorW.PrintWords Go.Proofs.YtabmfhnhmoiljaaGreatDoorW.PrintLast Go.Proofs.YtabmfhnhmoiljaaGreatDoorW.PrintMore
set_option linter.unusedVariables false
set_option linter.unusedSimpArgs false

/-- Stores as they come up: no more than 400 pairs, each with a key. -/
def Rt (l : List IP) : Prop := l.length ≤ 400 ∧ ∀ x ∈ l, 1 ≤ x.f0.size ∧ x.f0.size ≤ 1000 ∧ x.f1.size ≤ 1000
def putV (l : List IP) (key v : ByteArray) : List IP × Int :=
  if hitB l key = true then (l.set (atOf l key) ⟨(rd_T51 l (atOf l key : Int)).f0, v⟩, 0) else if l.length = 400 then (l, 7) else (l.insertIdx (atOf l key) ⟨key, v⟩, 0)
def dropV (l : List IP) (key : ByteArray) : List IP × Int := if hitB l key = true then (l.eraseIdx (atOf l key), 0) else (l, 5)
theorem hit_lt {l : List IP} {key : ByteArray} (h : hitB l key = true) : atOf l key < l.length := by
  unfold hitB at h
  rw [Bool.and_eq_true, decide_eq_true_iff] at h
  exact h.1
theorem implPut_ev (l : List IP) (key v : ByteArray) (hl : l.length ≤ 1000000) : Ev (fun k => impl_put.f k l key v) (putV l key v) := by
  unfold impl_put.f putV
  simp only [if_pos hl]
  refine Ev.bind (implAt_ev l key (by omega)) ?_
  have hle := atOf_le l key
  simp only [if_pos (show (0 : Int) ≤ (atOf l key : Int) by omega), if_pos (show (atOf l key : Int) ≤ (l.length : Int) by omega), Int.toNat_natCast]
  cases h : hitB l key with
  | true =>
    have := hit_lt h
    simp only [if_true, if_pos (show (atOf l key : Int) < (l.length : Int) by omega)]
    exact Ev.now _
  | false =>
    simp only [Bool.false_eq_true, if_false]
    by_cases h4 : l.length = 400
    · simp only [if_pos h4, if_pos (show (l.length : Int) = 400 by omega)]; exact Ev.now _
    · simp only [if_neg h4, if_neg (show ¬ (l.length : Int) = 400 by omega)]; exact Ev.now _
theorem hit_iff (l : List IP) (key : ByteArray) : (hitB l key = true) ↔ ((atOf l key : Int) < (l.length : Int) ∧ ((rd_T51 l (atOf l key : Int)).f0).toList = key.toList) := by
  unfold hitB
  rw [Bool.and_eq_true, decide_eq_true_iff, beq_iff_eq]
  constructor
  · rintro ⟨h1, h2⟩; exact ⟨by omega, h2⟩
  · rintro ⟨h1, h2⟩; exact ⟨by omega, h2⟩
theorem specPut_ev (l : List IP) (key v : ByteArray) (hl : l.length ≤ 1000000) : Ev (fun k => spec_l03Put.f k l key v) (putV l key v) := by
  unfold spec_l03Put.f putV
  refine Ev.bind (specAt_ev l key (by omega)) ?_
  have hle := atOf_le l key
  simp only [if_pos hl, if_pos (show (0 : Int) ≤ (atOf l key : Int) by omega), if_pos (show (atOf l key : Int) ≤ (l.length : Int) by omega), Int.toNat_natCast]
  by_cases h : hitB l key = true
  · simp only [if_pos h, if_pos ((hit_iff l key).1 h)]; exact Ev.now _
  · simp only [if_neg h, if_neg (fun e => h ((hit_iff l key).2 e))]
    by_cases h4 : l.length = 400
    · simp only [if_pos h4, if_pos (show (l.length : Int) = 400 by omega)]; exact Ev.now _
    · simp only [if_neg h4, if_neg (show ¬ (l.length : Int) = 400 by omega)]; exact Ev.now _
theorem implDrop_ev (l : List IP) (key : ByteArray) (hl : l.length ≤ 1000000) : Ev (fun k => impl_drop.f k l key) (dropV l key) := by
  unfold impl_drop.f dropV
  simp only [if_pos hl]
  refine Ev.bind (implAt_ev l key (by omega)) ?_
  cases h : hitB l key with
  | true =>
    have := hit_lt h
    simp only [if_true, if_pos (show (0 : Int) ≤ (atOf l key : Int) by omega), if_pos (show (atOf l key : Int) < (l.length : Int) by omega), Int.toNat_natCast]
    exact Ev.now _
  | false => simp only [Bool.false_eq_true, if_false]; exact Ev.now _
theorem specDrop_ev (l : List IP) (key : ByteArray) (hl : l.length ≤ 1000000) : Ev (fun k => spec_l03Drop.f k l key) (dropV l key) := by
  unfold spec_l03Drop.f dropV
  refine Ev.bind (specAt_ev l key (by omega)) ?_
  have hle := atOf_le l key
  simp only [if_pos hl, if_pos (show (0 : Int) ≤ (atOf l key : Int) by omega), Int.toNat_natCast]
  by_cases h1 : atOf l key < l.length
  · simp only [if_pos (show (atOf l key : Int) < (l.length : Int) by omega)]
    by_cases h2 : ((rd_T51 l (atOf l key : Int)).f0).toList = key.toList
    · simp only [if_pos h2, if_pos ((hit_iff l key).2 ⟨by omega, h2⟩)]; exact Ev.now _
    · simp only [if_neg h2, if_neg (fun e => h2 ((hit_iff l key).1 e).2)]; exact Ev.now _
  · have hn : ¬ hitB l key = true := fun e => h1 (hit_lt e)
    simp only [if_neg (show ¬ (atOf l key : Int) < (l.length : Int) by omega), if_neg hn, if_pos (show (atOf l key : Int) = (l.length : Int) by omega)]; exact Ev.now _
theorem rdI' (l : List IP) (i : Nat) (h : i < l.length) : rd_T51 l (i : Int) = l[i] := by simp [rd_T51, List.getD_eq_getElem?_getD, List.getElem?_eq_getElem h]
theorem putV_rt {l : List IP} {key v : ByteArray} (h : Rt l) (h1 : 1 ≤ key.size) (h2 : key.size ≤ 1000) (h3 : v.size ≤ 1000) : Rt (putV l key v).1 := by
  unfold putV
  by_cases hh : hitB l key = true
  · rw [if_pos hh]
    have hlt := hit_lt hh
    refine ⟨by rw [List.length_set]; exact h.1, fun x hx => ?_⟩
    rcases List.mem_or_eq_of_mem_set hx with hx | rfl
    · exact h.2 x hx
    · rw [rdI' l _ hlt]
      have := h.2 _ (List.getElem_mem hlt)
      exact ⟨this.1, this.2.1, h3⟩
  · rw [if_neg hh]
    by_cases h4 : l.length = 400
    · rw [if_pos h4]; exact h
    · rw [if_neg h4]
      refine ⟨by rw [List.length_insertIdx_of_le_length (atOf_le l key)]; have := h.1; omega, fun x hx => ?_⟩
      rcases (List.mem_insertIdx (atOf_le l key)).1 hx with rfl | hx
      · exact ⟨h1, h2, h3⟩
      · exact h.2 x hx
theorem dropV_rt {l : List IP} {key : ByteArray} (h : Rt l) : Rt (dropV l key).1 := by
  unfold dropV
  by_cases hh : hitB l key = true
  · rw [if_pos hh]
    refine ⟨Nat.le_trans (by simpa using List.length_eraseIdx_le l (atOf l key)) h.1, fun x hx => h.2 x (List.mem_of_mem_eraseIdx hx)⟩
  · rw [if_neg hh]; exact h
theorem dropV_nil {l : List IP} (h : Rt l) : dropV l (⟨#[]⟩ : ByteArray) = (l, 5) := by
  unfold dropV
  rw [if_neg]
  intro hh
  have hlt := hit_lt hh
  have := (hit_iff l _).1 hh
  rw [rdI' l _ hlt] at this
  have h1 := (h.2 _ (List.getElem_mem hlt)).1
  have h2 : l[atOf l (⟨#[]⟩ : ByteArray)].f0.size = 0 := (toList_nil_iff _).1 (this.2.trans ((toList_nil_iff _).2 rfl))
  omega
/-- The amount at a key. -/
def amtAt (l : List IP) (key : ByteArray) : Int := max0 (amtV (getV l key).1)
theorem amtAt_bd (l : List IP) (key : ByteArray) : 0 ≤ amtAt l key ∧ amtAt l key ≤ 1000000000000000000 := by
  unfold amtAt max0
  by_cases h : 0 ≤ amtV (getV l key).1
  · rw [if_pos h]; exact ⟨h, (amtV_eq h).2⟩
  · rw [if_neg h]; omega
theorem amountAt_ev (l : List IP) (key : ByteArray) (h : Rt l) : Ev (fun k => impl_amountAt.f k l key) (amtAt l key) := by
  unfold impl_amountAt.f amtAt
  refine Ev.bind (implGet_ev l key (by have := h.1; omega)) ?_
  obtain ⟨b, hb⟩ := readAmount_fst (getV l key).1 (Nat.le_trans (getV_size l key 1000 (fun x hx => (h.2 x hx).2.2)) (by decide))
  rw [hb]
  exact Ev.now _
theorem amtV_nil : amtV (⟨#[]⟩ : ByteArray) = -1 := by decide
theorem l05Read_ev (l : List IP) (key : ByteArray) (h : Rt l) : Ev (fun k => spec_l05Read.f k l key) (amtAt l key) := by
  unfold spec_l05Read.f
  refine Ev.bind (specGet_ev l key (by have := h.1; omega)) ?_
  have e : ∀ n : Int, mx 0 n = max0 n := fun n => by unfold mx max0; omega
  cases hf : (getV l key).2 with
  | true =>
    simp only [if_true]
    refine Ev.bind (l02Of_ev _ (Nat.le_trans (getV_size l key 1000 (fun x hx => (h.2 x hx).2.2)) (by decide))) ?_
    rw [e]
    exact Ev.now _
  | false =>
    have : amtAt l key = 0 := by
      unfold amtAt getV at *
      by_cases hh : hitB l key = true
      · rw [if_pos hh] at hf; cases hf
      · rw [if_neg hh, amtV_nil]; rfl
    simp only [Bool.false_eq_true, if_false, this]
    exact Ev.now _
/-- So much more at a key, or fewer. -/
def addV (l : List IP) (key : ByteArray) (n : Int) : List IP × Int :=
  if amtAt l key + n < 0 then (l, 12) else if 1000000000000000000 < amtAt l key + n then (l, 13) else if amtAt l key + n = 0 then ((dropV l key).1, 0) else putV l key (digV (amtAt l key + n).toNat)
theorem isAmount_eq (n : Int) : impl_isAmount.f n = some (decide (0 ≤ n ∧ n ≤ 1000000000000000000)) := by unfold impl_isAmount.f; rw [within_eq]; rfl
theorem putAmount_ev (l : List IP) (key : ByteArray) (n : Int) (hl : l.length ≤ 1000000) (h0 : 0 ≤ n) (h1 : n ≤ 1000000000000000000) : Ev (fun k => impl_putAmount.f k l key n) (if n = 0 then ((dropV l key).1, 0) else putV l key (digV n.toNat)) := by
  unfold impl_putAmount.f
  by_cases hn : n = 0
  · simp only [if_pos hn, if_neg (show ¬ n > 0 by omega)]
    exact Ev.bind (implDrop_ev l key hl) (Ev.now _)
  · simp only [if_neg hn, if_pos (show n > 0 by omega), amountText_eq n h0 (by omega), Option.bind_some]
    exact Ev.bind (implPut_ev l key _ hl) (Ev.now _)
theorem more_ev (l : List IP) (key : ByteArray) (n : Int) (h : Rt l) (h0 : 0 ≤ n) (h1 : n ≤ 1000000000000000000) : Ev (fun k => impl_more.f k l key n) (addV l key n) := by
  unfold impl_more.f addV
  refine Ev.bind (amountAt_ev l key h) ?_
  have hb := amtAt_bd l key
  generalize amtAt l key = a at *
  rw [if_neg (by omega)]
  have hs : Ev (fun k => impl_AddAmount.f k a n) (if 1000000000000000000 < a + n then ((0, 13) : Int × Int) else (a + n, 0)) := by
    unfold impl_AddAmount.f
    simp only [isAmount_eq, Option.bind_some, decide_eq_true hb, decide_eq_true (show 0 ≤ n ∧ n ≤ 1000000000000000000 from ⟨h0, h1⟩), if_true, Bool.not_true]
    refine Ev.step (f := fun _ => some (if 1000000000000000000 < a + n then ((0, 13) : Int × Int) else (a + n, 0))) (fun k => ?_) (Ev.now _)
    rw [impl_AddAmount.j0, if_neg (by decide), wid (n := a + n) (by omega) (by omega)]
    by_cases h2 : 1000000000000000000 < a + n
    · rw [if_pos (by omega), if_pos h2]
    · rw [if_neg (by omega), if_neg h2]
  refine Ev.bind hs ?_
  by_cases h2 : 1000000000000000000 < a + n
  · simp only [if_pos h2, if_neg (show ¬ (13 : Int) = 0 by decide)]; exact Ev.now _
  · simp only [if_neg h2, if_true]
    exact putAmount_ev l key (a + n) (by have := h.1; omega) (by omega) (by omega)
theorem fewer_ev (l : List IP) (key : ByteArray) (n : Int) (h : Rt l) (h0 : 0 ≤ n) (h1 : n ≤ 1000000000000000000) : Ev (fun k => impl_fewer.f k l key n) (addV l key (-n)) := by
  unfold impl_fewer.f addV
  refine Ev.bind (amountAt_ev l key h) ?_
  have hb := amtAt_bd l key
  generalize amtAt l key = a at *
  have hs : Ev (fun k => impl_SubAmount.f k a n) (if a < n then ((0, 12) : Int × Int) else (a - n, 0)) := by
    unfold impl_SubAmount.f
    simp only [isAmount_eq, Option.bind_some, decide_eq_true hb, decide_eq_true (show 0 ≤ n ∧ n ≤ 1000000000000000000 from ⟨h0, h1⟩), if_true, Bool.not_true]
    refine Ev.step (f := fun _ => some (if a < n then ((0, 12) : Int × Int) else (a - n, 0))) (fun k => ?_) (Ev.now _)
    rw [impl_SubAmount.j0, if_neg (by decide), wid (n := a - n) (by omega) (by omega)]
    by_cases h2 : a < n
    · rw [if_pos h2, if_pos h2]
    · rw [if_neg h2, if_neg h2]
  refine Ev.bind hs ?_
  rw [show a + -n = a - n by omega]
  by_cases h2 : a < n
  · simp only [if_pos h2, if_pos (show a - n < 0 by omega)]
    simp only [if_neg (show ¬ (12 : Int) = 0 by decide)]; exact Ev.now _
  · simp only [if_neg h2, if_true, if_neg (show ¬ a - n < 0 by omega), if_neg (show ¬ 1000000000000000000 < a - n by omega)]
    exact putAmount_ev l key (a - n) (by have := h.1; omega) (by omega) (by omega)
theorem l05Write_ev (l : List IP) (key : ByteArray) (n : Int) (hl : l.length ≤ 1000000) (h0 : 0 ≤ n) (h1 : n ≤ 1000000000000000000) : Ev (fun k => spec_l05Write.f k l key n) (if n = 0 then ((dropV l key).1, 0) else putV l key (digV n.toNat)) := by
  unfold spec_l05Write.f
  by_cases hn : n = 0
  · simp only [if_pos hn]
    exact Ev.bind (specDrop_ev l key hl) (Ev.now _)
  · simp only [if_neg hn]
    have e := digits_ev n.toNat (by omega)
    rw [show ((n.toNat : Nat) : Int) = n by omega] at e
    exact Ev.bind e (Ev.bind (specPut_ev l key _ hl) (Ev.now _))
theorem l05Add_ev (l : List IP) (key : ByteArray) (n : Int) (h : Rt l) (h0 : -1000000000000000000 ≤ n) (h1 : n ≤ 1000000000000000000) : Ev (fun k => spec_l05Add.f k l key n) (addV l key n) := by
  unfold spec_l05Add.f addV
  refine Ev.bind (l05Read_ev l key h) ?_
  have hb := amtAt_bd l key
  generalize amtAt l key = a at *
  rw [wid (n := a + n) (by omega) (by omega)]
  by_cases h2 : a + n < 0
  · simp only [if_pos h2]; exact Ev.now _
  · by_cases h3 : 1000000000000000000 < a + n
    · simp only [if_neg h2, if_pos h3]; exact Ev.now _
    · simp only [if_neg h2, if_neg h3]
      exact Ev.bind (l05Write_ev l key (a + n) (by have := h.1; omega) (by omega) (by omega)) (Ev.now _)
theorem digV_small (v : Nat) (h : v ≤ 1000000000000000000) : (digV v).size ≤ 1000 := Nat.le_trans (digV_size v h) (by decide)
theorem addV_rt {l : List IP} {key : ByteArray} {n : Int} (h : Rt l) (h1 : 1 ≤ key.size) (h2 : key.size ≤ 1000) : Rt (addV l key n).1 := by
  unfold addV
  split
  · exact h
  · split
    · exact h
    · split
      · exact dropV_rt h
      · exact putV_rt h h1 h2 (digV_small _ (by omega))
/-- Two changes, whole or not at all. -/
def thenV (l : List IP) (a : List IP × Int) (f : List IP → List IP × Int) : List IP × Int := if a.2 = 0 then (if (f a.1).2 = 0 then ((f a.1).1, 0) else (l, (f a.1).2)) else (l, a.2)
def bKey (d a : ByteArray) : ByteArray := (((⟨#[98, 47]⟩ : ByteArray) ++ d) ++ (⟨#[47]⟩ : ByteArray)) ++ a
def sKey (d : ByteArray) : ByteArray := (⟨#[115, 47]⟩ : ByteArray) ++ d
theorem bKey_size (d a : ByteArray) : (bKey d a).size = 3 + d.size + a.size := by
  unfold bKey
  simp only [ByteArray.size_append]
  have e1 : (⟨#[98, 47]⟩ : ByteArray).size = 2 := rfl
  have e2 : (⟨#[47]⟩ : ByteArray).size = 1 := rfl
  omega
theorem sKey_size (d : ByteArray) : (sKey d).size = 2 + d.size := by
  unfold sKey
  simp only [ByteArray.size_append]
  have e1 : (⟨#[115, 47]⟩ : ByteArray).size = 2 := rfl
  omega
def moveV (l : List IP) (f t d : ByteArray) (n : Int) : List IP × Int := thenV l (addV l (bKey d f) (-n)) (fun m => addV m (bKey d t) n)
def mintV (l : List IP) (a d : ByteArray) (n : Int) : List IP × Int := thenV l (addV l (sKey d) n) (fun m => addV m (bKey d a) n)
def burnV (l : List IP) (a d : ByteArray) (n : Int) : List IP × Int := thenV l (addV l (bKey d a) (-n)) (fun m => addV m (sKey d) (-n))
theorem thenV_rt {l : List IP} {a : List IP × Int} {f : List IP → List IP × Int} (h : Rt l) (h1 : Rt (f a.1).1) : Rt (thenV l a f).1 := by
  unfold thenV
  split
  · split
    · exact h1
    · exact h
  · exact h
theorem all_nil (k : Nat) (l o : List IP) : impl_all.go k l [] o = some (o, 0) := rfl
/-- The program's list of changes, one behind the other. -/
def seqV (l : List IP) : List (List IP → List IP × Int) → List IP → List IP × Int
  | [], o => (o, 0)
  | f :: fs, o => if (f o).2 = 0 then seqV l fs (f o).1 else (l, (f o).2)
theorem go_ev (l : List IP) (hr : Rt l) : ∀ (Fs : List (Nat → List IP → Option (List IP × Int))) (fs : List (List IP → List IP × Int)) (o : List IP), Rt o → Fs.length = fs.length →
    (∀ (i : Nat) F f, Fs[i]? = some F → fs[i]? = some f → ∀ m, Rt m → Ev (fun k => F k m) (f m) ∧ Rt (f m).1) → Ev (fun k => impl_all.go k l (Fs.map fun F => F k) o) (seqV l fs o)
  | [], [], o, _, _, _ => Ev.now _
  | [], _ :: _, _, _, h, _ => by simp at h
  | _ :: _, [], _, _, h, _ => by simp at h
  | F :: Fs, f :: fs, o, ho, hlen, hF => by
    obtain ⟨h1, h2⟩ := hF 0 F f rfl rfl o ho
    unfold seqV
    refine Ev.bind h1 ?_
    by_cases hc : (f o).2 = 0
    · simp only [if_pos hc]
      exact go_ev l hr Fs fs (f o).1 h2 (by simpa using hlen) (fun i G g hG hg => hF (i + 1) G g (by simpa using hG) (by simpa using hg))
    · simp only [if_neg hc]
      refine Ev.bind (implDrop_ev l _ (by have := hr.1; omega)) ?_
      rw [dropV_nil hr]
      exact Ev.now _
theorem all_ev (l : List IP) (hr : Rt l) (Fs : List (Nat → List IP → Option (List IP × Int))) (fs : List (List IP → List IP × Int)) (hlen : Fs.length = fs.length)
    (hF : ∀ (i : Nat) F f, Fs[i]? = some F → fs[i]? = some f → ∀ m, Rt m → Ev (fun k => F k m) (f m) ∧ Rt (f m).1) : Ev (fun k => impl_all.f k l (Fs.map fun F => F k)) (seqV l fs l) := by
  unfold impl_all.f
  refine Ev.bind (implDrop_ev l _ (by have := hr.1; omega)) ?_
  rw [dropV_nil hr]
  exact go_ev l hr Fs fs l hr hlen hF
theorem seq_two (l : List IP) (f g : List IP → List IP × Int) : seqV l [f, g] l = thenV l (f l) g := by
  unfold seqV seqV seqV thenV
  split
  · split
    · rfl
    · rfl
  · rfl
theorem two_cases {α β : Type} {a b : α} {c d : β} {P : α → β → Prop} (h1 : P a c) (h2 : P b d) : ∀ (i : Nat) F f, [a, b][i]? = some F → [c, d][i]? = some f → P F f
  | 0, F, f, hF, hf => by
    simp only [List.getElem?_cons_zero, Option.some.injEq] at hF hf
    subst hF hf
    exact h1
  | 1, F, f, hF, hf => by
    simp only [List.getElem?_cons_succ, List.getElem?_cons_zero, Option.some.injEq] at hF hf
    subst hF hf
    exact h2
  | i + 2, F, f, hF, hf => by simp at hF
theorem implKey05_eq (d a : ByteArray) (h : d.size + a.size ≤ 1000) : impl_balanceKey.f d a = some (bKey d a) := by unfold impl_balanceKey.f bKey; rw [if_pos (by omega)]
theorem specKey05_eq (a d : ByteArray) (h : a.size + d.size ≤ 1000) : spec_l05Key.f a d = some (bKey d a) := by unfold spec_l05Key.f bKey; rw [if_pos (by omega)]
theorem move_ev (l : List IP) (f t d : ByteArray) (n : Int) (h : Rt l) (hf : f.size ≤ 100) (ht : t.size ≤ 100) (hd : d.size ≤ 100) (h0 : 0 ≤ n) (h1 : n ≤ 1000000000000000000) : Ev (fun k => impl_move.F k f t d n l) (moveV l f t d n) := by
  unfold impl_move.F moveV
  rw [← seq_two l (fun m => addV m (bKey d f) (-n)) (fun m => addV m (bKey d t) n)]
  refine all_ev l h [fun k m => (impl_balanceKey.f d f).bind fun key => impl_fewer.f k m key n, fun k m => (impl_balanceKey.f d t).bind fun key => impl_more.f k m key n] _ rfl (two_cases (fun m hm => ⟨?_, ?_⟩) (fun m hm => ⟨?_, ?_⟩))
  · rw [implKey05_eq d f (by omega)]; exact fewer_ev m _ n hm h0 h1
  · exact addV_rt hm (by rw [bKey_size]; omega) (by rw [bKey_size]; omega)
  · rw [implKey05_eq d t (by omega)]; exact more_ev m _ n hm h0 h1
  · exact addV_rt hm (by rw [bKey_size]; omega) (by rw [bKey_size]; omega)
theorem moveV_rt {l : List IP} {f t d : ByteArray} {n : Int} (h : Rt l) (hf : f.size ≤ 100) (ht : t.size ≤ 100) (hd : d.size ≤ 100) : Rt (moveV l f t d n).1 :=
  thenV_rt h (addV_rt (addV_rt h (by rw [bKey_size]; omega) (by rw [bKey_size]; omega)) (by rw [bKey_size]; omega) (by rw [bKey_size]; omega))
theorem l05Move_ev (l : List IP) (f t d : ByteArray) (n : Int) (h : Rt l) (hf : f.size ≤ 100) (ht : t.size ≤ 100) (hd : d.size ≤ 100) (h0 : 0 ≤ n) (h1 : n ≤ 1000000000000000000) : Ev (fun k => spec_l05Move.f k l f t d n) (moveV l f t d n) := by
  unfold spec_l05Move.f moveV thenV
  rw [specKey05_eq f d (by omega), wid (n := -n) (by omega) (by omega)]
  simp only [Option.bind_some]
  refine Ev.bind (l05Add_ev l _ (-n) h (by omega) (by omega)) ?_
  by_cases hc : (addV l (bKey d f) (-n)).2 = 0
  · simp only [if_pos hc, specKey05_eq t d (by omega), Option.bind_some]
    refine Ev.bind (l05Add_ev _ _ n (addV_rt h (by rw [bKey_size]; omega) (by rw [bKey_size]; omega)) (by omega) (by omega)) ?_
    split
    · exact Ev.now _
    · exact Ev.now _
  · simp only [if_neg hc]; exact Ev.now _
theorem rt_store {l : List IP} (h : storeB l = true) (hk : ∀ x ∈ l, (1 ≤ x.f0.size ∧ x.f0.size ≤ 60) ∧ x.f1.size ≤ 1000) : Rt l := by
  unfold storeB at h
  rw [Bool.and_eq_true, decide_eq_true_iff] at h
  exact ⟨h.2, fun x hx => ⟨(hk x hx).1.1, by have := (hk x hx).1.2; omega, (hk x hx).2⟩⟩
end Go.Proofs.YtabmfhnhmoiljaaGreatDoor.U

/- Keys that rise: where a search ends, and which pairs begin so. -/

namespace Go.Proofs.YtabmfhnhmoiljaaGreatDoor.U
open Go Go.RowKit Go.Proofs.YtabmfhnhmoiljaaGreatDoor.Q Go.Proofs.YtabmfhnhmoiljaaGreatDoorW.PrintWords Go.Proofs.YtabmfhnhmoiljaaGreatDoorW.PrintLast Go.Proofs.YtabmfhnhmoiljaaGreatDoorW.PrintMore
set_option linter.unusedVariables false
set_option linter.unusedSimpArgs false

theorem less_cons (a b : UInt8) (x y : List UInt8) : Op.bytesLess (a :: x) (b :: y) = true ↔ a < b ∨ (a = b ∧ Op.bytesLess x y = true) := by
  rw [Op.bytesLess, Bool.or_eq_true, Bool.and_eq_true, decide_eq_true_iff, beq_iff_eq]
theorem less_trans : ∀ a b c : List UInt8, Op.bytesLess a b = true → Op.bytesLess b c = true → Op.bytesLess a c = true
  | _, [], _, h, _ => by rw [Op.bytesLess] at h; cases h
  | _, _ :: _, [], _, h => by rw [Op.bytesLess] at h; cases h
  | [], _ :: _, _ :: _, _, _ => by rw [Op.bytesLess]
  | a :: x, b :: y, c :: z, h1, h2 => by
    rw [less_cons] at *
    rcases h1 with h1 | ⟨rfl, h1⟩
    · rcases h2 with h2 | ⟨rfl, h2⟩
      · exact .inl (UInt8.lt_trans h1 h2)
      · exact .inl h1
    · rcases h2 with h2 | ⟨rfl, h2⟩
      · exact .inl h2
      · exact .inr ⟨rfl, less_trans x y z h1 h2⟩
/-- It begins so. -/
def preL (p x : List UInt8) : Bool := x.take p.length == p
theorem preL_cons (c d : UInt8) (p x : List UInt8) : preL (c :: p) (d :: x) = true ↔ d = c ∧ preL p x = true := by
  unfold preL
  simp
theorem preL_ge : ∀ p x : List UInt8, preL p x = true → Op.bytesLess x p = false
  | [], x, _ => by cases x <;> rw [Op.bytesLess]
  | c :: p, [], h => by simp [preL] at h
  | c :: p, d :: x, h => by
    rw [preL_cons] at h
    obtain ⟨rfl, h⟩ := h
    have := preL_ge p x h
    rw [Bool.eq_false_iff] at *
    intro h2
    rw [less_cons] at h2
    rcases h2 with h2 | ⟨_, h2⟩
    · exact UInt8.lt_irrefl _ h2
    · exact this h2
theorem preL_past : ∀ p x y : List UInt8, Op.bytesLess x p = false → preL p x = false → Op.bytesLess x y = true → preL p y = false
  | [], x, y, _, h, _ => by simp [preL] at h
  | c :: p, [], y, h, _, _ => by rw [Op.bytesLess] at h; cases h
  | c :: p, d :: x, [], _, _, _ => by simp [preL]
  | c :: p, d :: x, e :: y, h1, h2, h3 => by
    rw [Bool.eq_false_iff] at *
    intro h4
    rw [less_cons] at h3
    rw [ne_eq, less_cons] at h1
    rw [preL_cons] at h4
    obtain ⟨rfl, h4⟩ := h4
    rcases h3 with h3 | ⟨rfl, h3⟩
    · exact h1 (.inl h3)
    · have g1 : Op.bytesLess x p = false := by rw [Bool.eq_false_iff]; exact fun h => h1 (.inr ⟨rfl, h⟩)
      have g2 : preL p x = false := by rw [Bool.eq_false_iff]; exact fun h => h2 ((preL_cons _ _ _ _).2 ⟨rfl, h⟩)
      have := preL_past p x y g1 g2 h3
      rw [this] at h4; cases h4
/-- Keys rise. -/
def Rises (l : List IP) : Prop := ∀ i (h : i + 1 < l.length), Op.bytesLess (l[i]'(by omega)).f0.toList l[i + 1].f0.toList = true
theorem Rises.lt {l : List IP} (h : Rises l) : ∀ (d i : Nat) (hd : i + 1 + d < l.length), Op.bytesLess (l[i]'(by omega)).f0.toList (l[i + 1 + d]).f0.toList = true
  | 0, i, hd => h i hd
  | d + 1, i, hd => less_trans _ _ _ (Rises.lt h d i (by omega)) (h (i + 1 + d) (by omega))
theorem Rises.lt' {l : List IP} (h : Rises l) {i j : Nat} (hij : i < j) (hj : j < l.length) : Op.bytesLess (l[i]'(by omega)).f0.toList l[j].f0.toList = true := by
  have := h.lt (j - i - 1) i (by omega)
  have e : i + 1 + (j - i - 1) = j := by omega
  simp only [e] at this
  exact this
theorem fromB_pair (l : List IP) : ∀ (d i j : Nat), fromB l d i = true → i ≤ j → j < i + d → pairB l j = true
  | 0, i, j, _, h1, h2 => by omega
  | d + 1, i, j, h, h1, h2 => by
    rw [fromB, Bool.and_eq_true] at h
    by_cases e : i = j
    · subst e; exact h.1
    · exact fromB_pair l d (i + 1) j h.2 (by omega) (by omega)
theorem storeB_pair {l : List IP} (h : storeB l = true) (i : Nat) (hi : i < l.length) : pairB l i = true := by
  unfold storeB at h
  rw [Bool.and_eq_true] at h
  exact fromB_pair l l.length 0 i h.1 (by omega) (by omega)
theorem storeB_len {l : List IP} (h : storeB l = true) : l.length ≤ 400 := by
  unfold storeB at h
  rw [Bool.and_eq_true, decide_eq_true_iff] at h
  exact h.2
theorem storeB_rises {l : List IP} (h : storeB l = true) : Rises l := by
  intro i hi
  have hp := storeB_pair h (i + 1) hi
  unfold pairB lessB at hp
  rw [Bool.and_eq_true, Bool.and_eq_true, Bool.or_eq_true, decide_eq_true_iff] at hp
  rcases hp.2.2 with h0 | h0
  · omega
  · rw [rdI l (i + 1) hi, show (((i + 1 : Nat) : Int) - 1) = (i : Int) by omega, rdI l i (by omega)] at h0
    exact h0
theorem storeB_key {l : List IP} (h : storeB l = true) : ∀ x ∈ l, (1 ≤ x.f0.size ∧ x.f0.size ≤ 60) ∧ x.f1.size ≤ 1000 := by
  intro x hx
  obtain ⟨i, hi, rfl⟩ := List.getElem_of_mem hx
  have hp := storeB_pair h i hi
  unfold pairB keyB valueB at hp
  rw [Bool.and_eq_true, Bool.and_eq_true, decide_eq_true_iff, decide_eq_true_iff, rdI l i hi] at hp
  exact ⟨hp.1, hp.2.1⟩
theorem atV_spec {l : List IP} (h : Rises l) (key : ByteArray) : ∀ (f i j : Nat), j - i < f → i ≤ j → (hj : j ≤ l.length) →
    (∀ n (hn : n < l.length), n < i → Op.bytesLess l[n].f0.toList key.toList = true) → (∀ n (hn : n < l.length), j ≤ n → Op.bytesLess l[n].f0.toList key.toList = false) →
    (∀ n (hn : n < l.length), n < atV l key f i j → Op.bytesLess l[n].f0.toList key.toList = true) ∧ (∀ n (hn : n < l.length), atV l key f i j ≤ n → Op.bytesLess l[n].f0.toList key.toList = false)
  | 0, i, j, hf, _, _, _, _ => by omega
  | f + 1, i, j, hf, hij, hj, h1, h2 => by
    rw [atV]
    by_cases hlt : i < j
    · rw [if_pos hlt, rdI l ((i + j) / 2) (by omega)]
      split
      · rename_i hm
        refine atV_spec h key f _ _ (by omega) (by omega) hj (fun n hn hni => ?_) h2
        by_cases e : n = (i + j) / 2
        · subst e; exact hm
        · exact less_trans _ _ _ (h.lt' (show n < (i + j) / 2 by omega) (by omega)) hm
      · rename_i hm
        refine atV_spec h key f _ _ (by omega) (by omega) (by omega) h1 (fun n hn hni => ?_)
        by_cases e : n = (i + j) / 2
        · subst e; rw [Bool.eq_false_iff]; exact hm
        · rw [Bool.eq_false_iff]
          intro hc
          exact hm (less_trans _ _ _ (h.lt' (show (i + j) / 2 < n by omega) hn) hc)
    · rw [if_neg hlt]
      exact ⟨h1, fun n hn hni => h2 n hn (by omega)⟩
theorem atOf_spec {l : List IP} (h : Rises l) (key : ByteArray) :
    (∀ n (hn : n < l.length), n < atOf l key → Op.bytesLess l[n].f0.toList key.toList = true) ∧ (∀ n (hn : n < l.length), atOf l key ≤ n → Op.bytesLess l[n].f0.toList key.toList = false) :=
  atV_spec h key (l.length + 1) 0 l.length (by omega) (by omega) (Nat.le_refl _) (fun n _ h => by omega) (fun n hn h => by omega)
end Go.Proofs.YtabmfhnhmoiljaaGreatDoor.U
