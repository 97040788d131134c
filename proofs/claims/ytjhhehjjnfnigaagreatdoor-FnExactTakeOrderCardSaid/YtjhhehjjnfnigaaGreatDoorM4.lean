/- Parts of the proof: what single Go functions compute, each with its walk, and plain laws over these. -/
import Derived.Test.YtjhhehjjnfnigaaGreatDoorVMac
import Derived.Test.YtjhhehjjnfnigaaGreatDoorM0
import Derived.Test.YtjhhehjjnfnigaaGreatDoorM1
import Derived.Test.YtjhhehjjnfnigaaGreatDoorM2
import Derived.Test.YtjhhehjjnfnigaaGreatDoorM3
import Derived.IntWalk
import Derived.Laws.BitsLemmas
import Derived.Test.YtjhhehjjnfnigaaGreatDoorVMore
import Derived.Lib.ItoaNum
import Derived.Lib.AtoiAllCases
import Derived.Lib.Strings
import Derived.Lib.Bytealg
import Derived.Sort.Walk0
namespace Go.Proofs.YtjhhehjjnfnigaaGreatDoor.Q
open Go.RowKit Go.Proofs.YtjhhehjjnfnigaaGreatDoorW.PrintWords Go.Proofs.YtjhhehjjnfnigaaGreatDoorW.PrintLast Go.Proofs.YtjhhehjjnfnigaaGreatDoorW.PrintMore
open Go.Proofs.YtjhhehjjnfnigaaGreatDoorW.PrintWords.Aside0 renaming mk → ζa
open Go.Proofs.YtjhhehjjnfnigaaGreatDoorW.PrintWords renaming blk_cell → δl, below_alloc → δk, below_drew1 → δj, pw_below_drewN → δi, blk_alloc → δo, blk_drew → δp, blk_drewN → δn, below_step → δr
attribute [local go_sem] max2_int min2_int max_two min_two max_three min_three max_four min_four   -- for this text's walks alone
set_option linter.unusedVariables false
set_option linter.unusedSimpArgs false
set_option maxHeartbeats 8000000
set_option maxRecDepth 100000


/-! ### impl_putOrder_1: function 70 -/
def impl_putOrder.F (k:Nat) (o_0:ByteArray) (o_1:ByteArray) (o_2:Int) (o_3:Int) (o_4:Int) (o_5:Bool):List S37→Option (List S37 × Int):=fun l0=>(impl_orderKey.f o_0).bind fun key=>(impl_Order_value.f k o_0 o_1 o_2 o_3 o_4 o_5).bind fun v=>impl_put.f k l0 key v
theorem impl_putOrder_1.calls (k:Nat) (A0:Option Addr) (c0:Nat) (l0:List S37) (gb:Nat) (o_0:ByteArray) (o_1:ByteArray) (o_2:Int) (o_3:Int) (o_4:Int) (o_5:Bool) (r1:List S37) (r2:Int) (w:World) (hr0:Kd.C k37 w A0 l0.length l0) (hc0:l0.length≤c0) (hT0:TabsOK w) (hbk:w.heap[gb]? = some (.cells #[.string o_0,.string o_1,.int .i64 o_2,.int .i64 o_3,.int .i64 o_4,.bool o_5] 46 (0,0))) (h:impl_putOrder.F k o_0 o_1 o_2 o_3 o_4 o_5 l0=some (r1,r2)) :
  Calls Tryz.prog 70 #[.slice A0 l0.length c0,.pointer (some ⟨gb,0,none⟩)] w fun e w' => ∃ v0_:Value,e = .returned (.tuple #[v0_,.int .i64 r2])∧Kd.R k37 37 w' w.heap.size (fun _=>True) v0_ r1∧Below w.heap.size w w':=by
 unfold impl_putOrder.F at h
 obtain ⟨key,hk,h⟩:=Option.bind_eq_some_iff.mp h
 have HK:=ζa hk
 clear hk
 obtain ⟨v,hv,h⟩:=Option.bind_eq_some_iff.mp h
 have HV:=ζa hv
 have HF:=ζa h
 have HR0:=ζa hr0
 have HC0:=ζa hc0
 have HT0:=ζa hT0
 have BK:=ζa hbk
 have HB:=ζa (Below.refl w.heap.size w)
 clear hv h hr0 hc0 hT0 hbk
 have hz0:=(δl BK.out 0).trans rfl
 have hz1:=(δl BK.out 1).trans rfl
 have hz2:=(δl BK.out 2).trans rfl
 have hz3:=(δl BK.out 3).trans rfl
 have hz4:=(δl BK.out 4).trans rfl
 have hz5:=(δl BK.out 5).trans rfl
 go_enter Tryz.func70,Tryz.ntmps70
 go_wp2_with fail
 go_region_held3 (fun w'=>w'.cell? ⟨gb,0,none⟩=some (.string o_0)∧w'.cell? ⟨gb,1,none⟩=some (.string o_1)∧w'.cell? ⟨gb,2,none⟩=some (.int .i64 o_2)∧w'.cell? ⟨gb,3,none⟩=some (.int .i64 o_3)∧w'.cell? ⟨gb,4,none⟩=some (.int .i64 o_4)∧w'.cell? ⟨gb,5,none⟩=some (.bool o_5)) (first|go_keep|exact ⟨(δl BK.out 0).trans rfl,(δl BK.out 1).trans rfl,(δl BK.out 2).trans rfl,(δl BK.out 3).trans rfl,(δl BK.out 4).trans rfl,(δl BK.out 5).trans rfl⟩)
  (first
   | (go_at_call 59;refine (impl_orderKey.calls o_0 key _ HK.out).mono ?_;rintro e w' ⟨rfl,⟨q',rfl⟩⟩)
   | (go_at_call 72;refine (impl_Order_value.calls k o_0 o_1 o_2 o_3 o_4 o_5 v _ (HT0.out.below (by repeat (first|exact HB.out|apply δk|apply δj|apply δi))) HV.out).mono ?_;rintro e w2 ⟨rfl,hb⟩;replace BK:=ζa (blk_below (by repeat (first|exact BK.out|apply δo|apply δp|apply δn)) hb);replace HB:=ζa (δr (by repeat (first|exact HB.out|apply δk|apply δj|apply δi)) hb);clear hb)
   | (go_at_call 71;refine (impl_put.calls k A0 c0 l0 key v r1 r2 _ (by repeat (first|exact Kd.C_below HR0.out HB.out|apply Kd.C_drew|apply Kd.C_drewN)) HC0.out HF.out).mono ?_;rintro e w3 ⟨v3,rfl,ho,hb⟩;have HO3:=ζa (Kd.R_lower ho (Below.size (show Below w.heap.size w _ from (by repeat (first|exact HB.out|apply δk|apply δj|apply δi)))));replace BK:=ζa (blk_below (by repeat (first|exact BK.out|apply δo|apply δp|apply δn)) hb);replace HB:=ζa (δr (by repeat (first|exact HB.out|apply δk|apply δj|apply δi)) hb);clear hb ho))
 all_goals go_wp2
 all_goals (go_ret2;exact ⟨_,rfl,HO3.out,HB.out⟩)


open Go.Proofs.YtjhhehjjnfnigaaGreatDoorW.PrintWords renaming gate_dst → δx, below_step → δr, below_alloc → δk, pw_below_drewN → δi, below_drew1 → δj
set_option maxHeartbeats 8000000
set_option maxRecDepth 100000


/-! ### impl_putOrder: function 37 -/
theorem impl_putOrder.calls (k:Nat) (o_0:ByteArray) (o_1:ByteArray) (o_2:Int) (o_3:Int) (o_4:Int) (o_5:Bool) (w:World) (hT0:TabsOK w) :
  Calls Tryz.prog 37 #[.agg #[.string o_0,.string o_1,.int .i64 o_2,.int .i64 o_3,.int .i64 o_4,.bool o_5]] w fun e w' => ∃ (g:Nat) (lb:Array Value),e = .returned (.func (.func g) #[] lb)∧ChgR w' (g,lb) (impl_putOrder.F k o_0 o_1 o_2 o_3 o_4 o_5)∧Below w.heap.size w w':=by
 have HT0:=ζa hT0
 have HB:=ζa (Below.refl w.heap.size w)
 have hu:=Tryz.underlying46
 clear hT0
 go_enter Tryz.func37,Tryz.ntmps37
 go_wp2_with (first
  | ((with_reducible refine δx (N:=1) rfl ?_);refine bev 1 #[.string o_0,.string o_1,.int .i64 o_2,.int .i64 o_3,.int .i64 o_4,.bool o_5] 46 ?_;intro gbp hg wp hbox hb;replace HB:=ζa (δr (by repeat (first|exact HB.out|apply δk|apply δi|apply δj)) hb);have BKp:=ζa hbox;clear hb hbox hg))
 go_ret
 refine ⟨_,_,rfl,⟨enters_of Tryz.func70 (by kernel_rfl) rfl,fun W A c l r code hb hr hc hF => ?_⟩,HB.out⟩
 exact impl_putOrder_1.calls k A c l gbp o_0 o_1 o_2 o_3 o_4 o_5 r code W hr hc ((HT0.out.below HB.out).below hb) (blk_below BKp.out hb) hF


open Go.RowKit renaming wrap64 → ζm
open Go.Proofs.YtjhhehjjnfnigaaGreatDoorW.PrintWords renaming below_step → δr, gate_dst → δx, blk_cell → δl, blk_frozen → δm, below_set → δq, blk_put → δw, below_alloc → δk, below_drew1 → δj, pw_below_drewN → δi, blk_alloc → δo, blk_drew → δp, blk_drewN → δn
open Go.Proofs.YtjhhehjjnfnigaaGreatDoorW.PrintWords.Kd renaming R_alloc → ζd, R_drew → ζe, R_drewN → ζc
open Bool renaming true → τ, false → φ
set_option maxHeartbeats 8000000
set_option maxRecDepth 100000


/-! ### impl_takeOrder: function 16 -/
def impl_takeOrder.f (k:Nat) (name:ByteArray) (list:List S37) (data:ByteArray):Option (List S37 × Bool) :=
 (impl_takeOf.f k data).bind fun q1=>(impl_orderAt.f k list q1.1).bind fun q2=>if q1.2.2.2.2=τ then (if q2.2.2.2.2.2.2=τ then (if q2.2.1.toList=q1.2.1.toList then ((impl_Order_fill.f k q2.1 q2.2.1 q2.2.2.1 q2.2.2.2.1 q2.2.2.2.2.1 q2.2.2.2.2.2.1 q1.2.2.2.1).bind fun q3=>if q3.2=0 then (if 0<ζm (q2.2.2.2.2.1 - q3.1) then ((impl_all.f k list [(impl_move.F k (⟨#[111,114,100,101,114,115]⟩:ByteArray) q1.2.2.1 name q3.1),(impl_putOrder.F k q2.1 q2.2.1 q2.2.2.1 q2.2.2.2.1 (ζm (q2.2.2.2.2.1 - q3.1)) τ)]).bind fun q4=>if q4.2=0 then (some (q4.1,τ)) else (some (q4.1,φ))) else ((impl_all.f k list [(impl_move.F k (⟨#[111,114,100,101,114,115]⟩:ByteArray) q1.2.2.1 name q3.1),(impl_putOrder.F k q2.1 q2.2.1 q2.2.2.1 q2.2.2.2.1 (ζm (q2.2.2.2.2.1 - q3.1)) φ)]).bind fun q5=>if q5.2=0 then (some (q5.1,τ)) else (some (q5.1,φ)))) else ((slices_Clone_impl_Pair_impl_Pair.f list).bind fun q6=>some (q6,φ))) else ((slices_Clone_impl_Pair_impl_Pair.f list).bind fun q7=>some (q7,φ))) else ((slices_Clone_impl_Pair_impl_Pair.f list).bind fun q8=>some (q8,φ))) else ((slices_Clone_impl_Pair_impl_Pair.f list).bind fun q9=>some (q9,φ))
theorem impl_takeOrder.calls (k:Nat) (name:ByteArray) (A_list:Option Addr) (c_list:Nat) (list:List S37) (data:ByteArray) (r1:List S37) (r2:Bool) (w:World) (hr0_list:Kd.C k37 w A_list list.length list) (hc0_list:list.length≤c_list) (hT0:TabsOK w) (h:impl_takeOrder.f k name list data=some (r1,r2)) :
  Calls Tryz.prog 16 #[.string name,.slice A_list list.length c_list,.string data] w fun e w' => ∃ v0_:Value,e = .returned (.tuple #[v0_,.bool r2])∧Kd.R k37 37 w' w.heap.size (fun _=>True) v0_ r1∧Below w.heap.size w w':=by
 have HR0_list:=ζa hr0_list
 have HC0_list:=ζa hc0_list
 clear hr0_list hc0_list
 have HT0:=ζa hT0
 clear hT0
 have HB0:=ζa (Below.refl w.heap.size w)
 unfold impl_takeOrder.f at h
 have HH:=ζa h
 clear h
 go_enter Tryz.func16,Tryz.ntmps16
 have h:=HH.out
 clear HH
 obtain ⟨⟨t0,t1,t2,t3,ok⟩,h1_,h⟩:=Option.bind_eq_some_iff.mp h
 have HH:=ζa h
 have H1:=ζa h1_
 clear h h1_
 go_wp2_with fail
 refine (impl_takeOf.calls k data t0 t1 t2 t3 ok _ (HT0.out.below (by repeat (exact HB0.out))) H1.out).mono ?_
 rintro e w1 ⟨rfl,hb⟩
 have m_:=ζa (δr (by repeat (exact HB0.out)) hb)
 clear hb
 have HB1:=m_
 clear m_
 have h:=HH.out
 clear HH
 obtain ⟨⟨u0,u1,u2,u3,u4,u5,found⟩,h4_,h⟩:=Option.bind_eq_some_iff.mp h
 have HH:=ζa h
 have H4:=ζa h4_
 clear h h4_
 go_wp2_with (first|((with_reducible refine δx (N:=8) rfl ?_);refine bev 8 #[.string (⟨#[]⟩:ByteArray),.string (⟨#[]⟩:ByteArray),.string (⟨#[]⟩:ByteArray),.int .i64 0] 60 ?_;intro gbt hg w2 hbox hb;have hbc:=δr (show Below w1.heap.size w1 _ from by repeat (exact Below.refl _ _)) hb;have GEt:Aside0 (w1.heap.size≤gbt):=⟨by rw [hg];exact Below.size (show Below w1.heap.size w1 _ from by repeat (exact Below.refl _ _))⟩;have GWt:Aside0 (w.heap.size≤gbt):=⟨Nat.le_trans HB1.out.size GEt.out⟩;have BKZ:=ζa hbox;have HBZ:=ζa hbc;have hzz:=hbox;clear hb hbc hbox hg;have hzt_0:=(δl BKZ.out 0).trans rfl;have hzt_1:=(δl BKZ.out 1).trans rfl;have hzt_2:=(δl BKZ.out 2).trans rfl;have hzt_3:=(δl BKZ.out 3).trans rfl;have hft_0:=δm BKZ.out 0;have hft_1:=δm BKZ.out 1;have hft_2:=δm BKZ.out 2;have hft_3:=δm BKZ.out 3;clear hzz)|((with_reducible refine gate_store (t:=60) (p:=8) rfl ?_);refine store_event (t:=60) (p:=8) (v:=?vo2) (w1:=((((w2.setCell ⟨gbt,0,none⟩ (.string t0)).setCell ⟨gbt,1,none⟩ (.string t1)).setCell ⟨gbt,2,none⟩ (.string t2)).setCell ⟨gbt,3,none⟩ (.int .i64 t3))) ?hg ?ho ?hn ?hr ?_;(case ho=>rfl);(case hg=>rfl);(case hn=>rfl);(case hr=>(go_simp;done));intro w3 hw;have hbc:Below w1.heap.size w1 w3:=(by rw [hw];exact (δq (δq (δq (δq HBZ.out GEt.out) GEt.out) GEt.out) GEt.out));have BKt:Aside0 (w3.heap[gbt]? = some (.cells #[.string t0,.string t1,.string t2,.int .i64 t3] 60 (0,0))):=⟨by rw [hw];exact (δw (δw (δw (δw BKZ.out 0 _ rfl) 1 _ rfl) 2 _ rfl) 3 _ rfl)⟩;have HB2:=ζa (δr HB1.out hbc);clear hbc hw BKZ HBZ;clear hzt_0 hft_0 hzt_1 hft_1 hzt_2 hft_2 hzt_3 hft_3;have hzt_0:=(δl BKt.out 0).trans rfl;have hzt_1:=(δl BKt.out 1).trans rfl;have hzt_2:=(δl BKt.out 2).trans rfl;have hzt_3:=(δl BKt.out 3).trans rfl;have hft_0:=δm BKt.out 0;have hft_1:=δm BKt.out 1;have hft_2:=δm BKt.out 2;have hft_3:=δm BKt.out 3))
 refine (impl_orderAt.calls k A_list c_list list t0 u0 u1 u2 u3 u4 u5 found _ (by repeat (exact Kd.C_below HR0_list.out HB2.out)) HC0_list.out (HT0.out.below (by repeat (exact HB2.out))) H4.out).mono ?_
 rintro e w4 ⟨rfl,hb⟩
 replace BKt:=ζa (blk_below (by repeat (exact BKt.out)) hb)
 clear hzt_0 hft_0 hzt_1 hft_1 hzt_2 hft_2 hzt_3 hft_3
 have m_:=ζa (δr (by repeat (exact HB2.out)) hb)
 clear hb
 have HB4:=m_
 clear m_
 have hzt_0:=(δl BKt.out 0).trans rfl
 have hft_0:=δm BKt.out 0
 have hzt_1:=(δl BKt.out 1).trans rfl
 have hft_1:=δm BKt.out 1
 have hzt_2:=(δl BKt.out 2).trans rfl
 have hft_2:=δm BKt.out 2
 have hzt_3:=(δl BKt.out 3).trans rfl
 have hft_3:=δm BKt.out 3
 have h:=HH.out
 clear HH
 cases ok with
 | true =>
  rw [if_pos rfl] at h
  have HH:=ζa h
  clear h
  have h:=HH.out
  clear HH
  cases found with
  | true =>
   rw [if_pos rfl] at h
   have HH:=ζa h
   clear h
   have h:=HH.out
   clear HH
   by_cases cc7:u1.toList=t1.toList
   ·
    rw [if_pos cc7] at h
    have HH:=ζa h
    clear h
    have f7a:(u1.toList == t1.toList)=τ:=beq_iff_eq.mpr cc7
    have f7b:(u1.toList != t1.toList)=φ:=bne_eq_false_iff_eq.mpr cc7
    have C7:=ζa cc7
    clear cc7
    have h:=HH.out
    clear HH
    obtain ⟨⟨n1,c0⟩,h10_,h⟩:=Option.bind_eq_some_iff.mp h
    have HH:=ζa h
    have H10:=ζa h10_
    clear h h10_
    go_wp2_with (first|((with_reducible refine δx (N:=10) rfl ?_);refine bev 10 #[.string (⟨#[]⟩:ByteArray),.string (⟨#[]⟩:ByteArray),.int .i64 0,.int .i64 0,.int .i64 0,.bool φ] 46 ?_;intro gbo hg w8 hbox hb;have hbc:=δr (show Below w4.heap.size w4 _ from by repeat (exact Below.refl _ _)) hb;have GEo:Aside0 (w4.heap.size≤gbo):=⟨by rw [hg];exact Below.size (show Below w4.heap.size w4 _ from by repeat (exact Below.refl _ _))⟩;have GWo:Aside0 (w.heap.size≤gbo):=⟨Nat.le_trans HB4.out.size GEo.out⟩;have BKZ:=ζa hbox;have HBZ:=ζa hbc;have hzz:=hbox;clear hb hbc hbox hg;have hzo_0:=(δl BKZ.out 0).trans rfl;have hzo_1:=(δl BKZ.out 1).trans rfl;have hzo_2:=(δl BKZ.out 2).trans rfl;have hzo_3:=(δl BKZ.out 3).trans rfl;have hzo_4:=(δl BKZ.out 4).trans rfl;have hzo_5:=(δl BKZ.out 5).trans rfl;have hfo_0:=δm BKZ.out 0;have hfo_1:=δm BKZ.out 1;have hfo_2:=δm BKZ.out 2;have hfo_3:=δm BKZ.out 3;have hfo_4:=δm BKZ.out 4;have hfo_5:=δm BKZ.out 5;clear hzz)|((with_reducible refine gate_store (t:=46) (p:=10) rfl ?_);refine store_event (t:=46) (p:=10) (v:=?vo8) (w1:=((((((w8.setCell ⟨gbo,0,none⟩ (.string u0)).setCell ⟨gbo,1,none⟩ (.string u1)).setCell ⟨gbo,2,none⟩ (.int .i64 u2)).setCell ⟨gbo,3,none⟩ (.int .i64 u3)).setCell ⟨gbo,4,none⟩ (.int .i64 u4)).setCell ⟨gbo,5,none⟩ (.bool u5))) ?hg ?ho ?hn ?hr ?_;(case ho=>rfl);(case hg=>rfl);(case hn=>rfl);(case hr=>(go_simp;done));intro w9 hw;have hbc:Below w4.heap.size w4 w9:=(by rw [hw];exact (δq (δq (δq (δq (δq (δq HBZ.out GEo.out) GEo.out) GEo.out) GEo.out) GEo.out) GEo.out));have BKo:Aside0 (w9.heap[gbo]? = some (.cells #[.string u0,.string u1,.int .i64 u2,.int .i64 u3,.int .i64 u4,.bool u5] 46 (0,0))):=⟨by rw [hw];exact (δw (δw (δw (δw (δw (δw BKZ.out 0 _ rfl) 1 _ rfl) 2 _ rfl) 3 _ rfl) 4 _ rfl) 5 _ rfl)⟩;replace BKt:=ζa (blk_below (by repeat (exact BKt.out)) hbc);have HB8:=ζa (δr HB4.out hbc);clear hbc hw BKZ HBZ;clear hzo_0 hfo_0 hzo_1 hfo_1 hzo_2 hfo_2 hzo_3 hfo_3 hzo_4 hfo_4 hzo_5 hfo_5;clear hzt_0 hft_0 hzt_1 hft_1 hzt_2 hft_2 hzt_3 hft_3;have hzt_0:=(δl BKt.out 0).trans rfl;have hzt_1:=(δl BKt.out 1).trans rfl;have hzt_2:=(δl BKt.out 2).trans rfl;have hzt_3:=(δl BKt.out 3).trans rfl;have hft_0:=δm BKt.out 0;have hft_1:=δm BKt.out 1;have hft_2:=δm BKt.out 2;have hft_3:=δm BKt.out 3;have hzo_0:=(δl BKo.out 0).trans rfl;have hzo_1:=(δl BKo.out 1).trans rfl;have hzo_2:=(δl BKo.out 2).trans rfl;have hzo_3:=(δl BKo.out 3).trans rfl;have hzo_4:=(δl BKo.out 4).trans rfl;have hzo_5:=(δl BKo.out 5).trans rfl;have hfo_0:=δm BKo.out 0;have hfo_1:=δm BKo.out 1;have hfo_2:=δm BKo.out 2;have hfo_3:=δm BKo.out 3;have hfo_4:=δm BKo.out 4;have hfo_5:=δm BKo.out 5))
    refine (impl_Order_fill.calls k u0 u1 u2 u3 u4 u5 t3 n1 c0 _ H10.out).mono ?_
    rintro e w10 ⟨rfl,hb⟩
    replace BKt:=ζa (blk_below (by repeat (exact BKt.out)) hb)
    replace BKo:=ζa (blk_below (by repeat (exact BKo.out)) hb)
    clear hzt_0 hft_0 hzt_1 hft_1 hzt_2 hft_2 hzt_3 hft_3
    clear hzo_0 hfo_0 hzo_1 hfo_1 hzo_2 hfo_2 hzo_3 hfo_3 hzo_4 hfo_4 hzo_5 hfo_5
    have m_:=ζa (δr (by repeat (exact HB8.out)) hb)
    clear hb
    have HB10:=m_
    clear m_
    have hzt_0:=(δl BKt.out 0).trans rfl
    have hft_0:=δm BKt.out 0
    have hzt_1:=(δl BKt.out 1).trans rfl
    have hft_1:=δm BKt.out 1
    have hzt_2:=(δl BKt.out 2).trans rfl
    have hft_2:=δm BKt.out 2
    have hzt_3:=(δl BKt.out 3).trans rfl
    have hft_3:=δm BKt.out 3
    have hzo_0:=(δl BKo.out 0).trans rfl
    have hfo_0:=δm BKo.out 0
    have hzo_1:=(δl BKo.out 1).trans rfl
    have hfo_1:=δm BKo.out 1
    have hzo_2:=(δl BKo.out 2).trans rfl
    have hfo_2:=δm BKo.out 2
    have hzo_3:=(δl BKo.out 3).trans rfl
    have hfo_3:=δm BKo.out 3
    have hzo_4:=(δl BKo.out 4).trans rfl
    have hfo_4:=δm BKo.out 4
    have hzo_5:=(δl BKo.out 5).trans rfl
    have hfo_5:=δm BKo.out 5
    have h:=HH.out
    clear HH
    by_cases cc11:c0=0
    ·
     rw [if_pos cc11] at h
     have HH:=ζa h
     clear h
     have f11a:(c0 == 0)=τ:=beq_iff_eq.mpr cc11
     have f11b:(c0 != 0)=φ:=bne_eq_false_iff_eq.mpr cc11
     have C11:=ζa cc11
     clear cc11
     have h:=HH.out
     clear HH
     by_cases cc12:0<ζm (u4 - n1)
     ·
      rw [if_pos cc12] at h
      have HH:=ζa h
      clear h
      have f12a:decide (0<ζm (u4 - n1))=τ:=decide_eq_true cc12
      have C12:=ζa cc12
      clear cc12
      have h:=HH.out
      clear HH
      obtain ⟨⟨o1,c1⟩,h15_,h⟩:=Option.bind_eq_some_iff.mp h
      have HH:=ζa h
      have H15:=ζa h15_
      clear h h15_
      go_wp2_with (first|((with_reducible refine gate_store (t:=3) (p:=57) rfl ?_);refine store_event (t:=3) (p:=57) (v:=?vo13) (w1:=(w10.setCell ⟨gbo,4,none⟩ (.int .i64 (ζm (u4 - n1))))) ?hg ?ho ?hn ?hr ?_;(case ho=>rfl);(case hg=>rfl);(case hn=>rfl);(case hr=>(go_simp;done));intro w13 hw;have HB13:Aside0 (Below w.heap.size w w13):=⟨by rw [hw];exact δq HB10.out GWo.out⟩;have m_:Aside0 (w13.heap[gbt]? = some (.cells #[.string t0,.string t1,.string t2,.int .i64 t3] 60 (0,0))):=⟨by rw [hw];exact blk_far BKt.out (blk_ne BKt.out BKo.out (by decide)) _⟩;have nt_:=m_;clear m_;have m_:Aside0 (w13.heap[gbo]? = some (.cells #[.string u0,.string u1,.int .i64 u2,.int .i64 u3,.int .i64 (ζm (u4 - n1)),.bool u5] 46 (0,0))):=⟨by rw [hw];exact δw BKo.out 4 _ rfl⟩;have no_:=m_;clear m_;clear BKt;have BKt:=nt_;clear nt_;clear BKo;have BKo:=no_;clear no_;clear hw;clear hzt_0 hft_0 hzt_1 hft_1 hzt_2 hft_2 hzt_3 hft_3;clear hzo_0 hfo_0 hzo_1 hfo_1 hzo_2 hfo_2 hzo_3 hfo_3 hzo_4 hfo_4 hzo_5 hfo_5;have hzt_0:=(δl BKt.out 0).trans rfl;have hzt_1:=(δl BKt.out 1).trans rfl;have hzt_2:=(δl BKt.out 2).trans rfl;have hzt_3:=(δl BKt.out 3).trans rfl;have hft_0:=δm BKt.out 0;have hft_1:=δm BKt.out 1;have hft_2:=δm BKt.out 2;have hft_3:=δm BKt.out 3;have hzo_0:=(δl BKo.out 0).trans rfl;have hzo_1:=(δl BKo.out 1).trans rfl;have hzo_2:=(δl BKo.out 2).trans rfl;have hzo_3:=(δl BKo.out 3).trans rfl;have hzo_4:=(δl BKo.out 4).trans rfl;have hzo_5:=(δl BKo.out 5).trans rfl;have hfo_0:=δm BKo.out 0;have hfo_1:=δm BKo.out 1;have hfo_2:=δm BKo.out 2;have hfo_3:=δm BKo.out 3;have hfo_4:=δm BKo.out 4;have hfo_5:=δm BKo.out 5)|((with_reducible refine gate_store (t:=4) (p:=61) rfl ?_);refine store_event (t:=4) (p:=61) (v:=?vo14) (w1:=(w13.setCell ⟨gbo,5,none⟩ (.bool τ))) ?hg ?ho ?hn ?hr ?_;(case ho=>rfl);(case hg=>rfl);(case hn=>rfl);(case hr=>(go_simp;done));intro w14 hw;have HB14:Aside0 (Below w.heap.size w w14):=⟨by rw [hw];exact δq HB13.out GWo.out⟩;have m_:Aside0 (w14.heap[gbt]? = some (.cells #[.string t0,.string t1,.string t2,.int .i64 t3] 60 (0,0))):=⟨by rw [hw];exact blk_far BKt.out (blk_ne BKt.out BKo.out (by decide)) _⟩;have nt_:=m_;clear m_;have m_:Aside0 (w14.heap[gbo]? = some (.cells #[.string u0,.string u1,.int .i64 u2,.int .i64 u3,.int .i64 (ζm (u4 - n1)),.bool τ] 46 (0,0))):=⟨by rw [hw];exact δw BKo.out 5 _ rfl⟩;have no_:=m_;clear m_;clear BKt;have BKt:=nt_;clear nt_;clear BKo;have BKo:=no_;clear no_;clear hw;clear hzt_0 hft_0 hzt_1 hft_1 hzt_2 hft_2 hzt_3 hft_3;clear hzo_0 hfo_0 hzo_1 hfo_1 hzo_2 hfo_2 hzo_3 hfo_3 hzo_4 hfo_4 hzo_5 hfo_5;have hzt_0:=(δl BKt.out 0).trans rfl;have hzt_1:=(δl BKt.out 1).trans rfl;have hzt_2:=(δl BKt.out 2).trans rfl;have hzt_3:=(δl BKt.out 3).trans rfl;have hft_0:=δm BKt.out 0;have hft_1:=δm BKt.out 1;have hft_2:=δm BKt.out 2;have hft_3:=δm BKt.out 3;have hzo_0:=(δl BKo.out 0).trans rfl;have hzo_1:=(δl BKo.out 1).trans rfl;have hzo_2:=(δl BKo.out 2).trans rfl;have hzo_3:=(δl BKo.out 3).trans rfl;have hzo_4:=(δl BKo.out 4).trans rfl;have hzo_5:=(δl BKo.out 5).trans rfl;have hfo_0:=δm BKo.out 0;have hfo_1:=δm BKo.out 1;have hfo_2:=δm BKo.out 2;have hfo_3:=δm BKo.out 3;have hfo_4:=δm BKo.out 4;have hfo_5:=δm BKo.out 5))
      have HBr:=ζa HB14.out
      go_region_held3 (fun w'=>w'.cell? ⟨gbt,0,none⟩=some (.string t0)∧w'.cell? ⟨gbt,1,none⟩=some (.string t1)∧w'.cell? ⟨gbt,2,none⟩=some (.string t2)∧w'.cell? ⟨gbt,3,none⟩=some (.int .i64 t3)∧w'.cell? ⟨gbo,0,none⟩=some (.string u0)∧w'.cell? ⟨gbo,1,none⟩=some (.string u1)∧w'.cell? ⟨gbo,2,none⟩=some (.int .i64 u2)∧w'.cell? ⟨gbo,3,none⟩=some (.int .i64 u3)∧w'.cell? ⟨gbo,4,none⟩=some (.int .i64 (ζm (u4 - n1)))∧w'.cell? ⟨gbo,5,none⟩=some (.bool τ)) (first|go_keep|exact ⟨(δl (by repeat (exact BKt.out)) 0).trans rfl,(δl (by repeat (exact BKt.out)) 1).trans rfl,(δl (by repeat (exact BKt.out)) 2).trans rfl,(δl (by repeat (exact BKt.out)) 3).trans rfl,(δl (by repeat (exact BKo.out)) 0).trans rfl,(δl (by repeat (exact BKo.out)) 1).trans rfl,(δl (by repeat (exact BKo.out)) 2).trans rfl,(δl (by repeat (exact BKo.out)) 3).trans rfl,(δl (by repeat (exact BKo.out)) 4).trans rfl,(δl (by repeat (exact BKo.out)) 5).trans rfl⟩)
       (first
        | (go_at_call 36;refine (impl_move.calls k ((⟨#[111,114,100,101,114,115]⟩:ByteArray)) t2 name n1 _ (HT0.out.below (by repeat (first|exact HBr.out|apply δk|apply δj|apply δi)))).mono ?_;rintro e w16 ⟨g_m,lb_m,rfl,hch,hb⟩;replace BKt:=ζa (blk_below (by repeat (first|exact BKt.out|apply δo|apply δp|apply δn)) hb);replace BKo:=ζa (blk_below (by repeat (first|exact BKo.out|apply δo|apply δp|apply δn)) hb);(try (replace CH_m:=ζa (CH_m.out.below (δr (by repeat (first|exact Below.refl _ _|apply δk|apply δj|apply δi)) hb))));(try (replace CH_p:=ζa (CH_p.out.below (δr (by repeat (first|exact Below.refl _ _|apply δk|apply δj|apply δi)) hb))));replace HBr:=ζa (δr (by repeat (first|exact HBr.out|apply δk|apply δj|apply δi)) hb);have CH_m:=ζa hch;have eg_m : ∀ args w,(callFunc g_m args).run Tryz.prog w = .ok (.enter g_m args) w:=hch.enters;clear hch hb)
        | (go_at_call 37;refine (impl_putOrder.calls k u0 u1 u2 u3 (ζm (u4 - n1)) τ _ (HT0.out.below (by repeat (first|exact HBr.out|apply δk|apply δj|apply δi)))).mono ?_;rintro e w17 ⟨g_p,lb_p,rfl,hch,hb⟩;replace BKt:=ζa (blk_below (by repeat (first|exact BKt.out|apply δo|apply δp|apply δn)) hb);replace BKo:=ζa (blk_below (by repeat (first|exact BKo.out|apply δo|apply δp|apply δn)) hb);(try (replace CH_m:=ζa (CH_m.out.below (δr (by repeat (first|exact Below.refl _ _|apply δk|apply δj|apply δi)) hb))));(try (replace CH_p:=ζa (CH_p.out.below (δr (by repeat (first|exact Below.refl _ _|apply δk|apply δj|apply δi)) hb))));replace HBr:=ζa (δr (by repeat (first|exact HBr.out|apply δk|apply δj|apply δi)) hb);have CH_p:=ζa hch;have eg_p : ∀ args w,(callFunc g_p args).run Tryz.prog w = .ok (.enter g_p args) w:=hch.enters;clear hch hb)
        | (go_at_call 35;refine (impl_all.calls k A_list c_list list _ _ [(g_m,lb_m),(g_p,lb_p)] [(impl_move.F k (⟨#[111,114,100,101,114,115]⟩:ByteArray) t2 name n1),(impl_putOrder.F k u0 u1 u2 u3 (ζm (u4 - n1)) τ)] o1 c1 _ (by repeat (first|exact Kd.C_below HR0_list.out HBr.out|apply Kd.C_alloc|apply Kd.C_drew|apply Kd.C_drewN)) HC0_list.out (rowF _ (show 2≤1000 by decide) (heap_alloc_new _ _)) rfl (chg_cons (CH_m.out.below (by repeat (first|exact Below.refl _ _|apply δk|apply δj|apply δi))).chg (chg_cons (CH_p.out.below (by repeat (first|exact Below.refl _ _|apply δk|apply δj|apply δi))).chg chg_nil)) H15.out).mono ?_;rintro e w15 ⟨v15,rfl,ho,hb⟩;have ho':=Kd.R_lower ho (Below.size (show Below w.heap.size w _ from by repeat (first|exact HBr.out|apply δk|apply δj|apply δi)));obtain ⟨adr15,cap15,rfl,hl15,hq15⟩:=Kd.R_reads ho';have HC15:=ζa hl15;have HRn15:=ζa hq15;have HOn15:=ζa ho';clear hl15 hq15 ho ho';replace BKt:=ζa (blk_below (by repeat (first|exact BKt.out|apply δo|apply δp|apply δn)) hb);replace BKo:=ζa (blk_below (by repeat (first|exact BKo.out|apply δo|apply δp|apply δn)) hb);(try (replace CH_m:=ζa (CH_m.out.below (δr (by repeat (first|exact Below.refl _ _|apply δk|apply δj|apply δi)) hb))));(try (replace CH_p:=ζa (CH_p.out.below (δr (by repeat (first|exact Below.refl _ _|apply δk|apply δj|apply δi)) hb))));replace HBr:=ζa (δr (by repeat (first|exact HBr.out|apply δk|apply δj|apply δi)) hb);clear hb))
      all_goals
       clear hzt_0 hft_0 hzt_1 hft_1 hzt_2 hft_2 hzt_3 hft_3
       clear hzo_0 hfo_0 hzo_1 hfo_1 hzo_2 hfo_2 hzo_3 hfo_3 hzo_4 hfo_4 hzo_5 hfo_5
       have hzt_0:=(δl BKt.out 0).trans rfl
       have hft_0:=δm BKt.out 0
       have hzt_1:=(δl BKt.out 1).trans rfl
       have hft_1:=δm BKt.out 1
       have hzt_2:=(δl BKt.out 2).trans rfl
       have hft_2:=δm BKt.out 2
       have hzt_3:=(δl BKt.out 3).trans rfl
       have hft_3:=δm BKt.out 3
       have hzo_0:=(δl BKo.out 0).trans rfl
       have hfo_0:=δm BKo.out 0
       have hzo_1:=(δl BKo.out 1).trans rfl
       have hfo_1:=δm BKo.out 1
       have hzo_2:=(δl BKo.out 2).trans rfl
       have hfo_2:=δm BKo.out 2
       have hzo_3:=(δl BKo.out 3).trans rfl
       have hfo_3:=δm BKo.out 3
       have hzo_4:=(δl BKo.out 4).trans rfl
       have hfo_4:=δm BKo.out 4
       have hzo_5:=(δl BKo.out 5).trans rfl
       have hfo_5:=δm BKo.out 5
       have h:=HH.out
       clear HH
       by_cases cc18:c1=0
       ·
        rw [if_pos cc18] at h
        have HH:=ζa h
        clear h
        have f18a:(c1 == 0)=τ:=beq_iff_eq.mpr cc18
        have f18b:(c1 != 0)=φ:=bne_eq_false_iff_eq.mpr cc18
        have C18:=ζa cc18
        clear cc18
        have h:=HH.out
        clear HH
        simp only [Option.some.injEq,Prod.mk.injEq] at h
        obtain ⟨rfl,rfl⟩:=h
        go_wp2
        go_ret2
        exact ⟨_,rfl,(by repeat (exact HOn15.out)),(by repeat (exact HBr.out))⟩
       ·
        rw [if_neg cc18] at h
        have HH:=ζa h
        clear h
        have f18a:(c1 == 0)=φ:=beq_eq_false_iff_ne.mpr cc18
        have f18b:(c1 != 0)=τ:=bne_iff_ne.mpr cc18
        have C18:=ζa cc18
        clear cc18
        have h:=HH.out
        clear HH
        simp only [Option.some.injEq,Prod.mk.injEq] at h
        obtain ⟨rfl,rfl⟩:=h
        go_wp2
        go_ret2
        exact ⟨_,rfl,(by repeat (exact HOn15.out)),(by repeat (exact HBr.out))⟩
     ·
      rw [if_neg cc12] at h
      have HH:=ζa h
      clear h
      have f12a:decide (0<ζm (u4 - n1))=φ:=decide_eq_false cc12
      have C12:=ζa cc12
      clear cc12
      have h:=HH.out
      clear HH
      obtain ⟨⟨o1,c1⟩,h21_,h⟩:=Option.bind_eq_some_iff.mp h
      have HH:=ζa h
      have H21:=ζa h21_
      clear h h21_
      go_wp2_with (first|((with_reducible refine gate_store (t:=3) (p:=57) rfl ?_);refine store_event (t:=3) (p:=57) (v:=?vo19) (w1:=(w10.setCell ⟨gbo,4,none⟩ (.int .i64 (ζm (u4 - n1))))) ?hg ?ho ?hn ?hr ?_;(case ho=>rfl);(case hg=>rfl);(case hn=>rfl);(case hr=>(go_simp;done));intro w19 hw;have HB19:Aside0 (Below w.heap.size w w19):=⟨by rw [hw];exact δq HB10.out GWo.out⟩;have m_:Aside0 (w19.heap[gbt]? = some (.cells #[.string t0,.string t1,.string t2,.int .i64 t3] 60 (0,0))):=⟨by rw [hw];exact blk_far BKt.out (blk_ne BKt.out BKo.out (by decide)) _⟩;have nt_:=m_;clear m_;have m_:Aside0 (w19.heap[gbo]? = some (.cells #[.string u0,.string u1,.int .i64 u2,.int .i64 u3,.int .i64 (ζm (u4 - n1)),.bool u5] 46 (0,0))):=⟨by rw [hw];exact δw BKo.out 4 _ rfl⟩;have no_:=m_;clear m_;clear BKt;have BKt:=nt_;clear nt_;clear BKo;have BKo:=no_;clear no_;clear hw;clear hzt_0 hft_0 hzt_1 hft_1 hzt_2 hft_2 hzt_3 hft_3;clear hzo_0 hfo_0 hzo_1 hfo_1 hzo_2 hfo_2 hzo_3 hfo_3 hzo_4 hfo_4 hzo_5 hfo_5;have hzt_0:=(δl BKt.out 0).trans rfl;have hzt_1:=(δl BKt.out 1).trans rfl;have hzt_2:=(δl BKt.out 2).trans rfl;have hzt_3:=(δl BKt.out 3).trans rfl;have hft_0:=δm BKt.out 0;have hft_1:=δm BKt.out 1;have hft_2:=δm BKt.out 2;have hft_3:=δm BKt.out 3;have hzo_0:=(δl BKo.out 0).trans rfl;have hzo_1:=(δl BKo.out 1).trans rfl;have hzo_2:=(δl BKo.out 2).trans rfl;have hzo_3:=(δl BKo.out 3).trans rfl;have hzo_4:=(δl BKo.out 4).trans rfl;have hzo_5:=(δl BKo.out 5).trans rfl;have hfo_0:=δm BKo.out 0;have hfo_1:=δm BKo.out 1;have hfo_2:=δm BKo.out 2;have hfo_3:=δm BKo.out 3;have hfo_4:=δm BKo.out 4;have hfo_5:=δm BKo.out 5)|((with_reducible refine gate_store (t:=4) (p:=61) rfl ?_);refine store_event (t:=4) (p:=61) (v:=?vo20) (w1:=(w19.setCell ⟨gbo,5,none⟩ (.bool φ))) ?hg ?ho ?hn ?hr ?_;(case ho=>rfl);(case hg=>rfl);(case hn=>rfl);(case hr=>(go_simp;done));intro w20 hw;have HB20:Aside0 (Below w.heap.size w w20):=⟨by rw [hw];exact δq HB19.out GWo.out⟩;have m_:Aside0 (w20.heap[gbt]? = some (.cells #[.string t0,.string t1,.string t2,.int .i64 t3] 60 (0,0))):=⟨by rw [hw];exact blk_far BKt.out (blk_ne BKt.out BKo.out (by decide)) _⟩;have nt_:=m_;clear m_;have m_:Aside0 (w20.heap[gbo]? = some (.cells #[.string u0,.string u1,.int .i64 u2,.int .i64 u3,.int .i64 (ζm (u4 - n1)),.bool φ] 46 (0,0))):=⟨by rw [hw];exact δw BKo.out 5 _ rfl⟩;have no_:=m_;clear m_;clear BKt;have BKt:=nt_;clear nt_;clear BKo;have BKo:=no_;clear no_;clear hw;clear hzt_0 hft_0 hzt_1 hft_1 hzt_2 hft_2 hzt_3 hft_3;clear hzo_0 hfo_0 hzo_1 hfo_1 hzo_2 hfo_2 hzo_3 hfo_3 hzo_4 hfo_4 hzo_5 hfo_5;have hzt_0:=(δl BKt.out 0).trans rfl;have hzt_1:=(δl BKt.out 1).trans rfl;have hzt_2:=(δl BKt.out 2).trans rfl;have hzt_3:=(δl BKt.out 3).trans rfl;have hft_0:=δm BKt.out 0;have hft_1:=δm BKt.out 1;have hft_2:=δm BKt.out 2;have hft_3:=δm BKt.out 3;have hzo_0:=(δl BKo.out 0).trans rfl;have hzo_1:=(δl BKo.out 1).trans rfl;have hzo_2:=(δl BKo.out 2).trans rfl;have hzo_3:=(δl BKo.out 3).trans rfl;have hzo_4:=(δl BKo.out 4).trans rfl;have hzo_5:=(δl BKo.out 5).trans rfl;have hfo_0:=δm BKo.out 0;have hfo_1:=δm BKo.out 1;have hfo_2:=δm BKo.out 2;have hfo_3:=δm BKo.out 3;have hfo_4:=δm BKo.out 4;have hfo_5:=δm BKo.out 5))
      have HBr:=ζa HB20.out
      go_region_held3 (fun w'=>w'.cell? ⟨gbt,0,none⟩=some (.string t0)∧w'.cell? ⟨gbt,1,none⟩=some (.string t1)∧w'.cell? ⟨gbt,2,none⟩=some (.string t2)∧w'.cell? ⟨gbt,3,none⟩=some (.int .i64 t3)∧w'.cell? ⟨gbo,0,none⟩=some (.string u0)∧w'.cell? ⟨gbo,1,none⟩=some (.string u1)∧w'.cell? ⟨gbo,2,none⟩=some (.int .i64 u2)∧w'.cell? ⟨gbo,3,none⟩=some (.int .i64 u3)∧w'.cell? ⟨gbo,4,none⟩=some (.int .i64 (ζm (u4 - n1)))∧w'.cell? ⟨gbo,5,none⟩=some (.bool φ)) (first|go_keep|exact ⟨(δl (by repeat (exact BKt.out)) 0).trans rfl,(δl (by repeat (exact BKt.out)) 1).trans rfl,(δl (by repeat (exact BKt.out)) 2).trans rfl,(δl (by repeat (exact BKt.out)) 3).trans rfl,(δl (by repeat (exact BKo.out)) 0).trans rfl,(δl (by repeat (exact BKo.out)) 1).trans rfl,(δl (by repeat (exact BKo.out)) 2).trans rfl,(δl (by repeat (exact BKo.out)) 3).trans rfl,(δl (by repeat (exact BKo.out)) 4).trans rfl,(δl (by repeat (exact BKo.out)) 5).trans rfl⟩)
       (first
        | (go_at_call 36;refine (impl_move.calls k ((⟨#[111,114,100,101,114,115]⟩:ByteArray)) t2 name n1 _ (HT0.out.below (by repeat (first|exact HBr.out|apply δk|apply δj|apply δi)))).mono ?_;rintro e w22 ⟨g_m,lb_m,rfl,hch,hb⟩;replace BKt:=ζa (blk_below (by repeat (first|exact BKt.out|apply δo|apply δp|apply δn)) hb);replace BKo:=ζa (blk_below (by repeat (first|exact BKo.out|apply δo|apply δp|apply δn)) hb);(try (replace CH_m:=ζa (CH_m.out.below (δr (by repeat (first|exact Below.refl _ _|apply δk|apply δj|apply δi)) hb))));(try (replace CH_p:=ζa (CH_p.out.below (δr (by repeat (first|exact Below.refl _ _|apply δk|apply δj|apply δi)) hb))));replace HBr:=ζa (δr (by repeat (first|exact HBr.out|apply δk|apply δj|apply δi)) hb);have CH_m:=ζa hch;have eg_m : ∀ args w,(callFunc g_m args).run Tryz.prog w = .ok (.enter g_m args) w:=hch.enters;clear hch hb)
        | (go_at_call 37;refine (impl_putOrder.calls k u0 u1 u2 u3 (ζm (u4 - n1)) φ _ (HT0.out.below (by repeat (first|exact HBr.out|apply δk|apply δj|apply δi)))).mono ?_;rintro e w23 ⟨g_p,lb_p,rfl,hch,hb⟩;replace BKt:=ζa (blk_below (by repeat (first|exact BKt.out|apply δo|apply δp|apply δn)) hb);replace BKo:=ζa (blk_below (by repeat (first|exact BKo.out|apply δo|apply δp|apply δn)) hb);(try (replace CH_m:=ζa (CH_m.out.below (δr (by repeat (first|exact Below.refl _ _|apply δk|apply δj|apply δi)) hb))));(try (replace CH_p:=ζa (CH_p.out.below (δr (by repeat (first|exact Below.refl _ _|apply δk|apply δj|apply δi)) hb))));replace HBr:=ζa (δr (by repeat (first|exact HBr.out|apply δk|apply δj|apply δi)) hb);have CH_p:=ζa hch;have eg_p : ∀ args w,(callFunc g_p args).run Tryz.prog w = .ok (.enter g_p args) w:=hch.enters;clear hch hb)
        | (go_at_call 35;refine (impl_all.calls k A_list c_list list _ _ [(g_m,lb_m),(g_p,lb_p)] [(impl_move.F k (⟨#[111,114,100,101,114,115]⟩:ByteArray) t2 name n1),(impl_putOrder.F k u0 u1 u2 u3 (ζm (u4 - n1)) φ)] o1 c1 _ (by repeat (first|exact Kd.C_below HR0_list.out HBr.out|apply Kd.C_alloc|apply Kd.C_drew|apply Kd.C_drewN)) HC0_list.out (rowF _ (show 2≤1000 by decide) (heap_alloc_new _ _)) rfl (chg_cons (CH_m.out.below (by repeat (first|exact Below.refl _ _|apply δk|apply δj|apply δi))).chg (chg_cons (CH_p.out.below (by repeat (first|exact Below.refl _ _|apply δk|apply δj|apply δi))).chg chg_nil)) H21.out).mono ?_;rintro e w21 ⟨v21,rfl,ho,hb⟩;have ho':=Kd.R_lower ho (Below.size (show Below w.heap.size w _ from by repeat (first|exact HBr.out|apply δk|apply δj|apply δi)));obtain ⟨adr21,cap21,rfl,hl21,hq21⟩:=Kd.R_reads ho';have HC21:=ζa hl21;have HRn21:=ζa hq21;have HOn21:=ζa ho';clear hl21 hq21 ho ho';replace BKt:=ζa (blk_below (by repeat (first|exact BKt.out|apply δo|apply δp|apply δn)) hb);replace BKo:=ζa (blk_below (by repeat (first|exact BKo.out|apply δo|apply δp|apply δn)) hb);(try (replace CH_m:=ζa (CH_m.out.below (δr (by repeat (first|exact Below.refl _ _|apply δk|apply δj|apply δi)) hb))));(try (replace CH_p:=ζa (CH_p.out.below (δr (by repeat (first|exact Below.refl _ _|apply δk|apply δj|apply δi)) hb))));replace HBr:=ζa (δr (by repeat (first|exact HBr.out|apply δk|apply δj|apply δi)) hb);clear hb))
      all_goals
       clear hzt_0 hft_0 hzt_1 hft_1 hzt_2 hft_2 hzt_3 hft_3
       clear hzo_0 hfo_0 hzo_1 hfo_1 hzo_2 hfo_2 hzo_3 hfo_3 hzo_4 hfo_4 hzo_5 hfo_5
       have hzt_0:=(δl BKt.out 0).trans rfl
       have hft_0:=δm BKt.out 0
       have hzt_1:=(δl BKt.out 1).trans rfl
       have hft_1:=δm BKt.out 1
       have hzt_2:=(δl BKt.out 2).trans rfl
       have hft_2:=δm BKt.out 2
       have hzt_3:=(δl BKt.out 3).trans rfl
       have hft_3:=δm BKt.out 3
       have hzo_0:=(δl BKo.out 0).trans rfl
       have hfo_0:=δm BKo.out 0
       have hzo_1:=(δl BKo.out 1).trans rfl
       have hfo_1:=δm BKo.out 1
       have hzo_2:=(δl BKo.out 2).trans rfl
       have hfo_2:=δm BKo.out 2
       have hzo_3:=(δl BKo.out 3).trans rfl
       have hfo_3:=δm BKo.out 3
       have hzo_4:=(δl BKo.out 4).trans rfl
       have hfo_4:=δm BKo.out 4
       have hzo_5:=(δl BKo.out 5).trans rfl
       have hfo_5:=δm BKo.out 5
       have h:=HH.out
       clear HH
       by_cases cc24:c1=0
       ·
        rw [if_pos cc24] at h
        have HH:=ζa h
        clear h
        have f24a:(c1 == 0)=τ:=beq_iff_eq.mpr cc24
        have f24b:(c1 != 0)=φ:=bne_eq_false_iff_eq.mpr cc24
        have C24:=ζa cc24
        clear cc24
        have h:=HH.out
        clear HH
        simp only [Option.some.injEq,Prod.mk.injEq] at h
        obtain ⟨rfl,rfl⟩:=h
        go_wp2
        go_ret2
        exact ⟨_,rfl,(by repeat (exact HOn21.out)),(by repeat (exact HBr.out))⟩
       ·
        rw [if_neg cc24] at h
        have HH:=ζa h
        clear h
        have f24a:(c1 == 0)=φ:=beq_eq_false_iff_ne.mpr cc24
        have f24b:(c1 != 0)=τ:=bne_iff_ne.mpr cc24
        have C24:=ζa cc24
        clear cc24
        have h:=HH.out
        clear HH
        simp only [Option.some.injEq,Prod.mk.injEq] at h
        obtain ⟨rfl,rfl⟩:=h
        go_wp2
        go_ret2
        exact ⟨_,rfl,(by repeat (exact HOn21.out)),(by repeat (exact HBr.out))⟩
    ·
     rw [if_neg cc11] at h
     have HH:=ζa h
     clear h
     have f11a:(c0 == 0)=φ:=beq_eq_false_iff_ne.mpr cc11
     have f11b:(c0 != 0)=τ:=bne_iff_ne.mpr cc11
     have C11:=ζa cc11
     clear cc11
     have h:=HH.out
     clear HH
     obtain ⟨o2,h25_,h⟩:=Option.bind_eq_some_iff.mp h
     have HH:=ζa h
     have H25:=ζa h25_
     clear h h25_
     go_wp2_with fail
     refine (slices_Clone_impl_Pair_impl_Pair.calls A_list c_list list o2 _ (by repeat (exact Kd.C_below HR0_list.out HB10.out)) HC0_list.out H25.out).mono ?_
     rintro e w25 ⟨v25,rfl,ho,hb⟩
     replace BKt:=ζa (blk_below (by repeat (exact BKt.out)) hb)
     replace BKo:=ζa (blk_below (by repeat (exact BKo.out)) hb)
     clear hzt_0 hft_0 hzt_1 hft_1 hzt_2 hft_2 hzt_3 hft_3
     clear hzo_0 hfo_0 hzo_1 hfo_1 hzo_2 hfo_2 hzo_3 hfo_3 hzo_4 hfo_4 hzo_5 hfo_5
     have ho':=Kd.R_lower ho (Below.size (show Below w.heap.size w _ from by repeat (exact HB10.out)))
     obtain ⟨adr25,cap25,rfl,hl25,hq25⟩:=Kd.R_reads ho'
     have HC25:=ζa hl25
     have HRn25:=ζa hq25
     have HOn25:=ζa ho'
     clear hl25 hq25 ho ho'
     have m_:=ζa (δr (by repeat (exact HB10.out)) hb)
     clear hb
     have HB25:=m_
     clear m_
     have hzt_0:=(δl BKt.out 0).trans rfl
     have hft_0:=δm BKt.out 0
     have hzt_1:=(δl BKt.out 1).trans rfl
     have hft_1:=δm BKt.out 1
     have hzt_2:=(δl BKt.out 2).trans rfl
     have hft_2:=δm BKt.out 2
     have hzt_3:=(δl BKt.out 3).trans rfl
     have hft_3:=δm BKt.out 3
     have hzo_0:=(δl BKo.out 0).trans rfl
     have hfo_0:=δm BKo.out 0
     have hzo_1:=(δl BKo.out 1).trans rfl
     have hfo_1:=δm BKo.out 1
     have hzo_2:=(δl BKo.out 2).trans rfl
     have hfo_2:=δm BKo.out 2
     have hzo_3:=(δl BKo.out 3).trans rfl
     have hfo_3:=δm BKo.out 3
     have hzo_4:=(δl BKo.out 4).trans rfl
     have hfo_4:=δm BKo.out 4
     have hzo_5:=(δl BKo.out 5).trans rfl
     have hfo_5:=δm BKo.out 5
     have h:=HH.out
     clear HH
     simp only [Option.some.injEq,Prod.mk.injEq] at h
     obtain ⟨rfl,rfl⟩:=h
     go_wp2
     go_ret2
     exact ⟨_,rfl,(by repeat (exact HOn25.out)),(by repeat (exact HB25.out))⟩
   ·
    rw [if_neg cc7] at h
    have HH:=ζa h
    clear h
    have f7a:(u1.toList == t1.toList)=φ:=beq_eq_false_iff_ne.mpr cc7
    have f7b:(u1.toList != t1.toList)=τ:=bne_iff_ne.mpr cc7
    have C7:=ζa cc7
    clear cc7
    have h:=HH.out
    clear HH
    obtain ⟨o2,h28_,h⟩:=Option.bind_eq_some_iff.mp h
    have HH:=ζa h
    have H28:=ζa h28_
    clear h h28_
    go_wp2_with (first|((with_reducible refine δx (N:=10) rfl ?_);refine bev 10 #[.string (⟨#[]⟩:ByteArray),.string (⟨#[]⟩:ByteArray),.int .i64 0,.int .i64 0,.int .i64 0,.bool φ] 46 ?_;intro gbo hg w26 hbox hb;have hbc:=δr (show Below w4.heap.size w4 _ from by repeat (exact Below.refl _ _)) hb;have GEo:Aside0 (w4.heap.size≤gbo):=⟨by rw [hg];exact Below.size (show Below w4.heap.size w4 _ from by repeat (exact Below.refl _ _))⟩;have GWo:Aside0 (w.heap.size≤gbo):=⟨Nat.le_trans HB4.out.size GEo.out⟩;have BKZ:=ζa hbox;have HBZ:=ζa hbc;have hzz:=hbox;clear hb hbc hbox hg;have hzo_0:=(δl BKZ.out 0).trans rfl;have hzo_1:=(δl BKZ.out 1).trans rfl;have hzo_2:=(δl BKZ.out 2).trans rfl;have hzo_3:=(δl BKZ.out 3).trans rfl;have hzo_4:=(δl BKZ.out 4).trans rfl;have hzo_5:=(δl BKZ.out 5).trans rfl;have hfo_0:=δm BKZ.out 0;have hfo_1:=δm BKZ.out 1;have hfo_2:=δm BKZ.out 2;have hfo_3:=δm BKZ.out 3;have hfo_4:=δm BKZ.out 4;have hfo_5:=δm BKZ.out 5;clear hzz)|((with_reducible refine gate_store (t:=46) (p:=10) rfl ?_);refine store_event (t:=46) (p:=10) (v:=?vo26) (w1:=((((((w26.setCell ⟨gbo,0,none⟩ (.string u0)).setCell ⟨gbo,1,none⟩ (.string u1)).setCell ⟨gbo,2,none⟩ (.int .i64 u2)).setCell ⟨gbo,3,none⟩ (.int .i64 u3)).setCell ⟨gbo,4,none⟩ (.int .i64 u4)).setCell ⟨gbo,5,none⟩ (.bool u5))) ?hg ?ho ?hn ?hr ?_;(case ho=>rfl);(case hg=>rfl);(case hn=>rfl);(case hr=>(go_simp;done));intro w27 hw;have hbc:Below w4.heap.size w4 w27:=(by rw [hw];exact (δq (δq (δq (δq (δq (δq HBZ.out GEo.out) GEo.out) GEo.out) GEo.out) GEo.out) GEo.out));have BKo:Aside0 (w27.heap[gbo]? = some (.cells #[.string u0,.string u1,.int .i64 u2,.int .i64 u3,.int .i64 u4,.bool u5] 46 (0,0))):=⟨by rw [hw];exact (δw (δw (δw (δw (δw (δw BKZ.out 0 _ rfl) 1 _ rfl) 2 _ rfl) 3 _ rfl) 4 _ rfl) 5 _ rfl)⟩;replace BKt:=ζa (blk_below (by repeat (exact BKt.out)) hbc);have HB26:=ζa (δr HB4.out hbc);clear hbc hw BKZ HBZ;clear hzo_0 hfo_0 hzo_1 hfo_1 hzo_2 hfo_2 hzo_3 hfo_3 hzo_4 hfo_4 hzo_5 hfo_5;clear hzt_0 hft_0 hzt_1 hft_1 hzt_2 hft_2 hzt_3 hft_3;have hzt_0:=(δl BKt.out 0).trans rfl;have hzt_1:=(δl BKt.out 1).trans rfl;have hzt_2:=(δl BKt.out 2).trans rfl;have hzt_3:=(δl BKt.out 3).trans rfl;have hft_0:=δm BKt.out 0;have hft_1:=δm BKt.out 1;have hft_2:=δm BKt.out 2;have hft_3:=δm BKt.out 3;have hzo_0:=(δl BKo.out 0).trans rfl;have hzo_1:=(δl BKo.out 1).trans rfl;have hzo_2:=(δl BKo.out 2).trans rfl;have hzo_3:=(δl BKo.out 3).trans rfl;have hzo_4:=(δl BKo.out 4).trans rfl;have hzo_5:=(δl BKo.out 5).trans rfl;have hfo_0:=δm BKo.out 0;have hfo_1:=δm BKo.out 1;have hfo_2:=δm BKo.out 2;have hfo_3:=δm BKo.out 3;have hfo_4:=δm BKo.out 4;have hfo_5:=δm BKo.out 5))
    refine (slices_Clone_impl_Pair_impl_Pair.calls A_list c_list list o2 _ (by repeat (exact Kd.C_below HR0_list.out HB26.out)) HC0_list.out H28.out).mono ?_
    rintro e w28 ⟨v28,rfl,ho,hb⟩
    replace BKt:=ζa (blk_below (by repeat (exact BKt.out)) hb)
    replace BKo:=ζa (blk_below (by repeat (exact BKo.out)) hb)
    clear hzt_0 hft_0 hzt_1 hft_1 hzt_2 hft_2 hzt_3 hft_3
    clear hzo_0 hfo_0 hzo_1 hfo_1 hzo_2 hfo_2 hzo_3 hfo_3 hzo_4 hfo_4 hzo_5 hfo_5
    have ho':=Kd.R_lower ho (Below.size (show Below w.heap.size w _ from by repeat (exact HB26.out)))
    obtain ⟨adr28,cap28,rfl,hl28,hq28⟩:=Kd.R_reads ho'
    have HC28:=ζa hl28
    have HRn28:=ζa hq28
    have HOn28:=ζa ho'
    clear hl28 hq28 ho ho'
    have m_:=ζa (δr (by repeat (exact HB26.out)) hb)
    clear hb
    have HB28:=m_
    clear m_
    have hzt_0:=(δl BKt.out 0).trans rfl
    have hft_0:=δm BKt.out 0
    have hzt_1:=(δl BKt.out 1).trans rfl
    have hft_1:=δm BKt.out 1
    have hzt_2:=(δl BKt.out 2).trans rfl
    have hft_2:=δm BKt.out 2
    have hzt_3:=(δl BKt.out 3).trans rfl
    have hft_3:=δm BKt.out 3
    have hzo_0:=(δl BKo.out 0).trans rfl
    have hfo_0:=δm BKo.out 0
    have hzo_1:=(δl BKo.out 1).trans rfl
    have hfo_1:=δm BKo.out 1
    have hzo_2:=(δl BKo.out 2).trans rfl
    have hfo_2:=δm BKo.out 2
    have hzo_3:=(δl BKo.out 3).trans rfl
    have hfo_3:=δm BKo.out 3
    have hzo_4:=(δl BKo.out 4).trans rfl
    have hfo_4:=δm BKo.out 4
    have hzo_5:=(δl BKo.out 5).trans rfl
    have hfo_5:=δm BKo.out 5
    have h:=HH.out
    clear HH
    simp only [Option.some.injEq,Prod.mk.injEq] at h
    obtain ⟨rfl,rfl⟩:=h
    go_wp2
    go_ret2
    exact ⟨_,rfl,(by repeat (first|exact HOn28.out|apply ζd|apply ζe|apply ζc)),(by repeat (first|exact HB28.out|apply δk|apply δj|apply δi))⟩
  | false =>
   rw [if_neg (by decide)] at h
   have HH:=ζa h
   clear h
   have h:=HH.out
   clear HH
   obtain ⟨o2,h31_,h⟩:=Option.bind_eq_some_iff.mp h
   have HH:=ζa h
   have H31:=ζa h31_
   clear h h31_
   go_wp2_with (first|((with_reducible refine δx (N:=10) rfl ?_);refine bev 10 #[.string (⟨#[]⟩:ByteArray),.string (⟨#[]⟩:ByteArray),.int .i64 0,.int .i64 0,.int .i64 0,.bool φ] 46 ?_;intro gbo hg w29 hbox hb;have hbc:=δr (show Below w4.heap.size w4 _ from by repeat (exact Below.refl _ _)) hb;have GEo:Aside0 (w4.heap.size≤gbo):=⟨by rw [hg];exact Below.size (show Below w4.heap.size w4 _ from by repeat (exact Below.refl _ _))⟩;have GWo:Aside0 (w.heap.size≤gbo):=⟨Nat.le_trans HB4.out.size GEo.out⟩;have BKZ:=ζa hbox;have HBZ:=ζa hbc;have hzz:=hbox;clear hb hbc hbox hg;have hzo_0:=(δl BKZ.out 0).trans rfl;have hzo_1:=(δl BKZ.out 1).trans rfl;have hzo_2:=(δl BKZ.out 2).trans rfl;have hzo_3:=(δl BKZ.out 3).trans rfl;have hzo_4:=(δl BKZ.out 4).trans rfl;have hzo_5:=(δl BKZ.out 5).trans rfl;have hfo_0:=δm BKZ.out 0;have hfo_1:=δm BKZ.out 1;have hfo_2:=δm BKZ.out 2;have hfo_3:=δm BKZ.out 3;have hfo_4:=δm BKZ.out 4;have hfo_5:=δm BKZ.out 5;clear hzz)|((with_reducible refine gate_store (t:=46) (p:=10) rfl ?_);refine store_event (t:=46) (p:=10) (v:=?vo29) (w1:=((((((w29.setCell ⟨gbo,0,none⟩ (.string u0)).setCell ⟨gbo,1,none⟩ (.string u1)).setCell ⟨gbo,2,none⟩ (.int .i64 u2)).setCell ⟨gbo,3,none⟩ (.int .i64 u3)).setCell ⟨gbo,4,none⟩ (.int .i64 u4)).setCell ⟨gbo,5,none⟩ (.bool u5))) ?hg ?ho ?hn ?hr ?_;(case ho=>rfl);(case hg=>rfl);(case hn=>rfl);(case hr=>(go_simp;done));intro w30 hw;have hbc:Below w4.heap.size w4 w30:=(by rw [hw];exact (δq (δq (δq (δq (δq (δq HBZ.out GEo.out) GEo.out) GEo.out) GEo.out) GEo.out) GEo.out));have BKo:Aside0 (w30.heap[gbo]? = some (.cells #[.string u0,.string u1,.int .i64 u2,.int .i64 u3,.int .i64 u4,.bool u5] 46 (0,0))):=⟨by rw [hw];exact (δw (δw (δw (δw (δw (δw BKZ.out 0 _ rfl) 1 _ rfl) 2 _ rfl) 3 _ rfl) 4 _ rfl) 5 _ rfl)⟩;replace BKt:=ζa (blk_below (by repeat (exact BKt.out)) hbc);have HB29:=ζa (δr HB4.out hbc);clear hbc hw BKZ HBZ;clear hzo_0 hfo_0 hzo_1 hfo_1 hzo_2 hfo_2 hzo_3 hfo_3 hzo_4 hfo_4 hzo_5 hfo_5;clear hzt_0 hft_0 hzt_1 hft_1 hzt_2 hft_2 hzt_3 hft_3;have hzt_0:=(δl BKt.out 0).trans rfl;have hzt_1:=(δl BKt.out 1).trans rfl;have hzt_2:=(δl BKt.out 2).trans rfl;have hzt_3:=(δl BKt.out 3).trans rfl;have hft_0:=δm BKt.out 0;have hft_1:=δm BKt.out 1;have hft_2:=δm BKt.out 2;have hft_3:=δm BKt.out 3;have hzo_0:=(δl BKo.out 0).trans rfl;have hzo_1:=(δl BKo.out 1).trans rfl;have hzo_2:=(δl BKo.out 2).trans rfl;have hzo_3:=(δl BKo.out 3).trans rfl;have hzo_4:=(δl BKo.out 4).trans rfl;have hzo_5:=(δl BKo.out 5).trans rfl;have hfo_0:=δm BKo.out 0;have hfo_1:=δm BKo.out 1;have hfo_2:=δm BKo.out 2;have hfo_3:=δm BKo.out 3;have hfo_4:=δm BKo.out 4;have hfo_5:=δm BKo.out 5))
   refine (slices_Clone_impl_Pair_impl_Pair.calls A_list c_list list o2 _ (by repeat (exact Kd.C_below HR0_list.out HB29.out)) HC0_list.out H31.out).mono ?_
   rintro e w31 ⟨v31,rfl,ho,hb⟩
   replace BKt:=ζa (blk_below (by repeat (exact BKt.out)) hb)
   replace BKo:=ζa (blk_below (by repeat (exact BKo.out)) hb)
   clear hzt_0 hft_0 hzt_1 hft_1 hzt_2 hft_2 hzt_3 hft_3
   clear hzo_0 hfo_0 hzo_1 hfo_1 hzo_2 hfo_2 hzo_3 hfo_3 hzo_4 hfo_4 hzo_5 hfo_5
   have ho':=Kd.R_lower ho (Below.size (show Below w.heap.size w _ from by repeat (exact HB29.out)))
   obtain ⟨adr31,cap31,rfl,hl31,hq31⟩:=Kd.R_reads ho'
   have HC31:=ζa hl31
   have HRn31:=ζa hq31
   have HOn31:=ζa ho'
   clear hl31 hq31 ho ho'
   have m_:=ζa (δr (by repeat (exact HB29.out)) hb)
   clear hb
   have HB31:=m_
   clear m_
   have hzt_0:=(δl BKt.out 0).trans rfl
   have hft_0:=δm BKt.out 0
   have hzt_1:=(δl BKt.out 1).trans rfl
   have hft_1:=δm BKt.out 1
   have hzt_2:=(δl BKt.out 2).trans rfl
   have hft_2:=δm BKt.out 2
   have hzt_3:=(δl BKt.out 3).trans rfl
   have hft_3:=δm BKt.out 3
   have hzo_0:=(δl BKo.out 0).trans rfl
   have hfo_0:=δm BKo.out 0
   have hzo_1:=(δl BKo.out 1).trans rfl
   have hfo_1:=δm BKo.out 1
   have hzo_2:=(δl BKo.out 2).trans rfl
   have hfo_2:=δm BKo.out 2
   have hzo_3:=(δl BKo.out 3).trans rfl
   have hfo_3:=δm BKo.out 3
   have hzo_4:=(δl BKo.out 4).trans rfl
   have hfo_4:=δm BKo.out 4
   have hzo_5:=(δl BKo.out 5).trans rfl
   have hfo_5:=δm BKo.out 5
   have h:=HH.out
   clear HH
   simp only [Option.some.injEq,Prod.mk.injEq] at h
   obtain ⟨rfl,rfl⟩:=h
   go_wp2
   go_ret2
   exact ⟨_,rfl,(by repeat (first|exact HOn31.out|apply ζd|apply ζe|apply ζc)),(by repeat (first|exact HB31.out|apply δk|apply δj|apply δi))⟩
 | false =>
  rw [if_neg (by decide)] at h
  have HH:=ζa h
  clear h
  have h:=HH.out
  clear HH
  obtain ⟨o2,h34_,h⟩:=Option.bind_eq_some_iff.mp h
  have HH:=ζa h
  have H34:=ζa h34_
  clear h h34_
  go_wp2_with (first|((with_reducible refine δx (N:=10) rfl ?_);refine bev 10 #[.string (⟨#[]⟩:ByteArray),.string (⟨#[]⟩:ByteArray),.int .i64 0,.int .i64 0,.int .i64 0,.bool φ] 46 ?_;intro gbo hg w32 hbox hb;have hbc:=δr (show Below w4.heap.size w4 _ from by repeat (exact Below.refl _ _)) hb;have GEo:Aside0 (w4.heap.size≤gbo):=⟨by rw [hg];exact Below.size (show Below w4.heap.size w4 _ from by repeat (exact Below.refl _ _))⟩;have GWo:Aside0 (w.heap.size≤gbo):=⟨Nat.le_trans HB4.out.size GEo.out⟩;have BKZ:=ζa hbox;have HBZ:=ζa hbc;have hzz:=hbox;clear hb hbc hbox hg;have hzo_0:=(δl BKZ.out 0).trans rfl;have hzo_1:=(δl BKZ.out 1).trans rfl;have hzo_2:=(δl BKZ.out 2).trans rfl;have hzo_3:=(δl BKZ.out 3).trans rfl;have hzo_4:=(δl BKZ.out 4).trans rfl;have hzo_5:=(δl BKZ.out 5).trans rfl;have hfo_0:=δm BKZ.out 0;have hfo_1:=δm BKZ.out 1;have hfo_2:=δm BKZ.out 2;have hfo_3:=δm BKZ.out 3;have hfo_4:=δm BKZ.out 4;have hfo_5:=δm BKZ.out 5;clear hzz)|((with_reducible refine gate_store (t:=46) (p:=10) rfl ?_);refine store_event (t:=46) (p:=10) (v:=?vo32) (w1:=((((((w32.setCell ⟨gbo,0,none⟩ (.string u0)).setCell ⟨gbo,1,none⟩ (.string u1)).setCell ⟨gbo,2,none⟩ (.int .i64 u2)).setCell ⟨gbo,3,none⟩ (.int .i64 u3)).setCell ⟨gbo,4,none⟩ (.int .i64 u4)).setCell ⟨gbo,5,none⟩ (.bool u5))) ?hg ?ho ?hn ?hr ?_;(case ho=>rfl);(case hg=>rfl);(case hn=>rfl);(case hr=>(go_simp;done));intro w33 hw;have hbc:Below w4.heap.size w4 w33:=(by rw [hw];exact (δq (δq (δq (δq (δq (δq HBZ.out GEo.out) GEo.out) GEo.out) GEo.out) GEo.out) GEo.out));have BKo:Aside0 (w33.heap[gbo]? = some (.cells #[.string u0,.string u1,.int .i64 u2,.int .i64 u3,.int .i64 u4,.bool u5] 46 (0,0))):=⟨by rw [hw];exact (δw (δw (δw (δw (δw (δw BKZ.out 0 _ rfl) 1 _ rfl) 2 _ rfl) 3 _ rfl) 4 _ rfl) 5 _ rfl)⟩;replace BKt:=ζa (blk_below (by repeat (exact BKt.out)) hbc);have HB32:=ζa (δr HB4.out hbc);clear hbc hw BKZ HBZ;clear hzo_0 hfo_0 hzo_1 hfo_1 hzo_2 hfo_2 hzo_3 hfo_3 hzo_4 hfo_4 hzo_5 hfo_5;clear hzt_0 hft_0 hzt_1 hft_1 hzt_2 hft_2 hzt_3 hft_3;have hzt_0:=(δl BKt.out 0).trans rfl;have hzt_1:=(δl BKt.out 1).trans rfl;have hzt_2:=(δl BKt.out 2).trans rfl;have hzt_3:=(δl BKt.out 3).trans rfl;have hft_0:=δm BKt.out 0;have hft_1:=δm BKt.out 1;have hft_2:=δm BKt.out 2;have hft_3:=δm BKt.out 3;have hzo_0:=(δl BKo.out 0).trans rfl;have hzo_1:=(δl BKo.out 1).trans rfl;have hzo_2:=(δl BKo.out 2).trans rfl;have hzo_3:=(δl BKo.out 3).trans rfl;have hzo_4:=(δl BKo.out 4).trans rfl;have hzo_5:=(δl BKo.out 5).trans rfl;have hfo_0:=δm BKo.out 0;have hfo_1:=δm BKo.out 1;have hfo_2:=δm BKo.out 2;have hfo_3:=δm BKo.out 3;have hfo_4:=δm BKo.out 4;have hfo_5:=δm BKo.out 5))
  refine (slices_Clone_impl_Pair_impl_Pair.calls A_list c_list list o2 _ (by repeat (exact Kd.C_below HR0_list.out HB32.out)) HC0_list.out H34.out).mono ?_
  rintro e w34 ⟨v34,rfl,ho,hb⟩
  replace BKt:=ζa (blk_below (by repeat (exact BKt.out)) hb)
  replace BKo:=ζa (blk_below (by repeat (exact BKo.out)) hb)
  clear hzt_0 hft_0 hzt_1 hft_1 hzt_2 hft_2 hzt_3 hft_3
  clear hzo_0 hfo_0 hzo_1 hfo_1 hzo_2 hfo_2 hzo_3 hfo_3 hzo_4 hfo_4 hzo_5 hfo_5
  have ho':=Kd.R_lower ho (Below.size (show Below w.heap.size w _ from by repeat (exact HB32.out)))
  obtain ⟨adr34,cap34,rfl,hl34,hq34⟩:=Kd.R_reads ho'
  have HC34:=ζa hl34
  have HRn34:=ζa hq34
  have HOn34:=ζa ho'
  clear hl34 hq34 ho ho'
  have m_:=ζa (δr (by repeat (exact HB32.out)) hb)
  clear hb
  have HB34:=m_
  clear m_
  have hzt_0:=(δl BKt.out 0).trans rfl
  have hft_0:=δm BKt.out 0
  have hzt_1:=(δl BKt.out 1).trans rfl
  have hft_1:=δm BKt.out 1
  have hzt_2:=(δl BKt.out 2).trans rfl
  have hft_2:=δm BKt.out 2
  have hzt_3:=(δl BKt.out 3).trans rfl
  have hft_3:=δm BKt.out 3
  have hzo_0:=(δl BKo.out 0).trans rfl
  have hfo_0:=δm BKo.out 0
  have hzo_1:=(δl BKo.out 1).trans rfl
  have hfo_1:=δm BKo.out 1
  have hzo_2:=(δl BKo.out 2).trans rfl
  have hfo_2:=δm BKo.out 2
  have hzo_3:=(δl BKo.out 3).trans rfl
  have hfo_3:=δm BKo.out 3
  have hzo_4:=(δl BKo.out 4).trans rfl
  have hfo_4:=δm BKo.out 4
  have hzo_5:=(δl BKo.out 5).trans rfl
  have hfo_5:=δm BKo.out 5
  have h:=HH.out
  clear HH
  simp only [Option.some.injEq,Prod.mk.injEq] at h
  obtain ⟨rfl,rfl⟩:=h
  go_wp2
  go_ret2
  exact ⟨_,rfl,(by repeat (exact HOn34.out)),(by repeat (exact HB34.out))⟩


open Go.Proofs.YtjhhehjjnfnigaaGreatDoorW.PrintWords renaming gate_dst → δx, below_size → δs, below_step → δr, gate_callee → δv
open Go.Proofs.YtjhhehjjnfnigaaGreatDoorW.PrintWords.Kd renaming R_reads' → ζg, R_below → ζh
open Bool renaming false → φ
set_option maxHeartbeats 8000000
set_option maxRecDepth 100000

/-! ### impl_TakeOrder: function 7 -/
def impl_TakeOrder.f (k:Nat) (a0:ByteArray) (l1:List (S37)) (a2:ByteArray):Option ((List (S37)) × Bool × Int):=(impl_nameCode.f k a0 l1 (([a2]:List ByteArray))).bind fun t409=>(if t409=0 then ((impl_takeOrder.f k a0 l1 a2).bind fun bt410=>(some (bt410.1,bt410.2,0))) else (some (([]:List (S37)),φ,t409)))
theorem impl_TakeOrder.calls (k:Nat) (a0:ByteArray) (A1:Option Addr) (c1:Nat) (l1:List (S37)) (a2:ByteArray) (r1:List (S37)) (r2:Bool) (r3:Int) (w:World) (hr1:Kd.C k37 w A1 l1.length l1) (hc1:l1.length≤c1) (hT0:TabsOK w) (h:impl_TakeOrder.f k a0 l1 a2=some (r1,r2,r3)) :
  Calls Tryz.prog 7 #[.string a0,.slice A1 l1.length c1,.string a2] w fun e w' => ∃ v0_:Value,e = .returned (.tuple #[v0_,.bool r2,.int .i64 r3])∧Kd.R k37 37 w' w.heap.size (fun _=>True) v0_ r1∧Below w.heap.size w w':=by
 have HT0:=ζa hT0
 clear hT0
 have HR1:=ζa hr1
 have HC1:=ζa hc1
 clear hr1 hc1
 have HB:=ζa (Below.refl w.heap.size w)
 have H:((impl_nameCode.f k a0 l1 (([a2]:List ByteArray))).bind fun t409=>(if t409=0 then ((impl_takeOrder.f k a0 l1 a2).bind fun bt410=>(some (bt410.1,bt410.2,0))) else (some (([]:List (S37)),φ,t409))))=some (r1,r2,r3):=h
 clear h
 obtain ⟨y406,hy406⟩ : ∃ y_:List ByteArray,y_=(([a2]:List ByteArray)):=⟨_,rfl⟩
 replace H:((impl_nameCode.f k a0 l1 y406).bind fun t409=>(if t409=0 then ((impl_takeOrder.f k a0 l1 a2).bind fun bt410=>(some (bt410.1,bt410.2,0))) else (some (([]:List (S37)),φ,t409))))=some (r1,r2,r3):=by (rw [hy406];with_reducible exact H)
 have Ny406:=ζa hy406
 clear hy406
 obtain ⟨t409,A4,H⟩:=bsm H
 by_cases c5:t409=0
 ·
  rw [if_pos c5] at H
  have c5b0:=beq_iff_eq.mpr c5
  have c5b1:=bne_eq_false_iff_eq.mpr c5
  clear c5
  obtain ⟨⟨t410,t411⟩,A6,H⟩:=bsm H
  dsimp only at H
  simp only [Option.some.injEq,Prod.mk.injEq] at H
  obtain ⟨rfl,rfl,rfl⟩:=H
  go_enter Tryz.func7,Tryz.ntmps7
  go_wp2_with (first|((with_reducible refine δx (N:=15) rfl ?_);refine Kd.R_lit Kd.string _ 9 ?hg (N:=15) ?hd (xs:=([a2]:List ByteArray)) (inner:=[.string a2]) (ok:=fun _=>True) (okp:=fun _=>True) ?hr ?hp (fun _ hk=>hk) trivial (Below.refl _ _) (Nat.le_refl _) (by simp) ?_;(case hd=>rfl);(case hg=>rfl);(case hr=>(go_simp;done));(case hp=>exact (Reps.one (show Kd.M Kd.string _ _ _ a2 [.string a2] from rfl) (Reps.none _ _)));intro v407 w7 ho8 hb hg_ hnew_;clear hg_ hnew_;(rw [← Ny406.out] at ho8);have HO408:=ζa (Kd.R_lower ho8 (δs (by exact HB.out)));replace HB:=ζa (δr (by exact HB.out) hb);clear hb ho8;obtain ⟨Ao9,co9,eo9⟩:=Kd.R_slice HO408.out;subst eo9)|((with_reducible refine δv (f:=15) rfl ?_);refine gl 16 Tryz.func15 #[.string a0,.slice A1 l1.length c1,.slice Ao9 y406.length co9] ?_;(with_reducible refine (impl_nameCode.calls k a0 _ _ l1 _ _ y406 t409 _ ?side1 ?side2 ?side3 ?side4 A4.out).mono ?_);(case side1=>repeat (exact (Kd.C_below HR1.out HB.out)));(case side2=>exact HC1.out);(case side3=>repeat (exact (ζg HO408.out).2.2));(case side4=>exact (ζg HO408.out).2.1);rintro e w10 ⟨rfl,hb⟩;refine ⟨_,rfl,?_⟩;replace HO408:=ζa (ζh (by exact HO408.out) hb);replace HB:=ζa (δr (by exact HB.out) hb);(try clear hb);(try clear hb2);(try clear hk);(try clear hi))|((with_reducible refine δv (f:=16) rfl ?_);refine gl 24 Tryz.func16 #[.string a0,.slice A1 l1.length c1,.string a2] ?_;(with_reducible refine (impl_takeOrder.calls k a0 _ _ l1 a2 t410 t411 _ ?side1 ?side2 (HT0.out.below (by exact HB.out)) A6.out).mono ?_);(case side1=>repeat (exact (Kd.C_below HR1.out HB.out)));(case side2=>exact HC1.out);rintro e w11 ⟨v412,rfl,ho0,hb⟩;refine ⟨_,rfl,?_⟩;replace HO408:=ζa (ζh (by exact HO408.out) hb);have HO413:=ζa (Kd.R_lower ho0 (δs (by exact HB.out)));replace HB:=ζa (δr (by exact HB.out) hb);(try clear hb);(try clear hb2);(try clear hk);(try clear hi);(try clear ho0)))
  go_ret3
  exact ⟨_,by rfl,by exact HO413.out,by repeat ((with_reducible exact HB.out))⟩
 ·
  rw [if_neg c5] at H
  have c5b0:=beq_eq_false_iff_ne.mpr c5
  have c5b1:=bne_iff_ne.mpr c5
  simp only [Option.some.injEq,Prod.mk.injEq] at H
  obtain ⟨rfl,rfl,rfl⟩:=H
  go_enter Tryz.func7,Tryz.ntmps7
  go_wp2_with (first|((with_reducible refine δx (N:=15) rfl ?_);refine Kd.R_lit Kd.string _ 9 ?hg (N:=15) ?hd (xs:=([a2]:List ByteArray)) (inner:=[.string a2]) (ok:=fun _=>True) (okp:=fun _=>True) ?hr ?hp (fun _ hk=>hk) trivial (Below.refl _ _) (Nat.le_refl _) (by simp) ?_;(case hd=>rfl);(case hg=>rfl);(case hr=>(go_simp;done));(case hp=>exact (Reps.one (show Kd.M Kd.string _ _ _ a2 [.string a2] from rfl) (Reps.none _ _)));intro v407 w12 ho13 hb hg_ hnew_;clear hg_ hnew_;(rw [← Ny406.out] at ho13);have HO408:=ζa (Kd.R_lower ho13 (δs (by exact HB.out)));replace HB:=ζa (δr (by exact HB.out) hb);clear hb ho13;obtain ⟨Ao14,co14,eo14⟩:=Kd.R_slice HO408.out;subst eo14)|((with_reducible refine δv (f:=15) rfl ?_);refine gl 16 Tryz.func15 #[.string a0,.slice A1 l1.length c1,.slice Ao14 y406.length co14] ?_;(with_reducible refine (impl_nameCode.calls k a0 _ _ l1 _ _ y406 t409 _ ?side1 ?side2 ?side3 ?side4 A4.out).mono ?_);(case side1=>repeat (exact (Kd.C_below HR1.out HB.out)));(case side2=>exact HC1.out);(case side3=>repeat (exact (ζg HO408.out).2.2));(case side4=>exact (ζg HO408.out).2.1);rintro e w15 ⟨rfl,hb⟩;refine ⟨_,rfl,?_⟩;replace HO408:=ζa (ζh (by exact HO408.out) hb);replace HB:=ζa (δr (by exact HB.out) hb);(try clear hb);(try clear hb2);(try clear hk);(try clear hi)))
  go_ret3
  exact ⟨_,by rfl,by exact Kd.R_nil _ _ _ _ _,by repeat ((with_reducible exact HB.out))⟩


open Go.Proofs.YtjhhehjjnfnigaaGreatDoorW.PrintWords renaming gate_dst → δx, below_step → δr, blk_cell → δl, blk_frozen → δm
set_option maxHeartbeats 8000000
set_option maxRecDepth 100000

/-! ### laws_eqPair: function 17 -/
def laws_eqPair.f (a0_0:ByteArray) (a0_1:ByteArray) (a1_0:ByteArray) (a1_1:ByteArray):Option (Bool):=if a0_0.toList=a1_0.toList then (if a0_1.toList=a1_1.toList then (some τ) else (some φ)) else (some φ)
theorem laws_eqPair.calls (a0_0:ByteArray) (a0_1:ByteArray) (a1_0:ByteArray) (a1_1:ByteArray) (r:Bool) (w:World) (h:laws_eqPair.f a0_0 a0_1 a1_0 a1_1=some r) :
  Calls Tryz.prog 17 #[.agg #[.string a0_0,.string a0_1],.agg #[.string a1_0,.string a1_1]] w fun e w'=>e = .returned (.bool r)∧Below w.heap.size w w':=by
 have hu37:=Tryz.underlying37
 have HB:=ζa (Below.refl w.heap.size w)
 have H:(if a0_0.toList=a1_0.toList then (if a0_1.toList=a1_1.toList then (some τ) else (some φ)) else (some φ))=some r:=h
 clear h
 by_cases c3:a0_0.toList=a1_0.toList
 ·
  rw [if_pos c3] at H
  have c3b0:=beq_iff_eq.mpr c3
  have c3b1:=bne_eq_false_iff_eq.mpr c3
  clear c3
  by_cases c4:a0_1.toList=a1_1.toList
  ·
   rw [if_pos c4] at H
   have c4b0:=beq_iff_eq.mpr c4
   have c4b1:=bne_eq_false_iff_eq.mpr c4
   clear c4
   obtain rfl:=Option.some.inj H
   go_enter Tryz.func17,Tryz.ntmps17
   go_wp2_with (first|((with_reducible refine δx (N:=2) rfl ?_);refine bev 2 #[.string a0_0,.string a0_1] 37 ?_;intro gb414 hg w5 hbox hb;have BK414:=ζa (hbox);have GW414:=ζa (gbw hg (by exact HB.out));have GE414:=ζa (gbw hg (by exact HB.out));replace HB:=ζa (δr (by exact HB.out) hb);clear hb hbox hg)|((with_reducible refine δx (N:=3) rfl ?_);refine bev 3 #[.string a1_0,.string a1_1] 37 ?_;intro gb415 hg w6 hbox hb;have BK415:=ζa (hbox);have GW415:=ζa (gbw hg (by exact HB.out));have GE415:=ζa (gbw hg (by exact HB.out));replace HB:=ζa (δr (by exact HB.out) hb);have NB414_415:=ζa ((by rw [hg];exact Nat.ne_of_lt (blk_lt (g:=gb414) (o:=.cells #[.string a0_0,.string a0_1] 37 (0,0)) (by exact BK414.out)):gb414≠gb415));have NB415_414:=ζa ((by rw [hg];exact Nat.ne_of_gt (blk_lt (g:=gb414) (o:=.cells #[.string a0_0,.string a0_1] 37 (0,0)) (by exact BK414.out)):gb415≠gb414));replace BK414:=ζa (blk_below (g:=gb414) (o:=.cells #[.string a0_0,.string a0_1] 37 (0,0)) (by exact BK414.out) hb);clear hb hbox hg;have hnb7:=NB414_415.out;have hnc7:=NB415_414.out;have hcz8_0:w6.cell? ⟨gb414,0,none⟩=some (.string a0_0):=(δl BK414.out 0).trans rfl;have hcz8_1:w6.cell? ⟨gb414,1,none⟩=some (.string a0_1):=(δl BK414.out 1).trans rfl;have hfz8_0:=δm BK414.out 0;have hfz8_1:=δm BK414.out 1;have hcz9_0:w6.cell? ⟨gb415,0,none⟩=some (.string a1_0):=(δl BK415.out 0).trans rfl;have hcz9_1:w6.cell? ⟨gb415,1,none⟩=some (.string a1_1):=(δl BK415.out 1).trans rfl;have hfz9_0:=δm BK415.out 0;have hfz9_1:=δm BK415.out 1))
   go_ret
   exact ⟨by rfl,by repeat ((with_reducible exact HB.out))⟩
  ·
   rw [if_neg c4] at H
   have c4b0:=beq_eq_false_iff_ne.mpr c4
   have c4b1:=bne_iff_ne.mpr c4
   obtain rfl:=Option.some.inj H
   go_enter Tryz.func17,Tryz.ntmps17
   go_wp2_with (first|((with_reducible refine δx (N:=2) rfl ?_);refine bev 2 #[.string a0_0,.string a0_1] 37 ?_;intro gb414 hg w10 hbox hb;have BK414:=ζa (hbox);have GW414:=ζa (gbw hg (by exact HB.out));have GE414:=ζa (gbw hg (by exact HB.out));replace HB:=ζa (δr (by exact HB.out) hb);clear hb hbox hg)|((with_reducible refine δx (N:=3) rfl ?_);refine bev 3 #[.string a1_0,.string a1_1] 37 ?_;intro gb415 hg w11 hbox hb;have BK415:=ζa (hbox);have GW415:=ζa (gbw hg (by exact HB.out));have GE415:=ζa (gbw hg (by exact HB.out));replace HB:=ζa (δr (by exact HB.out) hb);have NB414_415:=ζa ((by rw [hg];exact Nat.ne_of_lt (blk_lt (g:=gb414) (o:=.cells #[.string a0_0,.string a0_1] 37 (0,0)) (by exact BK414.out)):gb414≠gb415));have NB415_414:=ζa ((by rw [hg];exact Nat.ne_of_gt (blk_lt (g:=gb414) (o:=.cells #[.string a0_0,.string a0_1] 37 (0,0)) (by exact BK414.out)):gb415≠gb414));replace BK414:=ζa (blk_below (g:=gb414) (o:=.cells #[.string a0_0,.string a0_1] 37 (0,0)) (by exact BK414.out) hb);clear hb hbox hg;have hnb12:=NB414_415.out;have hnc12:=NB415_414.out;have hcz13_0:w11.cell? ⟨gb414,0,none⟩=some (.string a0_0):=(δl BK414.out 0).trans rfl;have hcz13_1:w11.cell? ⟨gb414,1,none⟩=some (.string a0_1):=(δl BK414.out 1).trans rfl;have hfz13_0:=δm BK414.out 0;have hfz13_1:=δm BK414.out 1;have hcz14_0:w11.cell? ⟨gb415,0,none⟩=some (.string a1_0):=(δl BK415.out 0).trans rfl;have hcz14_1:w11.cell? ⟨gb415,1,none⟩=some (.string a1_1):=(δl BK415.out 1).trans rfl;have hfz14_0:=δm BK415.out 0;have hfz14_1:=δm BK415.out 1))
   go_ret
   exact ⟨by rfl,by repeat ((with_reducible exact HB.out))⟩
 ·
  rw [if_neg c3] at H
  have c3b0:=beq_eq_false_iff_ne.mpr c3
  have c3b1:=bne_iff_ne.mpr c3
  obtain rfl:=Option.some.inj H
  go_enter Tryz.func17,Tryz.ntmps17
  go_wp2_with (first|((with_reducible refine δx (N:=2) rfl ?_);refine bev 2 #[.string a0_0,.string a0_1] 37 ?_;intro gb414 hg w15 hbox hb;have BK414:=ζa (hbox);have GW414:=ζa (gbw hg (by exact HB.out));have GE414:=ζa (gbw hg (by exact HB.out));replace HB:=ζa (δr (by exact HB.out) hb);clear hb hbox hg)|((with_reducible refine δx (N:=3) rfl ?_);refine bev 3 #[.string a1_0,.string a1_1] 37 ?_;intro gb415 hg w16 hbox hb;have BK415:=ζa (hbox);have GW415:=ζa (gbw hg (by exact HB.out));have GE415:=ζa (gbw hg (by exact HB.out));replace HB:=ζa (δr (by exact HB.out) hb);have NB414_415:=ζa ((by rw [hg];exact Nat.ne_of_lt (blk_lt (g:=gb414) (o:=.cells #[.string a0_0,.string a0_1] 37 (0,0)) (by exact BK414.out)):gb414≠gb415));have NB415_414:=ζa ((by rw [hg];exact Nat.ne_of_gt (blk_lt (g:=gb414) (o:=.cells #[.string a0_0,.string a0_1] 37 (0,0)) (by exact BK414.out)):gb415≠gb414));replace BK414:=ζa (blk_below (g:=gb414) (o:=.cells #[.string a0_0,.string a0_1] 37 (0,0)) (by exact BK414.out) hb);clear hb hbox hg;have hnb17:=NB414_415.out;have hnc17:=NB415_414.out;have hcz18_0:w16.cell? ⟨gb414,0,none⟩=some (.string a0_0):=(δl BK414.out 0).trans rfl;have hcz18_1:w16.cell? ⟨gb414,1,none⟩=some (.string a0_1):=(δl BK414.out 1).trans rfl;have hfz18_0:=δm BK414.out 0;have hfz18_1:=δm BK414.out 1;have hcz19_0:w16.cell? ⟨gb415,0,none⟩=some (.string a1_0):=(δl BK415.out 0).trans rfl;have hcz19_1:w16.cell? ⟨gb415,1,none⟩=some (.string a1_1):=(δl BK415.out 1).trans rfl;have hfz19_0:=δm BK415.out 0;have hfz19_1:=δm BK415.out 1))
  go_ret
  exact ⟨by rfl,by repeat ((with_reducible exact HB.out))⟩


open Go.Proofs.YtjhhehjjnfnigaaGreatDoorW.PrintWords renaming below_drew1 → δj, below_step → δr
set_option maxHeartbeats 8000000
set_option maxRecDepth 100000

/-! ### laws_eqPairS: function 8 -/
def laws_eqPairS.l0:Nat→List (S37)→List (S37)→Int→Option (Bool)
 | 0,_,_,_=>none
 | k+1,x0,x1,x5=>if x5<(x0.length:Int) then (if 0≤x5 then (if x5<(x1.length:Int) then ((laws_eqPair.f ((rd_T37 x0 x5).f0) ((rd_T37 x0 x5).f1) ((rd_T37 x1 x5).f0) ((rd_T37 x1 x5).f1)).bind fun t418=>(if t418=τ then (laws_eqPairS.l0 k x0 x1 (ζm (x5+1))) else (some φ))) else (none)) else (none)) else (some τ)
def laws_eqPairS.f (k:Nat) (l0:List (S37)) (l1:List (S37)):Option (Bool):=if (l0.length:Int)=(l1.length:Int) then (laws_eqPairS.l0 k l0 l1 0) else (some φ)
def laws_eqPairS.T6:Bool × List (List Nat × List Nat):=(τ,[([],[]),([],[]),([0,1],[0,1]),([2],[2]),([],[]),([],[]),([4,5],[4,5]),([6],[6]),([3,7],[3,7]),([8],[8])])
def laws_eqPairS.B6:List Nat:=[0,0,3,7,0,0,48,112,255,511]
theorem laws_eqPairS.tab6:rtab .any (opsOf Tryz.f8 6)=laws_eqPairS.T6:=by kernel_rfl
theorem laws_eqPairS.bits6:waitsOk laws_eqPairS.T6.2 laws_eqPairS.B6=τ:=by kernel_rfl
theorem laws_eqPairS.calls (k:Nat) (A0:Option Addr) (c0:Nat) (l0:List (S37)) (A1:Option Addr) (c1:Nat) (l1:List (S37)) (r:Bool) (w:World) (hr0:Kd.C k37 w A0 l0.length l0) (hc0:l0.length≤c0) (hr1:Kd.C k37 w A1 l1.length l1) (hc1:l1.length≤c1) (h:laws_eqPairS.f k l0 l1=some r) :
  Calls Tryz.prog 8 #[.slice A0 l0.length c0,.slice A1 l1.length c1] w fun e w'=>e = .returned (.bool r)∧Below w.heap.size w w':=by
 have hu37:=Tryz.underlying37
 have HR0:=ζa hr0
 have HC0:=ζa hc0
 clear hr0 hc0
 have HR1:=ζa hr1
 have HC1:=ζa hc1
 clear hr1 hc1
 have HB:=ζa (Below.refl w.heap.size w)
 have H:(if (l0.length:Int)=(l1.length:Int) then (laws_eqPairS.l0 k l0 l1 0) else (some φ))=some r:=h
 clear h
 by_cases c3:(l0.length:Int)=(l1.length:Int)
 ·
  rw [if_pos c3] at H
  have c3b0:=beq_iff_eq.mpr c3
  have c3b1:=bne_eq_false_iff_eq.mpr c3
  have c3b2:(l0.length == l1.length)=τ:=by (simp at c3 ⊢;omega)
  clear c3
  have H':=ζa H
  clear H
  go_enter Tryz.func8,Tryz.ntmps8
  go_wp2
  go_loopg [5] k (fun kq v5 w' => ∃ (x5_1:Int),v5 = .int .i64 x5_1∧Aside0 (laws_eqPairS.l0 kq l0 l1 x5_1=some r)∧Aside0 (kq≤k)∧Aside0 (Below w.heap.size w w'))
  case atStart=>exact ⟨(0),(by rfl),H',⟨Nat.le_refl _⟩,⟨by repeat ((with_reducible exact HB.out))⟩⟩
  case round =>
   clear H'
   try clear c1
   try clear p2
   try clear c3
   try clear c3b0
   try clear c3b1
   try clear c3b2
   obtain ⟨x5_1,rfl,HA,HK1,HB⟩:=hrel
   cases gk with
   | zero=>exact absurd HA.out (by simp [laws_eqPairS.l0])
   | succ k1 =>
    have H:=HA.out
    clear HA
    simp only [laws_eqPairS.l0] at H
    by_cases c4:x5_1<(l0.length:Int)
    ·
     rw [if_pos c4] at H
     have c4b0:=decide_eq_true c4
     clear c4
     by_cases c5:0≤x5_1
     ·
      rw [if_pos c5] at H
      have c5b0:=decide_eq_true c5
      clear c5
      by_cases c6:x5_1<(l1.length:Int)
      ·
       rw [if_pos c6] at H
       have c6b0:=decide_eq_true c6
       clear c6
       obtain ⟨t418,A7,H⟩:=bsm H
       by_cases c8:t418=τ
       ·
        subst c8
        rw [ifT] at H
        have H':=ζa H
        clear H
        try go_wp2
        replace HB:=ζa (δj HB.out)
        have p416:0≤(x5_1:Int):=of_decide_eq_true (by (with_reducible assumption))
        have q416:x5_1<(l0.length:Int):=of_decide_eq_true (by (with_reducible assumption))
        obtain ⟨ad416,e416,hx416_0,hx416_1⟩:=at_T37 HR0.out x5_1 p416 q416
        have hw416_1:=hx416_1
        have hw416_0:=hx416_0
        cases e416
        replace hx416_0:=(HB.out.cell (World.block_lt_of_cell? w _ hx416_0)).trans hx416_0
        replace hx416_1:=(HB.out.cell (World.block_lt_of_cell? w _ hx416_1)).trans hx416_1
        replace p416:=eq_true p416
        replace q416:=eq_true q416
        have p417:0≤(x5_1:Int):=of_decide_eq_true (by (with_reducible assumption))
        have q417:x5_1<(l1.length:Int):=of_decide_eq_true (by (with_reducible assumption))
        obtain ⟨ad417,e417,hx417_0,hx417_1⟩:=at_T37 HR1.out x5_1 p417 q417
        have hw417_1:=hx417_1
        have hw417_0:=hx417_0
        cases e417
        replace hx417_0:=(HB.out.cell (World.block_lt_of_cell? w _ hx417_0)).trans hx417_0
        replace hx417_1:=(HB.out.cell (World.block_lt_of_cell? w _ hx417_1)).trans hx417_1
        replace p417:=eq_true p417
        replace q417:=eq_true q417
        refine sta 10 (fun w'=>w'.cell? (ad416.add ((x5_1).toNat * 2))=some (.string ((rd_T37 l0 x5_1).f0))∧w'.cell? ⟨(ad416.add ((x5_1).toNat * 2)).block,(ad416.add ((x5_1).toNat * 2)).off+1,none⟩=some (.string ((rd_T37 l0 x5_1).f1))∧w'.cell? (ad417.add ((x5_1).toNat * 2))=some (.string ((rd_T37 l1 x5_1).f0))∧w'.cell? ⟨(ad417.add ((x5_1).toNat * 2)).block,(ad417.add ((x5_1).toNat * 2)).off+1,none⟩=some (.string ((rd_T37 l1 x5_1).f1))) [] laws_eqPairS.tab6 laws_eqPairS.bits6 ⟨((HB.out.cell (World.block_lt_of_cell? w _ hw416_0)).trans hw416_0),((HB.out.cell (World.block_lt_of_cell? w _ hw416_1)).trans hw416_1),((HB.out.cell (World.block_lt_of_cell? w _ hw417_0)).trans hw417_0),((HB.out.cell (World.block_lt_of_cell? w _ hw417_1)).trans hw417_1)⟩ (fun hHeld HT_ HW_ => ?_)
        generalize wr.drew=w9 at HB hx416_0 hx416_1 hx417_0 hx417_1 hHeld ⊢
        refine pu 0 17 ?_
        refine pu 1 18 ?_
        refine pu 2 19 ?_
        refine pu 4 21 ?_
        refine pu 5 22 ?_
        refine pu 6 23 ?_
        refine ta 3 20 ?_
        refine ta 7 24 ?_
        refine on 8 25 (fun K hK => ?_)
        refine gs Tryz.func17 #[.agg #[.string ((rd_T37 l0 x5_1).f0),.string ((rd_T37 l0 x5_1).f1)],.agg #[.string ((rd_T37 l1 x5_1).f0),.string ((rd_T37 l1 x5_1).f1)]] ?_
        with_reducible refine (laws_eqPair.calls ((rd_T37 l0 x5_1).f0) ((rd_T37 l0 x5_1).f1) ((rd_T37 l1 x5_1).f0) ((rd_T37 l1 x5_1).f1) τ _ A7.out).mono ?_
        rintro e w10 ⟨rfl,hb⟩
        refine ⟨_,rfl,?_⟩
        replace HB:=ζa (δr (by exact HB.out) hb)
        (try clear hb)
        (try clear hb2)
        (try clear hk)
        (try clear hi)
        refine hK.out _ _ ⟨((HB.out.cell (World.block_lt_of_cell? w _ hw416_0)).trans hw416_0),((HB.out.cell (World.block_lt_of_cell? w _ hw416_1)).trans hw416_1),((HB.out.cell (World.block_lt_of_cell? w _ hw417_0)).trans hw417_0),((HB.out.cell (World.block_lt_of_cell? w _ hw417_1)).trans hw417_1)⟩ (fun hHeld => ?_)
        clear hK K
        refine nm 25 ?_
        refine pu 9 26 ?_
        refine done_ (done_of HT_.out (by kernel_rfl)) ?_
        try go_wp2
        go_roundg k1
        case measure=>have:=HK1.out;omega
        case rel=>exact ⟨(ζm (x5_1+1)),(by rfl),H',⟨by have:=HK1.out;omega⟩,⟨by repeat ((with_reducible exact HB.out))⟩⟩
       ·
        replace c8:=Bool.eq_false_iff.mpr c8
        subst c8
        rw [ifF] at H
        obtain rfl:=Option.some.inj H
        try go_wp2
        replace HB:=ζa (δj HB.out)
        have p416:0≤(x5_1:Int):=of_decide_eq_true (by (with_reducible assumption))
        have q416:x5_1<(l0.length:Int):=of_decide_eq_true (by (with_reducible assumption))
        obtain ⟨ad416,e416,hx416_0,hx416_1⟩:=at_T37 HR0.out x5_1 p416 q416
        have hw416_1:=hx416_1
        have hw416_0:=hx416_0
        cases e416
        replace hx416_0:=(HB.out.cell (World.block_lt_of_cell? w _ hx416_0)).trans hx416_0
        replace hx416_1:=(HB.out.cell (World.block_lt_of_cell? w _ hx416_1)).trans hx416_1
        replace p416:=eq_true p416
        replace q416:=eq_true q416
        have p417:0≤(x5_1:Int):=of_decide_eq_true (by (with_reducible assumption))
        have q417:x5_1<(l1.length:Int):=of_decide_eq_true (by (with_reducible assumption))
        obtain ⟨ad417,e417,hx417_0,hx417_1⟩:=at_T37 HR1.out x5_1 p417 q417
        have hw417_1:=hx417_1
        have hw417_0:=hx417_0
        cases e417
        replace hx417_0:=(HB.out.cell (World.block_lt_of_cell? w _ hx417_0)).trans hx417_0
        replace hx417_1:=(HB.out.cell (World.block_lt_of_cell? w _ hx417_1)).trans hx417_1
        replace p417:=eq_true p417
        replace q417:=eq_true q417
        refine sta 10 (fun w'=>w'.cell? (ad416.add ((x5_1).toNat * 2))=some (.string ((rd_T37 l0 x5_1).f0))∧w'.cell? ⟨(ad416.add ((x5_1).toNat * 2)).block,(ad416.add ((x5_1).toNat * 2)).off+1,none⟩=some (.string ((rd_T37 l0 x5_1).f1))∧w'.cell? (ad417.add ((x5_1).toNat * 2))=some (.string ((rd_T37 l1 x5_1).f0))∧w'.cell? ⟨(ad417.add ((x5_1).toNat * 2)).block,(ad417.add ((x5_1).toNat * 2)).off+1,none⟩=some (.string ((rd_T37 l1 x5_1).f1))) [] laws_eqPairS.tab6 laws_eqPairS.bits6 ⟨((HB.out.cell (World.block_lt_of_cell? w _ hw416_0)).trans hw416_0),((HB.out.cell (World.block_lt_of_cell? w _ hw416_1)).trans hw416_1),((HB.out.cell (World.block_lt_of_cell? w _ hw417_0)).trans hw417_0),((HB.out.cell (World.block_lt_of_cell? w _ hw417_1)).trans hw417_1)⟩ (fun hHeld HT_ HW_ => ?_)
        generalize wr.drew=w11 at HB hx416_0 hx416_1 hx417_0 hx417_1 hHeld ⊢
        refine pu 0 17 ?_
        refine pu 1 18 ?_
        refine pu 2 19 ?_
        refine pu 4 21 ?_
        refine pu 5 22 ?_
        refine pu 6 23 ?_
        refine ta 3 20 ?_
        refine ta 7 24 ?_
        refine on 8 25 (fun K hK => ?_)
        refine gs Tryz.func17 #[.agg #[.string ((rd_T37 l0 x5_1).f0),.string ((rd_T37 l0 x5_1).f1)],.agg #[.string ((rd_T37 l1 x5_1).f0),.string ((rd_T37 l1 x5_1).f1)]] ?_
        with_reducible refine (laws_eqPair.calls ((rd_T37 l0 x5_1).f0) ((rd_T37 l0 x5_1).f1) ((rd_T37 l1 x5_1).f0) ((rd_T37 l1 x5_1).f1) φ _ A7.out).mono ?_
        rintro e w12 ⟨rfl,hb⟩
        refine ⟨_,rfl,?_⟩
        replace HB:=ζa (δr (by exact HB.out) hb)
        (try clear hb)
        (try clear hb2)
        (try clear hk)
        (try clear hi)
        refine hK.out _ _ ⟨((HB.out.cell (World.block_lt_of_cell? w _ hw416_0)).trans hw416_0),((HB.out.cell (World.block_lt_of_cell? w _ hw416_1)).trans hw416_1),((HB.out.cell (World.block_lt_of_cell? w _ hw417_0)).trans hw417_0),((HB.out.cell (World.block_lt_of_cell? w _ hw417_1)).trans hw417_1)⟩ (fun hHeld => ?_)
        clear hK K
        refine nm 25 ?_
        refine pu 9 26 ?_
        refine done_ (done_of HT_.out (by kernel_rfl)) ?_
        try go_wp2
        go_ret
        exact ⟨by rfl,by repeat ((with_reducible exact HB.out))⟩
      ·
       rw [if_neg c6] at H
       exact absurd H (by simp)
     ·
      rw [if_neg c5] at H
      exact absurd H (by simp)
    ·
     rw [if_neg c4] at H
     have c4b0:=decide_eq_false c4
     clear c4
     obtain rfl:=Option.some.inj H
     go_wp2
     go_ret
     exact ⟨by rfl,by repeat ((with_reducible exact HB.out))⟩
 ·
  rw [if_neg c3] at H
  have c3b0:=beq_eq_false_iff_ne.mpr c3
  have c3b1:=bne_iff_ne.mpr c3
  have c3b2:(l0.length == l1.length)=φ:=by (simp at c3 ⊢;omega)
  obtain rfl:=Option.some.inj H
  go_enter Tryz.func8,Tryz.ntmps8
  go_wp2
  go_ret
  exact ⟨by rfl,by repeat ((with_reducible exact HB.out))⟩


open Go.Proofs.YtjhhehjjnfnigaaGreatDoorW.PrintWords renaming gate_dst → δx, below_size → δs, below_step → δr
set_option maxHeartbeats 8000000
set_option maxRecDepth 100000

/-! ### laws_markText: function 18 -/
def laws_markText.l0:Nat→Int→ByteArray→Option (ByteArray)
 | 0,_,_=>none
 | k+1,x0,x3=>if x0 > 0 then ((some (([(ζm (48+(Int.tmod x0 10))) % 256]:List Int):List Int)).bind fun y419=>(if (strOfNums y419).size+x3.size≤9223372036854775807 then (laws_markText.l0 k (ζm (Int.tdiv x0 10)) ((strOfNums y419) ++ x3)) else (none))) else (if 1+x3.size≤9223372036854775807 then (some ((⟨#[109]⟩:ByteArray) ++ x3)) else (none))
def laws_markText.f (k:Nat) (a0:Int):Option (ByteArray):=if a0≤0 then (some (⟨#[109,48]⟩:ByteArray)) else (laws_markText.l0 k a0 (⟨#[]⟩:ByteArray))
theorem laws_markText.calls (k:Nat) (a0:Int) (r:ByteArray) (w:World) (h:laws_markText.f k a0=some r) :
  Calls Tryz.prog 18 #[.int .i64 a0] w fun e w'=>e = .returned (.string r)∧Below w.heap.size w w':=by
 have HB:=ζa (Below.refl w.heap.size w)
 have H:(if a0≤0 then (some (⟨#[109,48]⟩:ByteArray)) else (laws_markText.l0 k a0 (⟨#[]⟩:ByteArray)))=some r:=h
 clear h
 by_cases c2:a0≤0
 ·
  rw [if_pos c2] at H
  have c2b0:=decide_eq_true c2
  clear c2
  obtain rfl:=Option.some.inj H
  go_enter Tryz.func18,Tryz.ntmps18
  go_wp2
  go_ret
  exact ⟨by rfl,by repeat ((with_reducible exact HB.out))⟩
 ·
  rw [if_neg c2] at H
  have c2b0:=decide_eq_false c2
  clear c2
  have H':=ζa H
  clear H
  go_enter Tryz.func18,Tryz.ntmps18
  go_wp2
  go_loopg [0,3] k (fun kq v0 v3 w' => ∃ (x0_1:Int) (x3_1:ByteArray),v0 = .int .i64 x0_1∧v3 = .string x3_1∧Aside0 (laws_markText.l0 kq x0_1 x3_1=some r)∧Aside0 (kq≤k)∧Aside0 (Below w.heap.size w w'))
  case atStart=>exact ⟨(a0),((⟨#[]⟩:ByteArray)),(by rfl),(by rfl),H',⟨Nat.le_refl _⟩,⟨by repeat ((with_reducible exact HB.out))⟩⟩
  case round =>
   clear H'
   try clear c1
   try clear c2
   try clear c2b0
   try clear p2
   obtain ⟨x0_1,x3_1,rfl,rfl,HA,HK1,HB⟩:=hrel
   cases gk with
   | zero=>exact absurd HA.out (by simp [laws_markText.l0])
   | succ k1 =>
    have H:=HA.out
    clear HA
    simp only [laws_markText.l0] at H
    by_cases c3:x0_1 > 0
    ·
     rw [if_pos c3] at H
     have c3b0:decide (0<x0_1)=τ:=decide_eq_true c3
     clear c3
     obtain ⟨y419,hy419⟩ : ∃ y_:List Int,y_=(([(ζm (48+(Int.tmod x0_1 10))) % 256]:List Int)):=⟨_,rfl⟩
     replace H:(if (strOfNums y419).size+x3_1.size≤9223372036854775807 then (laws_markText.l0 k1 (ζm (Int.tdiv x0_1 10)) ((strOfNums y419) ++ x3_1)) else (none))=some r:=by (have H2_:=(Option.bind_some _ _).symm.trans H;rw [hy419];with_reducible exact H2_)
     have Ny419:=ζa hy419
     clear hy419
     by_cases c4:(strOfNums y419).size+x3_1.size≤9223372036854775807
     ·
      rw [if_pos c4] at H
      have c4b0:=eq_true c4
      have c4b1:=decide_eq_true c4
      try have c4b2:(9223372036854775807<(strOfNums y419).size+x3_1.size)=False:=eq_false (Nat.not_lt.2 c4)
      have H':=ζa H
      clear H
      go_wp2_with (((with_reducible refine δx (N:=12) rfl ?_);refine Kd.R_lit (Kd.int .u8) _ 5 ?hg (N:=12) ?hd (xs:=([(ζm (48+(Int.tmod x0_1 10))) % 256]:List Int)) (inner:=[.int .u8 ((ζm (48+(Int.tmod x0_1 10))) % 256)]) (ok:=fun _=>True) (okp:=fun _=>True) ?hr ?hp (fun _ hk=>hk) trivial (Below.refl _ _) (Nat.le_refl _) (by simp) ?_;(case hd=>rfl);(case hg=>rfl);(case hr=>(go_simp;done));(case hp=>exact (Reps.one (show Kd.M (Kd.int .u8) _ _ _ ((ζm (48+(Int.tmod x0_1 10))) % 256) [.int .u8 ((ζm (48+(Int.tmod x0_1 10))) % 256)] from rfl) (Reps.none _ _)));intro v420 w5 ho6 hb hg_ hnew_;clear hg_ hnew_;(rw [← Ny419.out] at ho6);have HO421:=ζa (Kd.R_lower ho6 (δs (by exact HB.out)));replace HB:=ζa (δr (by exact HB.out) hb);clear hb ho6;have hcv7:=own_string (P:=Tryz.prog) Tryz.underlying70 Tryz.underlying5 Tryz.underlying9 (Kd.own_of_R HO421.out)))
      go_roundg k1
      case measure=>have:=HK1.out;omega
      case rel=>exact ⟨(ζm (Int.tdiv x0_1 10)),((strOfNums y419) ++ x3_1),(by rfl),(by rfl),H',⟨by have:=HK1.out;omega⟩,⟨by repeat ((with_reducible exact HB.out))⟩⟩
     ·
      rw [if_neg c4] at H
      exact absurd H (by simp)
    ·
     rw [if_neg c3] at H
     have c3b0:decide (0<x0_1)=φ:=decide_eq_false c3
     clear c3
     by_cases c8:1+x3_1.size≤9223372036854775807
     ·
      rw [if_pos c8] at H
      have c8b0:=eq_true c8
      have c8b1:=decide_eq_true c8
      try have c8b2:(9223372036854775807<1+x3_1.size)=False:=eq_false (Nat.not_lt.2 c8)
      obtain rfl:=Option.some.inj H
      go_wp2
      go_ret
      exact ⟨by rfl,by repeat ((with_reducible exact HB.out))⟩
     ·
      rw [if_neg c8] at H
      exact absurd H (by simp)


open Go.Proofs.YtjhhehjjnfnigaaGreatDoorW.PrintWords renaming gate_callee → δv, below_step → δr, below_set → δq
open Go.Proofs.YtjhhehjjnfnigaaGreatDoorW.PrintWords.Kd renaming R_below → ζh
set_option maxHeartbeats 8000000
set_option maxRecDepth 100000

/-! ### laws_markPairS: function 9 -/
def laws_markPairS.l0:Nat→List (S37)→Int→Int→Option (Int × (List (S37)))
 | 0,_,_,_=>none
 | k+1,x0,x1,x5=>if x5<(x0.length:Int) then ((laws_markText.f k x1).bind fun t422=>(if 0≤x5 then ((some (x0.set (x5:Int).toNat (⟨t422,(rd_T37 x0 x5).f1⟩:S37):List (S37))).bind fun y423=>((laws_markText.f k (ζm (x1+1))).bind fun t424=>(laws_markPairS.l0 k (y423.set (x5:Int).toNat (⟨(rd_T37 y423 x5).f0,t424⟩:S37)) (ζm ((ζm (x1+1))+1)) (ζm (x5+1))))) else (none))) else (some (x1,x0))
def laws_markPairS.f (k:Nat) (l0:List (S37)) (a1:Int):Option (Int × (List (S37))):=laws_markPairS.l0 k l0 a1 0
theorem laws_markPairS.calls (k:Nat) (P0_:Nat→Prop) (u9000_:Value) (l0:List (S37)) (a1:Int) (r1:Int) (r2:List (S37)) (w0 w:World) (hB:Below w0.heap.size w0 w) (ho0:Kd.R k37 37 w w0.heap.size P0_ u9000_ l0) (h:laws_markPairS.f k l0 a1=some (r1,r2)) :
  Calls Tryz.prog 9 #[u9000_,.int .i64 a1] w fun e w'=>e = .returned (.int .i64 r1)∧Kd.R k37 37 w' w0.heap.size (fun k_=>(P0_ k_ ∨ w.heap.size≤k_)) u9000_ r2∧Below w0.heap.size w0 w'∧Kept w w' (fun k_=>P0_ k_):=by
 have HO0:=ζa (show Kd.R k37 37 w w0.heap.size (fun k_=>(P0_ k_ ∨ w.heap.size≤k_)) u9000_ l0 from Kd.R_mono ho0 (fun k_ hk=>(.inl hk)))
 have HK:=ζa (Kept.refl w (fun k_=>P0_ k_))
 have HW0:=ζa hB.size
 have HB:=ζa hB
 clear hB
 have H:(laws_markPairS.l0 k l0 a1 0)=some (r1,r2):=h
 clear h
 have H':=ζa H
 clear H
 go_enter Tryz.func9,Tryz.ntmps9
 go_wp2
 go_loopg [1,5] k (fun kq v1 v5 w' => ∃ (x0_1:List (S37)) (x1_1:Int) (x5_1:Int),v1 = .int .i64 x1_1∧v5 = .int .i64 x5_1∧Aside0 (laws_markPairS.l0 kq x0_1 x1_1 x5_1=some (r1,r2))∧Aside0 (kq≤k)∧Aside0 (Kd.R k37 37 w' w0.heap.size (fun k_=>(P0_ k_ ∨ w.heap.size≤k_)) u9000_ x0_1)∧Aside0 (Kept w w' (fun k_=>P0_ k_))∧Aside0 (Below w0.heap.size w0 w'))
 case atStart=>exact ⟨(l0),(a1),(0),(by rfl),(by rfl),H',⟨Nat.le_refl _⟩,⟨by exact HO0.out⟩,⟨by repeat ((with_reducible exact HK.out))⟩,⟨by repeat ((with_reducible exact HB.out))⟩⟩
 case round =>
  clear H'
  try clear p2
  obtain ⟨x0_1,x1_1,x5_1,rfl,rfl,HA,HK1,HO_0,HK,HB⟩:=hrel
  cases gk with
  | zero=>exact absurd HA.out (by simp [laws_markPairS.l0])
  | succ k1 =>
   have H:=HA.out
   clear HA
   simp only [laws_markPairS.l0] at H
   by_cases c3:x5_1<(x0_1.length:Int)
   ·
    rw [if_pos c3] at H
    have c3b0:=decide_eq_true c3
    clear c3
    obtain ⟨t422,A4,H⟩:=bsm H
    by_cases c5:0≤x5_1
    ·
     rw [if_pos c5] at H
     have c5b0:=decide_eq_true c5
     clear c5
     obtain ⟨y423,hy423⟩ : ∃ y_:List (S37),y_=(x0_1.set (x5_1:Int).toNat (⟨t422,(rd_T37 x0_1 x5_1).f1⟩:S37)):=⟨_,rfl⟩
     replace H:((laws_markText.f k1 (ζm (x1_1+1))).bind fun t424=>(laws_markPairS.l0 k1 (y423.set (x5_1:Int).toNat (⟨(rd_T37 y423 x5_1).f0,t424⟩:S37)) (ζm ((ζm (x1_1+1))+1)) (ζm (x5_1+1))))=some (r1,r2):=by (have H2_:=(Option.bind_some _ _).symm.trans H;rw [hy423];with_reducible exact H2_)
     have Ny423:=ζa hy423
     clear hy423
     obtain ⟨t424,A7,H⟩:=bsm H
     obtain ⟨y425,hy425⟩ : ∃ y_:List (S37),y_=(y423.set (x5_1:Int).toNat (⟨(rd_T37 y423 x5_1).f0,t424⟩:S37)):=⟨_,rfl⟩
     replace H:(laws_markPairS.l0 k1 y425 (ζm ((ζm (x1_1+1))+1)) (ζm (x5_1+1)))=some (r1,r2):=by (rw [hy425];with_reducible exact H)
     have Ny425:=ζa hy425
     clear hy425
     have H':=ζa H
     clear H
     obtain ⟨Ao9,co9,eo9⟩:=Kd.R_slice HO_0.out
     subst eo9
     go_wp2_with (first|((with_reducible refine δv (f:=18) rfl ?_);refine gl 15 Tryz.func18 #[.int .i64 x1_1] ?_;(with_reducible refine (laws_markText.calls k1 x1_1 t422 _ A4.out).mono ?_);rintro e w10 ⟨rfl,hb⟩;refine ⟨_,rfl,?_⟩;replace HO_0:=ζa (ζh (by exact HO_0.out) hb);replace HK:=ζa (Kept.below (S:=(fun k_=>P0_ k_)) (by exact HK.out) hb);replace HB:=ζa (δr (by exact HB.out) hb);(try clear hb);(try clear hb2);(try clear hk);(try clear hi);have p6:0≤(x5_1:Int):=of_decide_eq_true (by (with_reducible assumption));have q6:(x5_1:Int)<((x0_1.length:Int):Int):=of_decide_eq_true (by (with_reducible assumption));obtain ⟨go6,co6,eo6,gb6,gl6,cl6,HG6⟩:=Kd.R_form HO_0.out (by omega);(cases eo6);have GB6:=ζa gb6;have GG6:=ζa HG6;clear gb6 gl6 HG6;have HMgo6:=ζa (show (P0_ go6 ∨ w.heap.size≤go6) from (HO_0.out.1 _ rfl));obtain ⟨ce6,hcl6,hM6,hcc6,hfr6⟩:=Kd.R_elem HO_0.out z37 (x5_1:Int) p6 q6;obtain rfl:=k37_openM hM6;have hx6_0:w10.cell? ⟨go6,(x5_1:Int).toNat * 2,none⟩=some (.string ((rd_T37 x0_1 x5_1).f0)):=hcc6 0 _ rfl;have hx6_1:w10.cell? ⟨go6,(x5_1:Int).toNat * 2+1,none⟩=some (.string ((rd_T37 x0_1 x5_1).f1)):=hcc6 1 _ rfl;have hf6_0:w10.frozen? ⟨go6,(x5_1:Int).toNat * 2,none⟩=φ:=hfr6 0;have hf6_1:w10.frozen? ⟨go6,(x5_1:Int).toNat * 2+1,none⟩=φ:=hfr6 1;clear hcl6 hcc6 hfr6 hM6;replace p6:=eq_true p6;replace q6:=eq_true q6;have HX11:=ζa (show Kd.R k37 37 w10 w0.heap.size (fun k_=>(P0_ k_ ∨ w.heap.size≤k_)) (.slice (some ⟨go6,0,none⟩) x0_1.length co9) x0_1 from (by exact HO_0.out));obtain ⟨ce11,hcl11,hM11,hcc11,hfr11⟩:=Kd.R_elem HX11.out z37 (x5_1:Int) (of_decide_eq_true (by (with_reducible assumption))) (by have h_:(x5_1:Int)<((x0_1.length:Int):Int):=of_decide_eq_true (by (with_reducible assumption));exact h_);obtain rfl:=k37_openM hM11;have HP11:=Kd.R_seg HX11.out (x5_1:Int) (of_decide_eq_true (by (with_reducible assumption))) (by have h_:(x5_1:Int)<((x0_1.length:Int):Int):=of_decide_eq_true (by (with_reducible assumption));exact h_) (seg:=[.string t422]) (j:=0) hcl11 hcc11 (show 1≤2 from by decide) (x':=(⟨t422,(rd_T37 x0_1 x5_1).f1⟩:S37)) (k37_mkM _ _ _ (⟨t422,(rd_T37 x0_1 x5_1).f1⟩:S37) ) (fun _ hk=>hk);have hx11_0:=hcc11 0 _ rfl;(try simp only [show (k37).sz=2 from rfl,Nat.mul_one,Nat.add_zero] at hx11_0);have hf11_0:=hfr11 0;(try simp only [show (k37).sz=2 from rfl,Nat.mul_one,Nat.add_zero] at hf11_0);clear hcl11 hcc11 hfr11 hM11)|((with_reducible refine gate_store (t:=9) (p:=17) rfl ?_);refine store_event (t:=9) (p:=17) (v:=?vo_w12) (w1:=(w10.setCell ⟨go6,(x5_1:Int).toNat * 2,none⟩ (.string t422))) ?hg ?ho ?hn ?hr ?_;(case ho=>rfl);(case hg=>rfl);(case hn=>rfl);(case hr=>(go_simp;done));intro w12 hw;have hg:w10.grownBy w12 (some go6):=(by rw [hw];exact HP11.2);have hp_:Kd.R k37 37 w12 w0.heap.size (fun k_=>(P0_ k_ ∨ w.heap.size≤k_)) (.slice (some ⟨go6,0,none⟩) x0_1.length co9) y423:=(by rw [hw,Ny423.out];exact HP11.1);clear HP11;replace HB:=ζa ((by rw [hw];exact δq (HB.out) GB6.out:Below w0.heap.size w0 w12));replace HK:=ζa (Kept.of_grown (S:=(fun k_=>P0_ k_)) hg (by exact HK.out) (fun k_ e_=>(HO_0.out.1 k_ e_)));replace HO_0:=ζa (hp_);clear hg hw hp_)|((with_reducible refine δv (f:=18) rfl ?_);refine gl 23 Tryz.func18 #[.int .i64 (ζm (x1_1+1))] ?_;(with_reducible refine (laws_markText.calls k1 (ζm (x1_1+1)) t424 _ A7.out).mono ?_);rintro e w13 ⟨rfl,hb⟩;refine ⟨_,rfl,?_⟩;replace HO_0:=ζa (ζh (by exact HO_0.out) hb);replace HK:=ζa (Kept.below (S:=(fun k_=>P0_ k_)) (by exact HK.out) hb);replace HB:=ζa (δr (by exact HB.out) hb);(try clear hb);(try clear hb2);(try clear hk);(try clear hi);have p8:0≤(x5_1:Int):=of_decide_eq_true (by (with_reducible assumption));have q8:(x5_1:Int)<((x0_1.length:Int):Int):=of_decide_eq_true (by (with_reducible assumption));obtain ⟨ce8,hcl8,hM8,hcc8,hfr8⟩:=Kd.R_elem HO_0.out z37 (x5_1:Int) p8 q8;obtain rfl:=k37_openM hM8;have hx8_0:w13.cell? ⟨go6,(x5_1:Int).toNat * 2,none⟩=some (.string ((rd_T37 y423 x5_1).f0)):=hcc8 0 _ rfl;have hx8_1:w13.cell? ⟨go6,(x5_1:Int).toNat * 2+1,none⟩=some (.string ((rd_T37 y423 x5_1).f1)):=hcc8 1 _ rfl;have hf8_0:w13.frozen? ⟨go6,(x5_1:Int).toNat * 2,none⟩=φ:=hfr8 0;have hf8_1:w13.frozen? ⟨go6,(x5_1:Int).toNat * 2+1,none⟩=φ:=hfr8 1;clear hcl8 hcc8 hfr8 hM8;replace p8:=eq_true p8;replace q8:=eq_true q8;have HX14:=ζa (show Kd.R k37 37 w13 w0.heap.size (fun k_=>(P0_ k_ ∨ w.heap.size≤k_)) (.slice (some ⟨go6,0,none⟩) x0_1.length co9) y423 from (by exact HO_0.out));obtain ⟨ce14,hcl14,hM14,hcc14,hfr14⟩:=Kd.R_elem HX14.out z37 (x5_1:Int) (of_decide_eq_true (by (with_reducible assumption))) (by have h_:(x5_1:Int)<((x0_1.length:Int):Int):=of_decide_eq_true (by (with_reducible assumption));exact h_);obtain rfl:=k37_openM hM14;have HP14:=Kd.R_seg HX14.out (x5_1:Int) (of_decide_eq_true (by (with_reducible assumption))) (by have h_:(x5_1:Int)<((x0_1.length:Int):Int):=of_decide_eq_true (by (with_reducible assumption));exact h_) (seg:=[.string t424]) (j:=1) hcl14 hcc14 (show 2≤2 from by decide) (x':=(⟨(rd_T37 y423 x5_1).f0,t424⟩:S37)) (k37_mkM _ _ _ (⟨(rd_T37 y423 x5_1).f0,t424⟩:S37) ) (fun _ hk=>hk);have hx14_1:=hcc14 1 _ rfl;(try simp only [show (k37).sz=2 from rfl,Nat.mul_one,Nat.add_zero] at hx14_1);have hf14_1:=hfr14 1;(try simp only [show (k37).sz=2 from rfl,Nat.mul_one,Nat.add_zero] at hf14_1);clear hcl14 hcc14 hfr14 hM14)|((with_reducible refine gate_store (t:=9) (p:=25) rfl ?_);refine store_event (t:=9) (p:=25) (v:=?vo_w15) (w1:=(w13.setCell ⟨go6,(x5_1:Int).toNat * 2+1,none⟩ (.string t424))) ?hg ?ho ?hn ?hr ?_;(case ho=>rfl);(case hg=>rfl);(case hn=>rfl);(case hr=>(go_simp;done));intro w15 hw;have hg:w13.grownBy w15 (some go6):=(by rw [hw];exact HP14.2);have hp_:Kd.R k37 37 w15 w0.heap.size (fun k_=>(P0_ k_ ∨ w.heap.size≤k_)) (.slice (some ⟨go6,0,none⟩) x0_1.length co9) y425:=(by rw [hw,Ny425.out];exact HP14.1);clear HP14;replace HB:=ζa ((by rw [hw];exact δq (HB.out) GB6.out:Below w0.heap.size w0 w15));replace HK:=ζa (Kept.of_grown (S:=(fun k_=>P0_ k_)) hg (by exact HK.out) (fun k_ e_=>(HO_0.out.1 k_ e_)));replace HO_0:=ζa (hp_);clear hg hw hp_))
     go_roundg k1
     case measure=>have:=HK1.out;omega
     case rel=>exact ⟨(y425),(ζm ((ζm (x1_1+1))+1)),(ζm (x5_1+1)),(by rfl),(by rfl),H',⟨by have:=HK1.out;omega⟩,⟨by exact HO_0.out⟩,⟨by repeat ((with_reducible exact HK.out))⟩,⟨by repeat ((with_reducible exact HB.out))⟩⟩
    ·
     rw [if_neg c5] at H
     exact absurd H (by simp)
   ·
    rw [if_neg c3] at H
    have c3b0:=decide_eq_false c3
    clear c3
    simp only [Option.some.injEq,Prod.mk.injEq] at H
    obtain ⟨rfl,rfl⟩:=H
    obtain ⟨Ao16,co16,eo16⟩:=Kd.R_slice HO_0.out
    subst eo16
    go_wp2
    go_ret
    exact ⟨by rfl,by exact HO_0.out,by repeat ((with_reducible exact HB.out)),by repeat ((with_reducible exact HK.out))⟩


open Bool renaming true → τ
set_option maxHeartbeats 8000000
set_option maxRecDepth 100000

/-! ### laws_heldPairS: function 10 -/
def laws_heldPairS.l0:Nat→List (S37)→Int→Int→Option (Int)
 | 0,_,_,_=>none
 | k+1,x0,x1,x5=>if x5<(x0.length:Int) then (if 0≤x5 then ((laws_markText.f k x1).bind fun t427=>(if ((rd_T37 x0 x5).f0).toList=t427.toList then ((laws_markText.f k (ζm (x1+1))).bind fun t429=>(if ((rd_T37 x0 x5).f1).toList=t429.toList then (laws_heldPairS.l0 k x0 (ζm ((ζm (x1+1))+1)) (ζm (x5+1))) else (some (-1)))) else (some (-1)))) else (none)) else (some x1)
def laws_heldPairS.f (k:Nat) (l0:List (S37)) (a1:Int):Option (Int):=laws_heldPairS.l0 k l0 a1 0
def laws_heldPairS.T4:Bool × List (List Nat × List Nat):=(τ,[([],[]),([],[]),([0,1],[0,1]),([2],[2]),([3],[3]),([],[]),([5],[5]),([4,6],[4,6])])
def laws_heldPairS.B4:List Nat:=[0,0,3,7,15,0,32,127]
theorem laws_heldPairS.tab4:rtab .any (opsOf Tryz.f10 4)=laws_heldPairS.T4:=by kernel_rfl
theorem laws_heldPairS.bits4:waitsOk laws_heldPairS.T4.2 laws_heldPairS.B4=τ:=by kernel_rfl
def laws_heldPairS.T7:Bool × List (List Nat × List Nat):=(τ,[([],[]),([],[]),([0,1],[0,1]),([2],[2]),([3],[3]),([],[]),([5],[5]),([4,6],[4,6])])
def laws_heldPairS.B7:List Nat:=[0,0,3,7,15,0,32,127]
theorem laws_heldPairS.tab7:rtab .any (opsOf Tryz.f10 7)=laws_heldPairS.T7:=by kernel_rfl
theorem laws_heldPairS.bits7:waitsOk laws_heldPairS.T7.2 laws_heldPairS.B7=τ:=by kernel_rfl
theorem laws_heldPairS.calls (k:Nat) (A0:Option Addr) (c0:Nat) (l0:List (S37)) (a1:Int) (r:Int) (w:World) (hr0:Kd.C k37 w A0 l0.length l0) (hc0:l0.length≤c0) (h:laws_heldPairS.f k l0 a1=some r) :
  Calls Tryz.prog 10 #[.slice A0 l0.length c0,.int .i64 a1] w fun e w'=>e = .returned (.int .i64 r)∧Below w.heap.size w w':=by
 have HR0:=ζa hr0
 have HC0:=ζa hc0
 clear hr0 hc0
 have HB:=ζa (Below.refl w.heap.size w)
 have H:(laws_heldPairS.l0 k l0 a1 0)=some r:=h
 clear h
 have H':=ζa H
 clear H
 go_enter Tryz.func10,Tryz.ntmps10
 go_wp2
 go_loopg [1,5] k (fun kq v1 v5 w' => ∃ (x1_1:Int) (x5_1:Int),v1 = .int .i64 x1_1∧v5 = .int .i64 x5_1∧Aside0 (laws_heldPairS.l0 kq l0 x1_1 x5_1=some r)∧Aside0 (kq≤k)∧Aside0 (Below w.heap.size w w'))
 case atStart=>exact ⟨(a1),(0),(by rfl),(by rfl),H',⟨Nat.le_refl _⟩,⟨by repeat ((with_reducible exact HB.out))⟩⟩
 case round =>
  clear H'
  try clear c1
  try clear p2
  obtain ⟨x1_1,x5_1,rfl,rfl,HA,HK1,HB⟩:=hrel
  cases gk with
  | zero=>exact absurd HA.out (by simp [laws_heldPairS.l0])
  | succ k1 =>
   have H:=HA.out
   clear HA
   simp only [laws_heldPairS.l0] at H
   by_cases c3:x5_1<(l0.length:Int)
   ·
    rw [if_pos c3] at H
    have c3b0:=decide_eq_true c3
    clear c3
    by_cases c4:0≤x5_1
    ·
     rw [if_pos c4] at H
     have c4b0:=decide_eq_true c4
     clear c4
     obtain ⟨t427,A5,H⟩:=bsm H
     by_cases c6:((rd_T37 l0 x5_1).f0).toList=t427.toList
     ·
      rw [if_pos c6] at H
      have c6b0:=beq_iff_eq.mpr c6
      have c6b1:=bne_eq_false_iff_eq.mpr c6
      clear c6
      obtain ⟨t429,A7,H⟩:=bsm H
      by_cases c8:((rd_T37 l0 x5_1).f1).toList=t429.toList
      ·
       rw [if_pos c8] at H
       have c8b0:=beq_iff_eq.mpr c8
       have c8b1:=bne_eq_false_iff_eq.mpr c8
       clear c8
       have H':=ζa H
       clear H
       try go_wp2
       replace HB:=ζa (δj HB.out)
       have p426:0≤(x5_1:Int):=of_decide_eq_true (by (with_reducible assumption))
       have q426:x5_1<(l0.length:Int):=of_decide_eq_true (by (with_reducible assumption))
       obtain ⟨ad426,e426,hx426_0,hx426_1⟩:=at_T37 HR0.out x5_1 p426 q426
       have hw426_1:=hx426_1
       have hw426_0:=hx426_0
       cases e426
       replace hx426_0:=(HB.out.cell (World.block_lt_of_cell? w _ hx426_0)).trans hx426_0
       replace hx426_1:=(HB.out.cell (World.block_lt_of_cell? w _ hx426_1)).trans hx426_1
       replace p426:=eq_true p426
       replace q426:=eq_true q426
       refine sta 8 (fun w'=>w'.cell? (ad426.add ((x5_1).toNat * 2))=some (.string ((rd_T37 l0 x5_1).f0))∧w'.cell? ⟨(ad426.add ((x5_1).toNat * 2)).block,(ad426.add ((x5_1).toNat * 2)).off+1,none⟩=some (.string ((rd_T37 l0 x5_1).f1))) [] laws_heldPairS.tab4 laws_heldPairS.bits4 ⟨((HB.out.cell (World.block_lt_of_cell? w _ hw426_0)).trans hw426_0),((HB.out.cell (World.block_lt_of_cell? w _ hw426_1)).trans hw426_1)⟩ (fun hHeld HT_ HW_ => ?_)
       generalize wr.drew=w9 at HB hx426_0 hx426_1 hHeld ⊢
       refine pu 0 12 ?_
       refine pu 1 13 ?_
       refine pu 2 14 ?_
       refine pu 3 15 ?_
       refine pu 5 17 ?_
       refine ta 4 16 ?_
       refine on 6 18 (fun K hK => ?_)
       refine gs Tryz.func18 #[.int .i64 x1_1] ?_
       with_reducible refine (laws_markText.calls k1 x1_1 t427 _ A5.out).mono ?_
       rintro e w10 ⟨rfl,hb⟩
       refine ⟨_,rfl,?_⟩
       replace HB:=ζa (δr (by exact HB.out) hb)
       (try clear hb)
       (try clear hb2)
       (try clear hk)
       (try clear hi)
       refine hK.out _ _ ⟨((HB.out.cell (World.block_lt_of_cell? w _ hw426_0)).trans hw426_0),((HB.out.cell (World.block_lt_of_cell? w _ hw426_1)).trans hw426_1)⟩ (fun hHeld => ?_)
       clear hK K
       refine nm 18 ?_
       refine pu 7 19 ?_
       refine done_ (done_of HT_.out (by kernel_rfl)) ?_
       try go_wp2
       replace HB:=ζa (δj HB.out)
       have p428:0≤(x5_1:Int):=of_decide_eq_true (by (with_reducible assumption))
       have q428:x5_1<(l0.length:Int):=of_decide_eq_true (by (with_reducible assumption))
       obtain ⟨ad428,e428,hx428_0,hx428_1⟩:=at_T37 HR0.out x5_1 p428 q428
       have hw428_1:=hx428_1
       have hw428_0:=hx428_0
       obtain rfl:ad426=ad428:=(by injection e428)
       replace hx428_0:=(HB.out.cell (World.block_lt_of_cell? w _ hx428_0)).trans hx428_0
       replace hx428_1:=(HB.out.cell (World.block_lt_of_cell? w _ hx428_1)).trans hx428_1
       replace p428:=eq_true p428
       replace q428:=eq_true q428
       refine sta 8 (fun w'=>w'.cell? (ad426.add ((x5_1).toNat * 2))=some (.string ((rd_T37 l0 x5_1).f0))∧w'.cell? ⟨(ad426.add ((x5_1).toNat * 2)).block,(ad426.add ((x5_1).toNat * 2)).off+1,none⟩=some (.string ((rd_T37 l0 x5_1).f1))) [] laws_heldPairS.tab7 laws_heldPairS.bits7 ⟨((HB.out.cell (World.block_lt_of_cell? w _ hw428_0)).trans hw428_0),((HB.out.cell (World.block_lt_of_cell? w _ hw428_1)).trans hw428_1)⟩ (fun hHeld HT_ HW_ => ?_)
       generalize w10.drew=w11 at HB hx428_0 hx428_1 hHeld ⊢
       refine pu 0 22 ?_
       refine pu 1 23 ?_
       refine pu 2 24 ?_
       refine pu 3 25 ?_
       refine pu 5 27 ?_
       refine ta 4 26 ?_
       refine on 6 28 (fun K hK => ?_)
       refine gs Tryz.func18 #[.int .i64 (ζm (x1_1+1))] ?_
       with_reducible refine (laws_markText.calls k1 (ζm (x1_1+1)) t429 _ A7.out).mono ?_
       rintro e w12 ⟨rfl,hb⟩
       refine ⟨_,rfl,?_⟩
       replace HB:=ζa (δr (by exact HB.out) hb)
       (try clear hb)
       (try clear hb2)
       (try clear hk)
       (try clear hi)
       refine hK.out _ _ ⟨((HB.out.cell (World.block_lt_of_cell? w _ hw428_0)).trans hw428_0),((HB.out.cell (World.block_lt_of_cell? w _ hw428_1)).trans hw428_1)⟩ (fun hHeld => ?_)
       clear hK K
       refine nm 28 ?_
       refine pu 7 29 ?_
       refine done_ (done_of HT_.out (by kernel_rfl)) ?_
       try go_wp2
       go_roundg k1
       case measure=>have:=HK1.out;omega
       case rel=>exact ⟨(ζm ((ζm (x1_1+1))+1)),(ζm (x5_1+1)),(by rfl),(by rfl),H',⟨by have:=HK1.out;omega⟩,⟨by repeat ((with_reducible exact HB.out))⟩⟩
      ·
       rw [if_neg c8] at H
       have c8b0:=beq_eq_false_iff_ne.mpr c8
       have c8b1:=bne_iff_ne.mpr c8
       obtain rfl:=Option.some.inj H
       try go_wp2
       replace HB:=ζa (δj HB.out)
       have p426:0≤(x5_1:Int):=of_decide_eq_true (by (with_reducible assumption))
       have q426:x5_1<(l0.length:Int):=of_decide_eq_true (by (with_reducible assumption))
       obtain ⟨ad426,e426,hx426_0,hx426_1⟩:=at_T37 HR0.out x5_1 p426 q426
       have hw426_1:=hx426_1
       have hw426_0:=hx426_0
       cases e426
       replace hx426_0:=(HB.out.cell (World.block_lt_of_cell? w _ hx426_0)).trans hx426_0
       replace hx426_1:=(HB.out.cell (World.block_lt_of_cell? w _ hx426_1)).trans hx426_1
       replace p426:=eq_true p426
       replace q426:=eq_true q426
       refine sta 8 (fun w'=>w'.cell? (ad426.add ((x5_1).toNat * 2))=some (.string ((rd_T37 l0 x5_1).f0))∧w'.cell? ⟨(ad426.add ((x5_1).toNat * 2)).block,(ad426.add ((x5_1).toNat * 2)).off+1,none⟩=some (.string ((rd_T37 l0 x5_1).f1))) [] laws_heldPairS.tab4 laws_heldPairS.bits4 ⟨((HB.out.cell (World.block_lt_of_cell? w _ hw426_0)).trans hw426_0),((HB.out.cell (World.block_lt_of_cell? w _ hw426_1)).trans hw426_1)⟩ (fun hHeld HT_ HW_ => ?_)
       generalize wr.drew=w13 at HB hx426_0 hx426_1 hHeld ⊢
       refine pu 0 12 ?_
       refine pu 1 13 ?_
       refine pu 2 14 ?_
       refine pu 3 15 ?_
       refine pu 5 17 ?_
       refine ta 4 16 ?_
       refine on 6 18 (fun K hK => ?_)
       refine gs Tryz.func18 #[.int .i64 x1_1] ?_
       with_reducible refine (laws_markText.calls k1 x1_1 t427 _ A5.out).mono ?_
       rintro e w14 ⟨rfl,hb⟩
       refine ⟨_,rfl,?_⟩
       replace HB:=ζa (δr (by exact HB.out) hb)
       (try clear hb)
       (try clear hb2)
       (try clear hk)
       (try clear hi)
       refine hK.out _ _ ⟨((HB.out.cell (World.block_lt_of_cell? w _ hw426_0)).trans hw426_0),((HB.out.cell (World.block_lt_of_cell? w _ hw426_1)).trans hw426_1)⟩ (fun hHeld => ?_)
       clear hK K
       refine nm 18 ?_
       refine pu 7 19 ?_
       refine done_ (done_of HT_.out (by kernel_rfl)) ?_
       try go_wp2
       replace HB:=ζa (δj HB.out)
       have p428:0≤(x5_1:Int):=of_decide_eq_true (by (with_reducible assumption))
       have q428:x5_1<(l0.length:Int):=of_decide_eq_true (by (with_reducible assumption))
       obtain ⟨ad428,e428,hx428_0,hx428_1⟩:=at_T37 HR0.out x5_1 p428 q428
       have hw428_1:=hx428_1
       have hw428_0:=hx428_0
       obtain rfl:ad426=ad428:=(by injection e428)
       replace hx428_0:=(HB.out.cell (World.block_lt_of_cell? w _ hx428_0)).trans hx428_0
       replace hx428_1:=(HB.out.cell (World.block_lt_of_cell? w _ hx428_1)).trans hx428_1
       replace p428:=eq_true p428
       replace q428:=eq_true q428
       refine sta 8 (fun w'=>w'.cell? (ad426.add ((x5_1).toNat * 2))=some (.string ((rd_T37 l0 x5_1).f0))∧w'.cell? ⟨(ad426.add ((x5_1).toNat * 2)).block,(ad426.add ((x5_1).toNat * 2)).off+1,none⟩=some (.string ((rd_T37 l0 x5_1).f1))) [] laws_heldPairS.tab7 laws_heldPairS.bits7 ⟨((HB.out.cell (World.block_lt_of_cell? w _ hw428_0)).trans hw428_0),((HB.out.cell (World.block_lt_of_cell? w _ hw428_1)).trans hw428_1)⟩ (fun hHeld HT_ HW_ => ?_)
       generalize w14.drew=w15 at HB hx428_0 hx428_1 hHeld ⊢
       refine pu 0 22 ?_
       refine pu 1 23 ?_
       refine pu 2 24 ?_
       refine pu 3 25 ?_
       refine pu 5 27 ?_
       refine ta 4 26 ?_
       refine on 6 28 (fun K hK => ?_)
       refine gs Tryz.func18 #[.int .i64 (ζm (x1_1+1))] ?_
       with_reducible refine (laws_markText.calls k1 (ζm (x1_1+1)) t429 _ A7.out).mono ?_
       rintro e w16 ⟨rfl,hb⟩
       refine ⟨_,rfl,?_⟩
       replace HB:=ζa (δr (by exact HB.out) hb)
       (try clear hb)
       (try clear hb2)
       (try clear hk)
       (try clear hi)
       refine hK.out _ _ ⟨((HB.out.cell (World.block_lt_of_cell? w _ hw428_0)).trans hw428_0),((HB.out.cell (World.block_lt_of_cell? w _ hw428_1)).trans hw428_1)⟩ (fun hHeld => ?_)
       clear hK K
       refine nm 28 ?_
       refine pu 7 29 ?_
       refine done_ (done_of HT_.out (by kernel_rfl)) ?_
       try go_wp2
       go_ret
       exact ⟨by rfl,by repeat ((with_reducible exact HB.out))⟩
     ·
      rw [if_neg c6] at H
      have c6b0:=beq_eq_false_iff_ne.mpr c6
      have c6b1:=bne_iff_ne.mpr c6
      obtain rfl:=Option.some.inj H
      try go_wp2
      replace HB:=ζa (δj HB.out)
      have p426:0≤(x5_1:Int):=of_decide_eq_true (by (with_reducible assumption))
      have q426:x5_1<(l0.length:Int):=of_decide_eq_true (by (with_reducible assumption))
      obtain ⟨ad426,e426,hx426_0,hx426_1⟩:=at_T37 HR0.out x5_1 p426 q426
      have hw426_1:=hx426_1
      have hw426_0:=hx426_0
      cases e426
      replace hx426_0:=(HB.out.cell (World.block_lt_of_cell? w _ hx426_0)).trans hx426_0
      replace hx426_1:=(HB.out.cell (World.block_lt_of_cell? w _ hx426_1)).trans hx426_1
      replace p426:=eq_true p426
      replace q426:=eq_true q426
      refine sta 8 (fun w'=>w'.cell? (ad426.add ((x5_1).toNat * 2))=some (.string ((rd_T37 l0 x5_1).f0))∧w'.cell? ⟨(ad426.add ((x5_1).toNat * 2)).block,(ad426.add ((x5_1).toNat * 2)).off+1,none⟩=some (.string ((rd_T37 l0 x5_1).f1))) [] laws_heldPairS.tab4 laws_heldPairS.bits4 ⟨((HB.out.cell (World.block_lt_of_cell? w _ hw426_0)).trans hw426_0),((HB.out.cell (World.block_lt_of_cell? w _ hw426_1)).trans hw426_1)⟩ (fun hHeld HT_ HW_ => ?_)
      generalize wr.drew=w17 at HB hx426_0 hx426_1 hHeld ⊢
      refine pu 0 12 ?_
      refine pu 1 13 ?_
      refine pu 2 14 ?_
      refine pu 3 15 ?_
      refine pu 5 17 ?_
      refine ta 4 16 ?_
      refine on 6 18 (fun K hK => ?_)
      refine gs Tryz.func18 #[.int .i64 x1_1] ?_
      with_reducible refine (laws_markText.calls k1 x1_1 t427 _ A5.out).mono ?_
      rintro e w18 ⟨rfl,hb⟩
      refine ⟨_,rfl,?_⟩
      replace HB:=ζa (δr (by exact HB.out) hb)
      (try clear hb)
      (try clear hb2)
      (try clear hk)
      (try clear hi)
      refine hK.out _ _ ⟨((HB.out.cell (World.block_lt_of_cell? w _ hw426_0)).trans hw426_0),((HB.out.cell (World.block_lt_of_cell? w _ hw426_1)).trans hw426_1)⟩ (fun hHeld => ?_)
      clear hK K
      refine nm 18 ?_
      refine pu 7 19 ?_
      refine done_ (done_of HT_.out (by kernel_rfl)) ?_
      try go_wp2
      go_ret
      exact ⟨by rfl,by repeat ((with_reducible exact HB.out))⟩
    ·
     rw [if_neg c4] at H
     exact absurd H (by simp)
   ·
    rw [if_neg c3] at H
    have c3b0:=decide_eq_false c3
    clear c3
    obtain rfl:=Option.some.inj H
    go_wp2
    go_ret
    exact ⟨by rfl,by repeat ((with_reducible exact HB.out))⟩


open Go.Proofs.YtjhhehjjnfnigaaGreatDoorW.PrintWords renaming gate_callee → δv, below_step → δr, below_size → δs
open List renaming map_toArray → δd, map_cons → δe, map_nil → δf, setIfInBounds_toArray → δa, set_cons_zero → δb, set_cons_succ → δc
open Go.Act renaming put → ζl
set_option maxHeartbeats 8000000
set_option maxRecDepth 100000

/-! ### laws_FnExactTakeOrder: function 3 -/
mutual
def laws_FnExactTakeOrder.j0:Nat→ByteArray→List (S33)→ByteArray→List (S37)→Bool→Int→List (S37)→List (S37)→Bool→Int→Bool→Option (Bool)
 | 0,_,_,_,_,_,_,_,_,_,_,_=>none
 | k+1,x0,x1,x2,x8,x9,x10,x11,x12,x13,x14,x64=>if x64=τ then (some φ) else ((laws_toPairS.f k x1).bind fun t448=>((laws_eqPairS.f k x11 t448).bind fun t451=>(if t451=τ then ((laws_markPairS.f k x11 1).bind fun bt452=>(if bt452.1<0 then (laws_FnExactTakeOrder.j1 k x0 x1 x2 x8 x9 x10 x12 τ) else ((laws_eqPairS.f k x12 x8).bind fun t454=>(if t454=τ then (if (x13 != x9)=τ then (laws_FnExactTakeOrder.j1 k x0 x1 x2 x8 x9 x10 x12 τ) else (laws_FnExactTakeOrder.j1 k x0 x1 x2 x8 x9 x10 x12 (x14 != x10))) else (laws_FnExactTakeOrder.j1 k x0 x1 x2 x8 x9 x10 x12 τ))))) else (some φ))))
def laws_FnExactTakeOrder.j1:Nat→ByteArray→List (S33)→ByteArray→List (S37)→Bool→Int→List (S37)→Bool→Option (Bool)
 | 0,_,_,_,_,_,_,_,_=>none
 | k+1,x0,x1,x2,x8,x9,x10,x12,x90=>if x90=τ then (some φ) else ((laws_markPairS.f k x12 1).bind fun bt455=>((laws_heldPairS.f k bt455.2 1).bind fun t457=>(if t457<0 then (some φ) else (if t457=bt455.1 then ((laws_toPairS.f k x1).bind fun t458=>((impl_TakeOrder.f k x0 t458 x2).bind fun bt461=>((laws_eqPairS.f k bt461.1 x8).bind fun t466=>(if t466=τ then (if (bt461.2.1 != x9)=τ then (laws_FnExactTakeOrder.j2 k bt455.2 bt455.1 τ) else (laws_FnExactTakeOrder.j2 k bt455.2 bt455.1 (bt461.2.2 != x10))) else (laws_FnExactTakeOrder.j2 k bt455.2 bt455.1 τ))))) else (some φ)))))
def laws_FnExactTakeOrder.j2:Nat→List (S37)→Int→Bool→Option (Bool)
 | 0,_,_,_=>none
 | k+1,x12,x16,x124=>if x124=τ then (some φ) else ((laws_heldPairS.f k x12 1).bind fun t467=>(if t467<0 then (some φ) else (if t467=x16 then (some τ) else (some φ))))
end
def laws_FnExactTakeOrder.f (k:Nat) (a0:ByteArray) (l1:List (S33)) (a2:ByteArray):Option (Bool):=if (a0.size:Int) > 1048576 then (some τ) else (if (a2.size:Int) > 1048576 then (some τ) else ((laws_szPairS.f k l1 1048576).bind fun t430=>(if t430<0 then (some τ) else ((laws_toPairS.f k l1).bind fun t431=>((spec_TakeOrder.f k a0 t431 a2).bind fun bt434=>((laws_toPairS.f k l1).bind fun t439=>((impl_TakeOrder.f k a0 t439 a2).bind fun bt442=>((laws_eqPairS.f k bt442.1 bt434.1).bind fun t447=>(if t447=τ then (if (bt442.2.1 != bt434.2.1)=τ then (laws_FnExactTakeOrder.j0 k a0 l1 a2 bt434.1 bt434.2.1 bt434.2.2 t439 bt442.1 bt442.2.1 bt442.2.2 τ) else (laws_FnExactTakeOrder.j0 k a0 l1 a2 bt434.1 bt434.2.1 bt434.2.2 t439 bt442.1 bt442.2.1 bt442.2.2 (bt442.2.2 != bt434.2.2))) else (laws_FnExactTakeOrder.j0 k a0 l1 a2 bt434.1 bt434.2.1 bt434.2.2 t439 bt442.1 bt442.2.1 bt442.2.2 τ))))))))))
theorem laws_FnExactTakeOrder.calls (k:Nat) (a0:ByteArray) (A1:Option Addr) (c1:Nat) (l1:List (S33)) (a2:ByteArray) (r:Bool) (w:World) (hr1:Kd.C k33 w A1 l1.length l1) (hc1:l1.length≤c1) (hT0:TabsOK w) (h:laws_FnExactTakeOrder.f k a0 l1 a2=some r) :
  Calls Tryz.prog 3 #[.string a0,.slice A1 l1.length c1,.string a2] w fun e w'=>e = .returned (.bool r)∧Below w.heap.size w w':=by
 have HT0:=ζa hT0
 clear hT0
 have HR1:=ζa hr1
 have HC1:=ζa hc1
 clear hr1 hc1
 have HB:=ζa (Below.refl w.heap.size w)
 have H:(if (a0.size:Int) > 1048576 then (some τ) else (if (a2.size:Int) > 1048576 then (some τ) else ((laws_szPairS.f k l1 1048576).bind fun t430=>(if t430<0 then (some τ) else ((laws_toPairS.f k l1).bind fun t431=>((spec_TakeOrder.f k a0 t431 a2).bind fun bt434=>((laws_toPairS.f k l1).bind fun t439=>((impl_TakeOrder.f k a0 t439 a2).bind fun bt442=>((laws_eqPairS.f k bt442.1 bt434.1).bind fun t447=>(if t447=τ then (if (bt442.2.1 != bt434.2.1)=τ then (laws_FnExactTakeOrder.j0 k a0 l1 a2 bt434.1 bt434.2.1 bt434.2.2 t439 bt442.1 bt442.2.1 bt442.2.2 τ) else (laws_FnExactTakeOrder.j0 k a0 l1 a2 bt434.1 bt434.2.1 bt434.2.2 t439 bt442.1 bt442.2.1 bt442.2.2 (bt442.2.2 != bt434.2.2))) else (laws_FnExactTakeOrder.j0 k a0 l1 a2 bt434.1 bt434.2.1 bt434.2.2 t439 bt442.1 bt442.2.1 bt442.2.2 τ)))))))))))=some r:=h
 clear h
 by_cases c4:(a0.size:Int) > 1048576
 ·
  rw [if_pos c4] at H
  have c4b0:decide (1048576<(a0.size:Int))=τ:=decide_eq_true c4
  have c4b1:decide (1048576<a0.size)=τ:=decide_eq_true (by omega)
  clear c4
  obtain rfl:=Option.some.inj H
  go_enter Tryz.func3,Tryz.ntmps3
  go_wp2
  go_ret
  exact ⟨by rfl,by repeat ((with_reducible exact HB.out))⟩
 ·
  rw [if_neg c4] at H
  have c4b0:decide (1048576<(a0.size:Int))=φ:=decide_eq_false c4
  have c4b1:decide (1048576<a0.size)=φ:=decide_eq_false (by omega)
  clear c4
  by_cases c5:(a2.size:Int) > 1048576
  ·
   rw [if_pos c5] at H
   have c5b0:decide (1048576<(a2.size:Int))=τ:=decide_eq_true c5
   have c5b1:decide (1048576<a2.size)=τ:=decide_eq_true (by omega)
   clear c5
   obtain rfl:=Option.some.inj H
   go_enter Tryz.func3,Tryz.ntmps3
   go_wp2
   go_ret
   exact ⟨by rfl,by repeat ((with_reducible exact HB.out))⟩
  ·
   rw [if_neg c5] at H
   have c5b0:decide (1048576<(a2.size:Int))=φ:=decide_eq_false c5
   have c5b1:decide (1048576<a2.size)=φ:=decide_eq_false (by omega)
   clear c5
   obtain ⟨t430,A6,H⟩:=bsm H
   by_cases c7:t430<0
   ·
    rw [if_pos c7] at H
    have c7b0:=decide_eq_true c7
    clear c7
    obtain rfl:=Option.some.inj H
    go_enter Tryz.func3,Tryz.ntmps3
    go_wp2_with (((with_reducible refine δv (f:=4) rfl ?_);refine goesL_ (some 29) rfl rfl Tryz.func4 (by kernel_rfl) rfl #[.slice A1 l1.length c1,.int .i64 1048576] rfl (by (try simp only [δd,δe,δf]);rfl) ?_;(with_reducible refine (laws_szPairS.calls k _ _ l1 1048576 t430 _ ?side1 ?side2 A6.out).mono ?_);(case side1=>repeat (exact HR1.out));(case side2=>exact HC1.out);rintro e w8 ⟨rfl,hb⟩;refine ⟨_,rfl,?_⟩;replace HB:=ζa (δr (by exact HB.out) hb);(try clear hb);(try clear hb2);(try clear hk);(try clear hi)))
    go_ret
    exact ⟨by rfl,by repeat ((with_reducible exact HB.out))⟩
   ·
    rw [if_neg c7] at H
    have c7b0:=decide_eq_false c7
    clear c7
    obtain ⟨t431,A9,H⟩:=bsm H
    obtain ⟨⟨t434,t435,t436⟩,A10,H⟩:=bsm H
    dsimp only at H
    obtain ⟨t439,A11,H⟩:=bsm H
    obtain ⟨⟨t442,t443,t444⟩,A12,H⟩:=bsm H
    dsimp only at H
    have HC13:=ζa H
    clear H
    go_enter Tryz.func3,Tryz.ntmps3
    go_upto_region 12 with (first|((with_reducible refine δv (f:=4) rfl ?_);refine goesL_ (some 29) rfl rfl Tryz.func4 (by kernel_rfl) rfl #[.slice A1 l1.length c1,.int .i64 1048576] rfl (by (try simp only [δd,δe,δf]);rfl) ?_;(with_reducible refine (laws_szPairS.calls k _ _ l1 1048576 t430 _ ?side1 ?side2 A6.out).mono ?_);(case side1=>repeat (exact HR1.out));(case side2=>exact HC1.out);rintro e w14 ⟨rfl,hb⟩;refine ⟨_,rfl,?_⟩;replace HB:=ζa (δr (by exact HB.out) hb);(try clear hb);(try clear hb2);(try clear hk);(try clear hi))|((with_reducible refine δv (f:=6) rfl ?_);refine goesL_ (some 35) rfl rfl Tryz.func6 (by kernel_rfl) rfl #[.slice A1 l1.length c1] rfl (by (try simp only [δd,δe,δf]);rfl) ?_;(with_reducible refine (laws_toPairS.calls k _ _ l1 t431 _ ?side1 ?side2 A9.out).mono ?_);(case side1=>repeat (exact (Kd.C_below HR1.out HB.out)));(case side2=>exact HC1.out);rintro e w15 ⟨v432,rfl,ho0,hb⟩;refine ⟨_,rfl,?_⟩;have HO433:=ζa (Kd.R_lower ho0 (δs (by exact HB.out)));replace HB:=ζa (δr (by exact HB.out) hb);(try clear hb);(try clear hb2);(try clear hk);(try clear hi);(try clear ho0);obtain ⟨Ao16,co16,eo16⟩:=Kd.R_slice HO433.out;subst eo16)|((with_reducible refine δv (f:=5) rfl ?_);refine goesL_ (some 37) rfl rfl Tryz.func5 (by kernel_rfl) rfl #[.string a0,.slice Ao16 t431.length co16,.string a2] rfl (by (try simp only [δd,δe,δf]);rfl) ?_;(with_reducible refine (spec_TakeOrder.calls k a0 _ _ t431 a2 t434 t435 t436 _ ?side1 ?side2 A10.out).mono ?_);(case side1=>repeat (exact (ζg HO433.out).2.2));(case side2=>exact (ζg HO433.out).2.1);rintro e w17 ⟨v437,rfl,ho0,hb⟩;refine ⟨_,rfl,?_⟩;have HO438:=ζa (Kd.R_lower (Kd.R_new' ho0 (Kd.R_lt (by exact HO433.out))) (δs (by exact HB.out)));replace HO433:=ζa (Kd.R_elder' (by exact HO433.out) (Kd.R_base ho0) hb);replace HB:=ζa (δr (by exact HB.out) hb);(try clear hb);(try clear hb2);(try clear hk);(try clear hi);(try clear ho0))|((with_reducible refine δv (f:=6) rfl ?_);refine goesL_ (some 42) rfl rfl Tryz.func6 (by kernel_rfl) rfl #[.slice A1 l1.length c1] rfl (by (try simp only [δd,δe,δf]);rfl) ?_;(with_reducible refine (laws_toPairS.calls k _ _ l1 t439 _ ?side1 ?side2 A11.out).mono ?_);(case side1=>repeat (exact (Kd.C_below HR1.out HB.out)));(case side2=>exact HC1.out);rintro e w18 ⟨v440,rfl,ho0,hb⟩;refine ⟨_,rfl,?_⟩;have HO441:=ζa (Kd.R_lower (Kd.R_new' (Kd.R_new' ho0 (Kd.R_lt (by exact HO433.out))) (Kd.R_lt (by exact HO438.out))) (δs (by exact HB.out)));replace HO433:=ζa (Kd.R_elder' (by exact HO433.out) (Kd.R_base ho0) hb);replace HO438:=ζa (Kd.R_elder' (by exact HO438.out) (Kd.R_base ho0) hb);replace HB:=ζa (δr (by exact HB.out) hb);(try clear hb);(try clear hb2);(try clear hk);(try clear hi);(try clear ho0);obtain ⟨Ao19,co19,eo19⟩:=Kd.R_slice HO441.out;subst eo19)|((with_reducible refine δv (f:=7) rfl ?_);refine goesL_ (some 47) rfl rfl Tryz.func7 (by kernel_rfl) rfl #[.string a0,.slice Ao19 t439.length co19,.string a2] rfl (by (try simp only [δd,δe,δf]);rfl) ?_;(with_reducible refine (impl_TakeOrder.calls k a0 _ _ t439 a2 t442 t443 t444 _ ?side1 ?side2 (HT0.out.below (by exact HB.out)) A12.out).mono ?_);(case side1=>repeat (exact (ζg HO441.out).2.2));(case side2=>exact (ζg HO441.out).2.1);rintro e w20 ⟨v445,rfl,ho0,hb⟩;refine ⟨_,rfl,?_⟩;have HO446:=ζa (Kd.R_lower (Kd.R_new' (Kd.R_new' (Kd.R_new' ho0 (Kd.R_lt (by exact HO433.out))) (Kd.R_lt (by exact HO438.out))) (Kd.R_lt (by exact HO441.out))) (δs (by exact HB.out)));replace HO433:=ζa (Kd.R_elder' (by exact HO433.out) (Kd.R_base ho0) hb);replace HO438:=ζa (Kd.R_elder' (by exact HO438.out) (Kd.R_base ho0) hb);replace HO441:=ζa (Kd.R_elder' (by exact HO441.out) (Kd.R_base ho0) hb);replace HB:=ζa (δr (by exact HB.out) hb);(try clear hb);(try clear hb2);(try clear hk);(try clear hi);(try clear ho0)))
    (try simp only [ζl,δa,δb,δc])
    go_cut [64] (fun v64 wc => ∃ (kq:Nat) (x64_12:Bool),v64 = .bool x64_12∧Aside0 (laws_FnExactTakeOrder.j0 kq a0 l1 a2 t434 t435 t436 t439 t442 t443 t444 x64_12=some r)∧Aside0 (kq≤k)∧Aside0 (Kd.R k37 37 wc w.heap.size (fun k_=>some k_≠((.slice Ao19 t439.length co19):Value).ownBlock∧some k_≠(v445:Value).ownBlock) v437 t434)∧Aside0 (Kd.R k37 37 wc w.heap.size (fun k_=>some k_≠(v437:Value).ownBlock∧some k_≠(v445:Value).ownBlock) (.slice Ao19 t439.length co19) t439)∧Aside0 (Kd.R k37 37 wc w.heap.size (fun k_=>some k_≠(v437:Value).ownBlock∧some k_≠((.slice Ao19 t439.length co19):Value).ownBlock) v445 t442)∧Aside0 (Below w.heap.size w wc))
    case first =>
     have H:=HC13.out
     clear HC13
     obtain ⟨t447,A21,H⟩:=bsm H
     by_cases c22:t447=τ
     ·
      subst c22
      rw [ifT] at H
      by_cases c23:(t443 != t435)=τ
      ·
       rw [if_pos c23] at H
       have c23b0:(t443 != t435)=τ:=c23
       (try (have c23b1:decide (t443=t435)=φ:=by simpa using c23))
       (try (have c23b2:(t443 == t435)=φ:=by simpa using c23))
       (try (have c23b3 : ¬ (t443=t435):=by simpa using c23))
       clear c23
       have H':=ζa H
       clear H
       obtain ⟨Ao24,co24,eo24⟩:=Kd.R_slice HO446.out
       subst eo24
       obtain ⟨Ao25,co25,eo25⟩:=Kd.R_slice HO438.out
       subst eo25
       go_wp2_with (((with_reducible refine δv (f:=8) rfl ?_);refine goesL_ (some 53) rfl rfl Tryz.func8 (by kernel_rfl) rfl #[.slice Ao24 t442.length co24,.slice Ao25 t434.length co25] rfl (by (try simp only [δd,δe,δf]);rfl) ?_;(with_reducible refine (laws_eqPairS.calls k _ _ t442 _ _ t434 τ _ ?side1 ?side2 ?side3 ?side4 A21.out).mono ?_);(case side1=>repeat (exact (ζg HO446.out).2.2));(case side2=>exact (ζg HO446.out).2.1);(case side3=>repeat (exact (ζg HO438.out).2.2));(case side4=>exact (ζg HO438.out).2.1);rintro e w26 ⟨rfl,hb⟩;refine ⟨_,rfl,?_⟩;replace HO433:=ζa (ζh (by exact HO433.out) hb);replace HO438:=ζa (ζh (by exact HO438.out) hb);replace HO441:=ζa (ζh (by exact HO441.out) hb);replace HO446:=ζa (ζh (by exact HO446.out) hb);replace HB:=ζa (δr (by exact HB.out) hb);(try clear hb);(try clear hb2);(try clear hk);(try clear hi)))
       go_meet
       case rel=>exact ⟨_,(τ),(by rfl),H',⟨by omega⟩,⟨by exact Kd.R_mono HO438.out (fun _ hk=>⟨hk.1.2,hk.2⟩)⟩,⟨by exact Kd.R_mono HO441.out (fun _ hk=>⟨hk.1.2,hk.2⟩)⟩,⟨by exact Kd.R_mono HO446.out (fun _ hk=>⟨hk.1.2,hk.2⟩)⟩,⟨by repeat ((with_reducible exact HB.out))⟩⟩
      ·
       rw [if_neg c23] at H
       have c23b0:(t443 != t435)=φ:=by simpa using c23
       (try (have c23b1:decide (t443=t435)=τ:=by simpa using c23))
       (try (have c23b2:(t443 == t435)=τ:=by simpa using c23))
       clear c23
       have H':=ζa H
       clear H
       obtain ⟨Ao27,co27,eo27⟩:=Kd.R_slice HO446.out
       subst eo27
       obtain ⟨Ao28,co28,eo28⟩:=Kd.R_slice HO438.out
       subst eo28
       go_wp2_with (((with_reducible refine δv (f:=8) rfl ?_);refine goesL_ (some 53) rfl rfl Tryz.func8 (by kernel_rfl) rfl #[.slice Ao27 t442.length co27,.slice Ao28 t434.length co28] rfl (by (try simp only [δd,δe,δf]);rfl) ?_;(with_reducible refine (laws_eqPairS.calls k _ _ t442 _ _ t434 τ _ ?side1 ?side2 ?side3 ?side4 A21.out).mono ?_);(case side1=>repeat (exact (ζg HO446.out).2.2));(case side2=>exact (ζg HO446.out).2.1);(case side3=>repeat (exact (ζg HO438.out).2.2));(case side4=>exact (ζg HO438.out).2.1);rintro e w29 ⟨rfl,hb⟩;refine ⟨_,rfl,?_⟩;replace HO433:=ζa (ζh (by exact HO433.out) hb);replace HO438:=ζa (ζh (by exact HO438.out) hb);replace HO441:=ζa (ζh (by exact HO441.out) hb);replace HO446:=ζa (ζh (by exact HO446.out) hb);replace HB:=ζa (δr (by exact HB.out) hb);(try clear hb);(try clear hb2);(try clear hk);(try clear hi)))
       go_meet
       case rel=>exact ⟨_,((t444 != t436)),(by rfl),H',⟨by omega⟩,⟨by exact Kd.R_mono HO438.out (fun _ hk=>⟨hk.1.2,hk.2⟩)⟩,⟨by exact Kd.R_mono HO441.out (fun _ hk=>⟨hk.1.2,hk.2⟩)⟩,⟨by exact Kd.R_mono HO446.out (fun _ hk=>⟨hk.1.2,hk.2⟩)⟩,⟨by repeat ((with_reducible exact HB.out))⟩⟩
     ·
      replace c22:=Bool.eq_false_iff.mpr c22
      subst c22
      rw [ifF] at H
      have H':=ζa H
      clear H
      obtain ⟨Ao30,co30,eo30⟩:=Kd.R_slice HO446.out
      subst eo30
      obtain ⟨Ao31,co31,eo31⟩:=Kd.R_slice HO438.out
      subst eo31
      go_wp2_with (((with_reducible refine δv (f:=8) rfl ?_);refine goesL_ (some 53) rfl rfl Tryz.func8 (by kernel_rfl) rfl #[.slice Ao30 t442.length co30,.slice Ao31 t434.length co31] rfl (by (try simp only [δd,δe,δf]);rfl) ?_;(with_reducible refine (laws_eqPairS.calls k _ _ t442 _ _ t434 φ _ ?side1 ?side2 ?side3 ?side4 A21.out).mono ?_);(case side1=>repeat (exact (ζg HO446.out).2.2));(case side2=>exact (ζg HO446.out).2.1);(case side3=>repeat (exact (ζg HO438.out).2.2));(case side4=>exact (ζg HO438.out).2.1);rintro e w32 ⟨rfl,hb⟩;refine ⟨_,rfl,?_⟩;replace HO433:=ζa (ζh (by exact HO433.out) hb);replace HO438:=ζa (ζh (by exact HO438.out) hb);replace HO441:=ζa (ζh (by exact HO441.out) hb);replace HO446:=ζa (ζh (by exact HO446.out) hb);replace HB:=ζa (δr (by exact HB.out) hb);(try clear hb);(try clear hb2);(try clear hk);(try clear hi)))
      go_meet
      case rel=>exact ⟨_,(τ),(by rfl),H',⟨by omega⟩,⟨by exact Kd.R_mono HO438.out (fun _ hk=>⟨hk.1.2,hk.2⟩)⟩,⟨by exact Kd.R_mono HO441.out (fun _ hk=>⟨hk.1.2,hk.2⟩)⟩,⟨by exact Kd.R_mono HO446.out (fun _ hk=>⟨hk.1.2,hk.2⟩)⟩,⟨by repeat ((with_reducible exact HB.out))⟩⟩
    case rest =>
     clear HC13
     try clear c1
     try clear c2
     try clear p2
     try clear c3
     try clear c4
     try clear c4b0
     try clear c4b1
     try clear c5
     try clear c5b0
     try clear c5b1
     try clear c6
     try clear c7
     try clear c7b0
     try clear c8
     try clear c22
     try clear c23
     try clear c23b0
     try clear c23b1
     try clear c23b2
     obtain ⟨kq,x64_12,rfl,HA,HJ12,HO_8,HO_11,HO_12,HB⟩:=hcut
     cases kq with
     | zero=>exact absurd HA.out (by simp [laws_FnExactTakeOrder.j0])
     | succ kj12 =>
      have H:=HA.out
      clear HA
      simp only [laws_FnExactTakeOrder.j0] at H
      by_cases c33:x64_12=τ
      ·
       subst c33
       rw [ifT] at H
       obtain rfl:=Option.some.inj H
       go_wp2
       go_ret
       exact ⟨by rfl,by repeat ((with_reducible exact HB.out))⟩
      ·
       replace c33:=Bool.eq_false_iff.mpr c33
       subst c33
       rw [ifF] at H
       obtain ⟨t448,A34,H⟩:=bsm H
       obtain ⟨t451,A35,H⟩:=bsm H
       by_cases c36:t451=τ
       ·
        subst c36
        rw [ifT] at H
        obtain ⟨⟨t452,t453⟩,A37,H⟩:=bsm H
        dsimp only at H
        have HC38:=ζa H
        clear H
        go_upto_region 18 with (first|((with_reducible refine δv (f:=6) rfl ?_);refine goesL_ (some 67) rfl rfl Tryz.func6 (by kernel_rfl) rfl #[.slice A1 l1.length c1] rfl (by (try simp only [δd,δe,δf]);rfl) ?_;(with_reducible refine (laws_toPairS.calls kj12 _ _ l1 t448 _ ?side1 ?side2 A34.out).mono ?_);(case side1=>repeat (exact (Kd.C_below HR1.out HB.out)));(case side2=>exact HC1.out);rintro e w39 ⟨v449,rfl,ho0,hb⟩;refine ⟨_,rfl,?_⟩;have HO450:=ζa (Kd.R_lower (Kd.R_new' (Kd.R_new' (Kd.R_new' ho0 (Kd.R_lt (by exact HO_8.out))) (Kd.R_lt (by exact HO_11.out))) (Kd.R_lt (by exact HO_12.out))) (δs (by exact HB.out)));replace HO_8:=ζa (Kd.R_elder' (by exact HO_8.out) (Kd.R_base ho0) hb);replace HO_11:=ζa (Kd.R_elder' (by exact HO_11.out) (Kd.R_base ho0) hb);replace HO_12:=ζa (Kd.R_elder' (by exact HO_12.out) (Kd.R_base ho0) hb);replace HB:=ζa (δr (by exact HB.out) hb);(try clear hb);(try clear hb2);(try clear hk);(try clear hi);(try clear ho0);obtain ⟨Ao40,co40,eo40⟩:=Kd.R_slice HO450.out;subst eo40)|((with_reducible refine δv (f:=8) rfl ?_);refine goesL_ (some 68) rfl rfl Tryz.func8 (by kernel_rfl) rfl #[.slice Ao19 t439.length co19,.slice Ao40 t448.length co40] rfl (by (try simp only [δd,δe,δf]);rfl) ?_;(with_reducible refine (laws_eqPairS.calls kj12 _ _ t439 _ _ t448 τ _ ?side1 ?side2 ?side3 ?side4 A35.out).mono ?_);(case side1=>repeat (exact (ζg HO_11.out).2.2));(case side2=>exact (ζg HO_11.out).2.1);(case side3=>repeat (exact (ζg HO450.out).2.2));(case side4=>exact (ζg HO450.out).2.1);rintro e w41 ⟨rfl,hb⟩;refine ⟨_,rfl,?_⟩;replace HO_8:=ζa (ζh (by exact HO_8.out) hb);replace HO_11:=ζa (ζh (by exact HO_11.out) hb);replace HO_12:=ζa (ζh (by exact HO_12.out) hb);replace HO450:=ζa (ζh (by exact HO450.out) hb);replace HB:=ζa (δr (by exact HB.out) hb);(try clear hb);(try clear hb2);(try clear hk);(try clear hi))|((with_reducible refine δv (f:=9) rfl ?_);refine goesL_ (some 72) rfl rfl Tryz.func9 (by kernel_rfl) rfl #[.slice Ao19 t439.length co19,.int .i64 1] rfl (by (try simp only [δd,δe,δf]);rfl) ?_;(with_reducible refine (laws_markPairS.calls kj12 (fun k_=>some k_=(.slice Ao19 t439.length co19:Value).ownBlock) (.slice Ao19 t439.length co19) t439 1 t452 t453 w _ ?side1 ?side2 A37.out).mono ?_);(case side1=>repeat ((with_reducible exact HB.out)));(case side2=>exact Kd.R_tight rfl HO_11.out);rintro e w42 ⟨rfl,hy0,hb,hkp⟩;refine ⟨_,rfl,?_⟩;replace HO_8:=ζa (Kd.R_mono (ok':=fun k_=>some k_≠(.slice Ao19 t439.length co19:Value).ownBlock∧some k_≠(v445:Value).ownBlock∧some k_≠(.slice Ao40 t448.length co40:Value).ownBlock) (Kd.R_keptB (HO_8.out) hkp (fun k_ hk_ hs_=>(hk_.1.1) hs_)) (fun k_ hk_=>⟨hk_.1.1.1,hk_.1.1.2,hk_.1.2⟩));replace HO_11:=ζa (Kd.R_reok rfl hy0 (fun k_ e_=>HO_11.out.1 k_ e_));replace HO_12:=ζa (Kd.R_mono (ok':=fun k_=>some k_≠(v437:Value).ownBlock∧some k_≠(.slice Ao19 t439.length co19:Value).ownBlock∧some k_≠(.slice Ao40 t448.length co40:Value).ownBlock) (Kd.R_keptB (HO_12.out) hkp (fun k_ hk_ hs_=>(hk_.1.2) hs_)) (fun k_ hk_=>⟨hk_.1.1.1,hk_.1.1.2,hk_.1.2⟩));replace HO450:=ζa (Kd.R_mono (ok':=fun k_=>some k_≠(v437:Value).ownBlock∧some k_≠(.slice Ao19 t439.length co19:Value).ownBlock∧some k_≠(v445:Value).ownBlock) (Kd.R_keptB (HO450.out) hkp (fun k_ hk_ hs_=>(hk_.1.2) hs_)) (fun k_ hk_=>⟨hk_.1.1.1.2,hk_.1.1.2,hk_.1.2⟩));replace HB:=ζa (hb);(try clear hb);(try clear hkp);(try clear hy0)))
        (try simp only [ζl,δa,δb,δc])
        go_cut [90] (fun v90 wc => ∃ (kq:Nat) (x90_37:Bool),v90 = .bool x90_37∧Aside0 (laws_FnExactTakeOrder.j1 kq a0 l1 a2 t434 t435 t436 t442 x90_37=some r)∧Aside0 (kq≤kj12)∧Aside0 (Kd.R k37 37 wc w.heap.size (fun k_=>some k_≠(v445:Value).ownBlock) v437 t434)∧Aside0 (Kd.R k37 37 wc w.heap.size (fun k_=>some k_≠(v437:Value).ownBlock) v445 t442)∧Aside0 (Below w.heap.size w wc))
        case first =>
         have H:=HC38.out
         clear HC38
         by_cases c43:t452<0
         ·
          rw [if_pos c43] at H
          have c43b0:=decide_eq_true c43
          clear c43
          have H':=ζa H
          clear H
          go_wp2
          go_meet
          case rel=>exact ⟨_,(τ),(by rfl),H',⟨by have:=HJ12.out;omega⟩,⟨by exact Kd.R_mono HO_8.out (fun _ hk=>hk.2.1)⟩,⟨by exact Kd.R_mono HO_12.out (fun _ hk=>hk.1)⟩,⟨by repeat ((with_reducible exact HB.out))⟩⟩
         ·
          rw [if_neg c43] at H
          have c43b0:=decide_eq_false c43
          clear c43
          obtain ⟨t454,A44,H⟩:=bsm H
          by_cases c45:t454=τ
          ·
           subst c45
           rw [ifT] at H
           by_cases c46:(t443 != t435)=τ
           ·
            rw [if_pos c46] at H
            have c46b0:(t443 != t435)=τ:=c46
            (try (have c46b1:decide (t443=t435)=φ:=by simpa using c46))
            (try (have c46b2:(t443 == t435)=φ:=by simpa using c46))
            (try (have c46b3 : ¬ (t443=t435):=by simpa using c46))
            clear c46
            have H':=ζa H
            clear H
            obtain ⟨Ao47,co47,eo47⟩:=Kd.R_slice HO_12.out
            subst eo47
            obtain ⟨Ao48,co48,eo48⟩:=Kd.R_slice HO_8.out
            subst eo48
            go_wp2_with ((go_at_call 8;(with_reducible refine (laws_eqPairS.calls kj12 _ _ t442 _ _ t434 τ _ ?side1 ?side2 ?side3 ?side4 A44.out).mono ?_);(case side1=>repeat (exact (ζg HO_12.out).2.2));(case side2=>exact (ζg HO_12.out).2.1);(case side3=>repeat (exact (ζg HO_8.out).2.2));(case side4=>exact (ζg HO_8.out).2.1);rintro e w49 ⟨rfl,hb⟩;replace HO_8:=ζa (ζh (by exact HO_8.out) hb);replace HO_11:=ζa (ζh (by exact HO_11.out) hb);replace HO_12:=ζa (ζh (by exact HO_12.out) hb);replace HO450:=ζa (ζh (by exact HO450.out) hb);replace HB:=ζa (δr (by exact HB.out) hb);(try clear hb);(try clear hb2);(try clear hk);(try clear hi)))
            go_meet
            case rel=>exact ⟨_,(τ),(by rfl),H',⟨by have:=HJ12.out;omega⟩,⟨by exact Kd.R_mono HO_8.out (fun _ hk=>hk.2.1)⟩,⟨by exact Kd.R_mono HO_12.out (fun _ hk=>hk.1)⟩,⟨by repeat ((with_reducible exact HB.out))⟩⟩
           ·
            rw [if_neg c46] at H
            have c46b0:(t443 != t435)=φ:=by simpa using c46
            (try (have c46b1:decide (t443=t435)=τ:=by simpa using c46))
            (try (have c46b2:(t443 == t435)=τ:=by simpa using c46))
            clear c46
            have H':=ζa H
            clear H
            obtain ⟨Ao50,co50,eo50⟩:=Kd.R_slice HO_12.out
            subst eo50
            obtain ⟨Ao51,co51,eo51⟩:=Kd.R_slice HO_8.out
            subst eo51
            go_wp2_with ((go_at_call 8;(with_reducible refine (laws_eqPairS.calls kj12 _ _ t442 _ _ t434 τ _ ?side1 ?side2 ?side3 ?side4 A44.out).mono ?_);(case side1=>repeat (exact (ζg HO_12.out).2.2));(case side2=>exact (ζg HO_12.out).2.1);(case side3=>repeat (exact (ζg HO_8.out).2.2));(case side4=>exact (ζg HO_8.out).2.1);rintro e w52 ⟨rfl,hb⟩;replace HO_8:=ζa (ζh (by exact HO_8.out) hb);replace HO_11:=ζa (ζh (by exact HO_11.out) hb);replace HO_12:=ζa (ζh (by exact HO_12.out) hb);replace HO450:=ζa (ζh (by exact HO450.out) hb);replace HB:=ζa (δr (by exact HB.out) hb);(try clear hb);(try clear hb2);(try clear hk);(try clear hi)))
            go_meet
            case rel=>exact ⟨_,((t444 != t436)),(by rfl),H',⟨by have:=HJ12.out;omega⟩,⟨by exact Kd.R_mono HO_8.out (fun _ hk=>hk.2.1)⟩,⟨by exact Kd.R_mono HO_12.out (fun _ hk=>hk.1)⟩,⟨by repeat ((with_reducible exact HB.out))⟩⟩
          ·
           replace c45:=Bool.eq_false_iff.mpr c45
           subst c45
           rw [ifF] at H
           have H':=ζa H
           clear H
           obtain ⟨Ao53,co53,eo53⟩:=Kd.R_slice HO_12.out
           subst eo53
           obtain ⟨Ao54,co54,eo54⟩:=Kd.R_slice HO_8.out
           subst eo54
           go_wp2_with ((go_at_call 8;(with_reducible refine (laws_eqPairS.calls kj12 _ _ t442 _ _ t434 φ _ ?side1 ?side2 ?side3 ?side4 A44.out).mono ?_);(case side1=>repeat (exact (ζg HO_12.out).2.2));(case side2=>exact (ζg HO_12.out).2.1);(case side3=>repeat (exact (ζg HO_8.out).2.2));(case side4=>exact (ζg HO_8.out).2.1);rintro e w55 ⟨rfl,hb⟩;replace HO_8:=ζa (ζh (by exact HO_8.out) hb);replace HO_11:=ζa (ζh (by exact HO_11.out) hb);replace HO_12:=ζa (ζh (by exact HO_12.out) hb);replace HO450:=ζa (ζh (by exact HO450.out) hb);replace HB:=ζa (δr (by exact HB.out) hb);(try clear hb);(try clear hb2);(try clear hk);(try clear hi)))
           go_meet
           case rel=>exact ⟨_,(τ),(by rfl),H',⟨by have:=HJ12.out;omega⟩,⟨by exact Kd.R_mono HO_8.out (fun _ hk=>hk.2.1)⟩,⟨by exact Kd.R_mono HO_12.out (fun _ hk=>hk.1)⟩,⟨by repeat ((with_reducible exact HB.out))⟩⟩
        case rest =>
         clear HC38
         try clear c1
         try clear c2
         try clear p2
         try clear c3
         try clear c4
         try clear c4b0
         try clear c4b1
         try clear c5
         try clear c5b0
         try clear c5b1
         try clear c6
         try clear c7
         try clear c7b0
         try clear c8
         try clear c9
         try clear c22
         try clear c23
         try clear c23b0
         try clear c23b1
         try clear c23b2
         try clear c33
         try clear c36
         try clear c43
         try clear c43b0
         try clear c45
         try clear c46
         try clear c46b0
         try clear c46b1
         try clear c46b2
         try clear p2
         obtain ⟨kq,x90_37,rfl,HA,HJ37,HO_8,HO_12,HB⟩:=hcut
         cases kq with
         | zero=>exact absurd HA.out (by simp [laws_FnExactTakeOrder.j1])
         | succ kj37 =>
          have H:=HA.out
          clear HA
          simp only [laws_FnExactTakeOrder.j1] at H
          by_cases c56:x90_37=τ
          ·
           subst c56
           rw [ifT] at H
           obtain rfl:=Option.some.inj H
           go_wp2
           go_ret
           exact ⟨by rfl,by repeat ((with_reducible exact HB.out))⟩
          ·
           replace c56:=Bool.eq_false_iff.mpr c56
           subst c56
           rw [ifF] at H
           obtain ⟨⟨t455,t456⟩,A57,H⟩:=bsm H
           dsimp only at H
           obtain ⟨t457,A58,H⟩:=bsm H
           by_cases c59:t457<0
           ·
            rw [if_pos c59] at H
            have c59b0:=decide_eq_true c59
            clear c59
            obtain rfl:=Option.some.inj H
            obtain ⟨Ao60,co60,eo60⟩:=Kd.R_slice HO_12.out
            subst eo60
            go_wp2_with (first|((with_reducible refine δv (f:=9) rfl ?_);refine goesL_ (some 93) rfl rfl Tryz.func9 (by kernel_rfl) rfl #[.slice Ao60 t442.length co60,.int .i64 1] rfl (by (try simp only [δd,δe,δf]);rfl) ?_;(with_reducible refine (laws_markPairS.calls kj37 (fun k_=>some k_=(.slice Ao60 t442.length co60:Value).ownBlock) (.slice Ao60 t442.length co60) t442 1 t455 t456 w _ ?side1 ?side2 A57.out).mono ?_);(case side1=>repeat ((with_reducible exact HB.out)));(case side2=>exact Kd.R_tight rfl HO_12.out);rintro e w61 ⟨rfl,hy0,hb,hkp⟩;refine ⟨_,rfl,?_⟩;replace HO_8:=ζa (Kd.R_mono (ok':=fun k_=>some k_≠(.slice Ao60 t442.length co60:Value).ownBlock) (Kd.R_keptB (HO_8.out) hkp (fun k_ hk_ hs_=>(hk_) hs_)) (fun k_ hk_=>hk_.1));replace HO_12:=ζa (Kd.R_reok rfl hy0 (fun k_ e_=>HO_12.out.1 k_ e_));replace HB:=ζa (hb);(try clear hb);(try clear hkp);(try clear hy0))|((with_reducible refine δv (f:=10) rfl ?_);refine goesL_ (some 96) rfl rfl Tryz.func10 (by kernel_rfl) rfl #[.slice Ao60 t456.length co60,.int .i64 1] rfl (by (try simp only [δd,δe,δf]);first|(rw [show t456.length=t442.length from (ζg HO_12.out).1.symm] <;> rfl)) ?_;(with_reducible refine (laws_heldPairS.calls kj37 _ _ t456 1 t457 _ ?side1 ?side2 A58.out).mono ?_);(case side1=>repeat (exact (ζg HO_12.out).2.2));(case side2=>rw [show t456.length=t442.length from (ζg HO_12.out).1.symm];exact (ζg HO_12.out).2.1);rintro e w62 ⟨rfl,hb⟩;refine ⟨_,rfl,?_⟩;replace HO_8:=ζa (ζh (by exact HO_8.out) hb);replace HO_12:=ζa (ζh (by exact HO_12.out) hb);replace HB:=ζa (δr (by exact HB.out) hb);(try clear hb);(try clear hb2);(try clear hk);(try clear hi)))
            go_ret
            exact ⟨by rfl,by repeat ((with_reducible exact HB.out))⟩
           ·
            rw [if_neg c59] at H
            have c59b0:=decide_eq_false c59
            clear c59
            by_cases c63:t457=t455
            ·
             rw [if_pos c63] at H
             have c63b0:=beq_iff_eq.mpr c63
             have c63b1:=bne_eq_false_iff_eq.mpr c63
             clear c63
             obtain ⟨t458,A64,H⟩:=bsm H
             obtain ⟨⟨t461,t462,t463⟩,A65,H⟩:=bsm H
             dsimp only at H
             have HC66:=ζa H
             clear H
             obtain ⟨Ao67,co67,eo67⟩:=Kd.R_slice HO_12.out
             subst eo67
             go_upto_region 29 with (first|((with_reducible refine δv (f:=9) rfl ?_);refine goesL_ (some 93) rfl rfl Tryz.func9 (by kernel_rfl) rfl #[.slice Ao67 t442.length co67,.int .i64 1] rfl (by (try simp only [δd,δe,δf]);rfl) ?_;(with_reducible refine (laws_markPairS.calls kj37 (fun k_=>some k_=(.slice Ao67 t442.length co67:Value).ownBlock) (.slice Ao67 t442.length co67) t442 1 t455 t456 w _ ?side1 ?side2 A57.out).mono ?_);(case side1=>repeat ((with_reducible exact HB.out)));(case side2=>exact Kd.R_tight rfl HO_12.out);rintro e w68 ⟨rfl,hy0,hb,hkp⟩;refine ⟨_,rfl,?_⟩;replace HO_8:=ζa (Kd.R_mono (ok':=fun k_=>some k_≠(.slice Ao67 t442.length co67:Value).ownBlock) (Kd.R_keptB (HO_8.out) hkp (fun k_ hk_ hs_=>(hk_) hs_)) (fun k_ hk_=>hk_.1));replace HO_12:=ζa (Kd.R_reok rfl hy0 (fun k_ e_=>HO_12.out.1 k_ e_));replace HB:=ζa (hb);(try clear hb);(try clear hkp);(try clear hy0))|((with_reducible refine δv (f:=10) rfl ?_);refine goesL_ (some 96) rfl rfl Tryz.func10 (by kernel_rfl) rfl #[.slice Ao67 t456.length co67,.int .i64 1] rfl (by (try simp only [δd,δe,δf]);first|(rw [show t456.length=t442.length from (ζg HO_12.out).1.symm] <;> rfl)) ?_;(with_reducible refine (laws_heldPairS.calls kj37 _ _ t456 1 t457 _ ?side1 ?side2 A58.out).mono ?_);(case side1=>repeat (exact (ζg HO_12.out).2.2));(case side2=>rw [show t456.length=t442.length from (ζg HO_12.out).1.symm];exact (ζg HO_12.out).2.1);rintro e w69 ⟨rfl,hb⟩;refine ⟨_,rfl,?_⟩;replace HO_8:=ζa (ζh (by exact HO_8.out) hb);replace HO_12:=ζa (ζh (by exact HO_12.out) hb);replace HB:=ζa (δr (by exact HB.out) hb);(try clear hb);(try clear hb2);(try clear hk);(try clear hi))|((with_reducible refine δv (f:=6) rfl ?_);refine goesL_ (some 105) rfl rfl Tryz.func6 (by kernel_rfl) rfl #[.slice A1 l1.length c1] rfl (by (try simp only [δd,δe,δf]);rfl) ?_;(with_reducible refine (laws_toPairS.calls kj37 _ _ l1 t458 _ ?side1 ?side2 A64.out).mono ?_);(case side1=>repeat (exact (Kd.C_below HR1.out HB.out)));(case side2=>exact HC1.out);rintro e w70 ⟨v459,rfl,ho0,hb⟩;refine ⟨_,rfl,?_⟩;have HO460:=ζa (Kd.R_lower (Kd.R_new' (Kd.R_new' ho0 (Kd.R_lt (by exact HO_8.out))) (Kd.R_lt (by exact HO_12.out))) (δs (by exact HB.out)));replace HO_8:=ζa (Kd.R_elder' (by exact HO_8.out) (Kd.R_base ho0) hb);replace HO_12:=ζa (Kd.R_elder' (by exact HO_12.out) (Kd.R_base ho0) hb);replace HB:=ζa (δr (by exact HB.out) hb);(try clear hb);(try clear hb2);(try clear hk);(try clear hi);(try clear ho0);obtain ⟨Ao71,co71,eo71⟩:=Kd.R_slice HO460.out;subst eo71)|((with_reducible refine δv (f:=7) rfl ?_);refine goesL_ (some 107) rfl rfl Tryz.func7 (by kernel_rfl) rfl #[.string a0,.slice Ao71 t458.length co71,.string a2] rfl (by (try simp only [δd,δe,δf]);rfl) ?_;(with_reducible refine (impl_TakeOrder.calls kj37 a0 _ _ t458 a2 t461 t462 t463 _ ?side1 ?side2 (HT0.out.below (by exact HB.out)) A65.out).mono ?_);(case side1=>repeat (exact (ζg HO460.out).2.2));(case side2=>exact (ζg HO460.out).2.1);rintro e w72 ⟨v464,rfl,ho0,hb⟩;refine ⟨_,rfl,?_⟩;have HO465:=ζa (Kd.R_lower (Kd.R_new' (Kd.R_new' (Kd.R_new' ho0 (Kd.R_lt (by exact HO_8.out))) (Kd.R_lt (by exact HO_12.out))) (Kd.R_lt (by exact HO460.out))) (δs (by exact HB.out)));replace HO_8:=ζa (Kd.R_elder' (by exact HO_8.out) (Kd.R_base ho0) hb);replace HO_12:=ζa (Kd.R_elder' (by exact HO_12.out) (Kd.R_base ho0) hb);replace HO460:=ζa (Kd.R_elder' (by exact HO460.out) (Kd.R_base ho0) hb);replace HB:=ζa (δr (by exact HB.out) hb);(try clear hb);(try clear hb2);(try clear hk);(try clear hi);(try clear ho0)))
             (try simp only [ζl,δa,δb,δc])
             go_cut [124] (fun v124 wc => ∃ (kq:Nat) (x124_65:Bool),v124 = .bool x124_65∧Aside0 (laws_FnExactTakeOrder.j2 kq t456 t455 x124_65=some r)∧Aside0 (kq≤kj37)∧Aside0 (Kd.R k37 37 wc w.heap.size (fun _=>True) (.slice Ao67 t442.length co67) t456)∧Aside0 (Below w.heap.size w wc))
             case first =>
              have H:=HC66.out
              clear HC66
              obtain ⟨t466,A73,H⟩:=bsm H
              by_cases c74:t466=τ
              ·
               subst c74
               rw [ifT] at H
               by_cases c75:(t462 != t435)=τ
               ·
                rw [if_pos c75] at H
                have c75b0:(t462 != t435)=τ:=c75
                (try (have c75b1:decide (t462=t435)=φ:=by simpa using c75))
                (try (have c75b2:(t462 == t435)=φ:=by simpa using c75))
                (try (have c75b3 : ¬ (t462=t435):=by simpa using c75))
                clear c75
                have H':=ζa H
                clear H
                obtain ⟨Ao76,co76,eo76⟩:=Kd.R_slice HO465.out
                subst eo76
                obtain ⟨Ao77,co77,eo77⟩:=Kd.R_slice HO_8.out
                subst eo77
                go_wp2_with (((with_reducible refine δv (f:=8) rfl ?_);refine goesL_ (some 113) rfl rfl Tryz.func8 (by kernel_rfl) rfl #[.slice Ao76 t461.length co76,.slice Ao77 t434.length co77] rfl (by (try simp only [δd,δe,δf]);rfl) ?_;(with_reducible refine (laws_eqPairS.calls kj37 _ _ t461 _ _ t434 τ _ ?side1 ?side2 ?side3 ?side4 A73.out).mono ?_);(case side1=>repeat (exact (ζg HO465.out).2.2));(case side2=>exact (ζg HO465.out).2.1);(case side3=>repeat (exact (ζg HO_8.out).2.2));(case side4=>exact (ζg HO_8.out).2.1);rintro e w78 ⟨rfl,hb⟩;refine ⟨_,rfl,?_⟩;replace HO_8:=ζa (ζh (by exact HO_8.out) hb);replace HO_12:=ζa (ζh (by exact HO_12.out) hb);replace HO460:=ζa (ζh (by exact HO460.out) hb);replace HO465:=ζa (ζh (by exact HO465.out) hb);replace HB:=ζa (δr (by exact HB.out) hb);(try clear hb);(try clear hb2);(try clear hk);(try clear hi)))
                go_meet
                case rel=>exact ⟨_,(τ),(by rfl),H',⟨by have:=HJ12.out;have:=HJ37.out;omega⟩,⟨by exact Kd.R_mono HO_12.out (fun _ hk=>trivial)⟩,⟨by repeat ((with_reducible exact HB.out))⟩⟩
               ·
                rw [if_neg c75] at H
                have c75b0:(t462 != t435)=φ:=by simpa using c75
                (try (have c75b1:decide (t462=t435)=τ:=by simpa using c75))
                (try (have c75b2:(t462 == t435)=τ:=by simpa using c75))
                clear c75
                have H':=ζa H
                clear H
                obtain ⟨Ao79,co79,eo79⟩:=Kd.R_slice HO465.out
                subst eo79
                obtain ⟨Ao80,co80,eo80⟩:=Kd.R_slice HO_8.out
                subst eo80
                go_wp2_with (((with_reducible refine δv (f:=8) rfl ?_);refine goesL_ (some 113) rfl rfl Tryz.func8 (by kernel_rfl) rfl #[.slice Ao79 t461.length co79,.slice Ao80 t434.length co80] rfl (by (try simp only [δd,δe,δf]);rfl) ?_;(with_reducible refine (laws_eqPairS.calls kj37 _ _ t461 _ _ t434 τ _ ?side1 ?side2 ?side3 ?side4 A73.out).mono ?_);(case side1=>repeat (exact (ζg HO465.out).2.2));(case side2=>exact (ζg HO465.out).2.1);(case side3=>repeat (exact (ζg HO_8.out).2.2));(case side4=>exact (ζg HO_8.out).2.1);rintro e w81 ⟨rfl,hb⟩;refine ⟨_,rfl,?_⟩;replace HO_8:=ζa (ζh (by exact HO_8.out) hb);replace HO_12:=ζa (ζh (by exact HO_12.out) hb);replace HO460:=ζa (ζh (by exact HO460.out) hb);replace HO465:=ζa (ζh (by exact HO465.out) hb);replace HB:=ζa (δr (by exact HB.out) hb);(try clear hb);(try clear hb2);(try clear hk);(try clear hi)))
                go_meet
                case rel=>exact ⟨_,((t463 != t436)),(by rfl),H',⟨by have:=HJ12.out;have:=HJ37.out;omega⟩,⟨by exact Kd.R_mono HO_12.out (fun _ hk=>trivial)⟩,⟨by repeat ((with_reducible exact HB.out))⟩⟩
              ·
               replace c74:=Bool.eq_false_iff.mpr c74
               subst c74
               rw [ifF] at H
               have H':=ζa H
               clear H
               obtain ⟨Ao82,co82,eo82⟩:=Kd.R_slice HO465.out
               subst eo82
               obtain ⟨Ao83,co83,eo83⟩:=Kd.R_slice HO_8.out
               subst eo83
               go_wp2_with (((with_reducible refine δv (f:=8) rfl ?_);refine goesL_ (some 113) rfl rfl Tryz.func8 (by kernel_rfl) rfl #[.slice Ao82 t461.length co82,.slice Ao83 t434.length co83] rfl (by (try simp only [δd,δe,δf]);rfl) ?_;(with_reducible refine (laws_eqPairS.calls kj37 _ _ t461 _ _ t434 φ _ ?side1 ?side2 ?side3 ?side4 A73.out).mono ?_);(case side1=>repeat (exact (ζg HO465.out).2.2));(case side2=>exact (ζg HO465.out).2.1);(case side3=>repeat (exact (ζg HO_8.out).2.2));(case side4=>exact (ζg HO_8.out).2.1);rintro e w84 ⟨rfl,hb⟩;refine ⟨_,rfl,?_⟩;replace HO_8:=ζa (ζh (by exact HO_8.out) hb);replace HO_12:=ζa (ζh (by exact HO_12.out) hb);replace HO460:=ζa (ζh (by exact HO460.out) hb);replace HO465:=ζa (ζh (by exact HO465.out) hb);replace HB:=ζa (δr (by exact HB.out) hb);(try clear hb);(try clear hb2);(try clear hk);(try clear hi)))
               go_meet
               case rel=>exact ⟨_,(τ),(by rfl),H',⟨by have:=HJ12.out;have:=HJ37.out;omega⟩,⟨by exact Kd.R_mono HO_12.out (fun _ hk=>trivial)⟩,⟨by repeat ((with_reducible exact HB.out))⟩⟩
             case rest =>
              clear HC66
              try clear c1
              try clear c2
              try clear p2
              try clear c3
              try clear c4
              try clear c4b0
              try clear c4b1
              try clear c5
              try clear c5b0
              try clear c5b1
              try clear c6
              try clear c7
              try clear c7b0
              try clear c8
              try clear c9
              try clear c10
              try clear c22
              try clear c23
              try clear c23b0
              try clear c23b1
              try clear c23b2
              try clear c33
              try clear c36
              try clear c43
              try clear c43b0
              try clear c45
              try clear c46
              try clear c46b0
              try clear c46b1
              try clear c46b2
              try clear c56
              try clear c59
              try clear c59b0
              try clear c63
              try clear c63b0
              try clear c63b1
              try clear c74
              try clear c75
              try clear c75b0
              try clear c75b1
              try clear c75b2
              try clear p2
              obtain ⟨kq,x124_65,rfl,HA,HJ65,HO_12,HB⟩:=hcut
              have hl12_65:=(ζg HO_12.out).1
              rw [hl12_65] at HO_12
              (try simp only [hl12_65])
              cases kq with
              | zero=>exact absurd HA.out (by simp [laws_FnExactTakeOrder.j2])
              | succ kj65 =>
               have H:=HA.out
               clear HA
               simp only [laws_FnExactTakeOrder.j2] at H
               by_cases c85:x124_65=τ
               ·
                subst c85
                rw [ifT] at H
                obtain rfl:=Option.some.inj H
                go_wp2
                go_ret
                exact ⟨by rfl,by repeat ((with_reducible exact HB.out))⟩
               ·
                replace c85:=Bool.eq_false_iff.mpr c85
                subst c85
                rw [ifF] at H
                obtain ⟨t467,A86,H⟩:=bsm H
                by_cases c87:t467<0
                ·
                 rw [if_pos c87] at H
                 have c87b0:=decide_eq_true c87
                 clear c87
                 obtain rfl:=Option.some.inj H
                 go_wp2_with (((with_reducible refine δv (f:=10) rfl ?_);refine goesL_ (some 127) rfl rfl Tryz.func10 (by kernel_rfl) rfl #[.slice Ao67 t456.length co67,.int .i64 1] rfl (by (try simp only [δd,δe,δf]);rfl) ?_;(with_reducible refine (laws_heldPairS.calls kj65 _ _ t456 1 t467 _ ?side1 ?side2 A86.out).mono ?_);(case side1=>repeat (exact (ζg HO_12.out).2.2));(case side2=>exact (ζg HO_12.out).2.1);rintro e w88 ⟨rfl,hb⟩;refine ⟨_,rfl,?_⟩;replace HO_12:=ζa (ζh (by exact HO_12.out) hb);replace HB:=ζa (δr (by exact HB.out) hb);(try clear hb);(try clear hb2);(try clear hk);(try clear hi)))
                 go_ret
                 exact ⟨by rfl,by repeat ((with_reducible exact HB.out))⟩
                ·
                 rw [if_neg c87] at H
                 have c87b0:=decide_eq_false c87
                 clear c87
                 by_cases c89:t467=t455
                 ·
                  rw [if_pos c89] at H
                  have c89b0:=beq_iff_eq.mpr c89
                  have c89b1:=bne_eq_false_iff_eq.mpr c89
                  clear c89
                  obtain rfl:=Option.some.inj H
                  go_wp2_with (((with_reducible refine δv (f:=10) rfl ?_);refine goesL_ (some 127) rfl rfl Tryz.func10 (by kernel_rfl) rfl #[.slice Ao67 t456.length co67,.int .i64 1] rfl (by (try simp only [δd,δe,δf]);rfl) ?_;(with_reducible refine (laws_heldPairS.calls kj65 _ _ t456 1 t467 _ ?side1 ?side2 A86.out).mono ?_);(case side1=>repeat (exact (ζg HO_12.out).2.2));(case side2=>exact (ζg HO_12.out).2.1);rintro e w90 ⟨rfl,hb⟩;refine ⟨_,rfl,?_⟩;replace HO_12:=ζa (ζh (by exact HO_12.out) hb);replace HB:=ζa (δr (by exact HB.out) hb);(try clear hb);(try clear hb2);(try clear hk);(try clear hi)))
                  go_ret
                  exact ⟨by rfl,by repeat ((with_reducible exact HB.out))⟩
                 ·
                  rw [if_neg c89] at H
                  have c89b0:=beq_eq_false_iff_ne.mpr c89
                  have c89b1:=bne_iff_ne.mpr c89
                  obtain rfl:=Option.some.inj H
                  go_wp2_with (((with_reducible refine δv (f:=10) rfl ?_);refine goesL_ (some 127) rfl rfl Tryz.func10 (by kernel_rfl) rfl #[.slice Ao67 t456.length co67,.int .i64 1] rfl (by (try simp only [δd,δe,δf]);rfl) ?_;(with_reducible refine (laws_heldPairS.calls kj65 _ _ t456 1 t467 _ ?side1 ?side2 A86.out).mono ?_);(case side1=>repeat (exact (ζg HO_12.out).2.2));(case side2=>exact (ζg HO_12.out).2.1);rintro e w91 ⟨rfl,hb⟩;refine ⟨_,rfl,?_⟩;replace HO_12:=ζa (ζh (by exact HO_12.out) hb);replace HB:=ζa (δr (by exact HB.out) hb);(try clear hb);(try clear hb2);(try clear hk);(try clear hi)))
                  go_ret
                  exact ⟨by rfl,by repeat ((with_reducible exact HB.out))⟩
            ·
             rw [if_neg c63] at H
             have c63b0:=beq_eq_false_iff_ne.mpr c63
             have c63b1:=bne_iff_ne.mpr c63
             obtain rfl:=Option.some.inj H
             obtain ⟨Ao92,co92,eo92⟩:=Kd.R_slice HO_12.out
             subst eo92
             go_wp2_with (first|((with_reducible refine δv (f:=9) rfl ?_);refine goesL_ (some 93) rfl rfl Tryz.func9 (by kernel_rfl) rfl #[.slice Ao92 t442.length co92,.int .i64 1] rfl (by (try simp only [δd,δe,δf]);rfl) ?_;(with_reducible refine (laws_markPairS.calls kj37 (fun k_=>some k_=(.slice Ao92 t442.length co92:Value).ownBlock) (.slice Ao92 t442.length co92) t442 1 t455 t456 w _ ?side1 ?side2 A57.out).mono ?_);(case side1=>repeat ((with_reducible exact HB.out)));(case side2=>exact Kd.R_tight rfl HO_12.out);rintro e w93 ⟨rfl,hy0,hb,hkp⟩;refine ⟨_,rfl,?_⟩;replace HO_8:=ζa (Kd.R_mono (ok':=fun k_=>some k_≠(.slice Ao92 t442.length co92:Value).ownBlock) (Kd.R_keptB (HO_8.out) hkp (fun k_ hk_ hs_=>(hk_) hs_)) (fun k_ hk_=>hk_.1));replace HO_12:=ζa (Kd.R_reok rfl hy0 (fun k_ e_=>HO_12.out.1 k_ e_));replace HB:=ζa (hb);(try clear hb);(try clear hkp);(try clear hy0))|((with_reducible refine δv (f:=10) rfl ?_);refine goesL_ (some 96) rfl rfl Tryz.func10 (by kernel_rfl) rfl #[.slice Ao92 t456.length co92,.int .i64 1] rfl (by (try simp only [δd,δe,δf]);first|(rw [show t456.length=t442.length from (ζg HO_12.out).1.symm] <;> rfl)) ?_;(with_reducible refine (laws_heldPairS.calls kj37 _ _ t456 1 t457 _ ?side1 ?side2 A58.out).mono ?_);(case side1=>repeat (exact (ζg HO_12.out).2.2));(case side2=>rw [show t456.length=t442.length from (ζg HO_12.out).1.symm];exact (ζg HO_12.out).2.1);rintro e w94 ⟨rfl,hb⟩;refine ⟨_,rfl,?_⟩;replace HO_8:=ζa (ζh (by exact HO_8.out) hb);replace HO_12:=ζa (ζh (by exact HO_12.out) hb);replace HB:=ζa (δr (by exact HB.out) hb);(try clear hb);(try clear hb2);(try clear hk);(try clear hi)))
             go_ret
             exact ⟨by rfl,by repeat ((with_reducible exact HB.out))⟩
       ·
        replace c36:=Bool.eq_false_iff.mpr c36
        subst c36
        rw [ifF] at H
        obtain rfl:=Option.some.inj H
        go_wp2_with (first|((with_reducible refine δv (f:=6) rfl ?_);refine goesL_ (some 67) rfl rfl Tryz.func6 (by kernel_rfl) rfl #[.slice A1 l1.length c1] rfl (by (try simp only [δd,δe,δf]);rfl) ?_;(with_reducible refine (laws_toPairS.calls kj12 _ _ l1 t448 _ ?side1 ?side2 A34.out).mono ?_);(case side1=>repeat (exact (Kd.C_below HR1.out HB.out)));(case side2=>exact HC1.out);rintro e w95 ⟨v449,rfl,ho0,hb⟩;refine ⟨_,rfl,?_⟩;have HO450:=ζa (Kd.R_lower (Kd.R_new' (Kd.R_new' (Kd.R_new' ho0 (Kd.R_lt (by exact HO_8.out))) (Kd.R_lt (by exact HO_11.out))) (Kd.R_lt (by exact HO_12.out))) (δs (by exact HB.out)));replace HO_8:=ζa (Kd.R_elder' (by exact HO_8.out) (Kd.R_base ho0) hb);replace HO_11:=ζa (Kd.R_elder' (by exact HO_11.out) (Kd.R_base ho0) hb);replace HO_12:=ζa (Kd.R_elder' (by exact HO_12.out) (Kd.R_base ho0) hb);replace HB:=ζa (δr (by exact HB.out) hb);(try clear hb);(try clear hb2);(try clear hk);(try clear hi);(try clear ho0);obtain ⟨Ao96,co96,eo96⟩:=Kd.R_slice HO450.out;subst eo96)|((with_reducible refine δv (f:=8) rfl ?_);refine goesL_ (some 68) rfl rfl Tryz.func8 (by kernel_rfl) rfl #[.slice Ao19 t439.length co19,.slice Ao96 t448.length co96] rfl (by (try simp only [δd,δe,δf]);rfl) ?_;(with_reducible refine (laws_eqPairS.calls kj12 _ _ t439 _ _ t448 φ _ ?side1 ?side2 ?side3 ?side4 A35.out).mono ?_);(case side1=>repeat (exact (ζg HO_11.out).2.2));(case side2=>exact (ζg HO_11.out).2.1);(case side3=>repeat (exact (ζg HO450.out).2.2));(case side4=>exact (ζg HO450.out).2.1);rintro e w97 ⟨rfl,hb⟩;refine ⟨_,rfl,?_⟩;replace HO_8:=ζa (ζh (by exact HO_8.out) hb);replace HO_11:=ζa (ζh (by exact HO_11.out) hb);replace HO_12:=ζa (ζh (by exact HO_12.out) hb);replace HO450:=ζa (ζh (by exact HO450.out) hb);replace HB:=ζa (δr (by exact HB.out) hb);(try clear hb);(try clear hb2);(try clear hk);(try clear hi)))
        go_ret
        exact ⟨by rfl,by repeat ((with_reducible exact HB.out))⟩

end Go.Proofs.YtjhhehjjnfnigaaGreatDoor.Q

/- Plain arithmetic: products of two amounts in halves of nine digits; long division digit by digit. No program. -/
namespace Go.Proofs.YtjhhehjjnfnigaaGreatDoor.U
open Go Go.RowKit
set_option linter.unusedVariables false
set_option linter.unusedSimpArgs false

theorem wid {n : Int} (h0 : -9223372036854775808 ≤ n) (h1 : n ≤ 9223372036854775807) : wrap64 n = n := IntWalk.wrap64_in n ⟨h0, h1⟩
theorem tdiv_nn {a b : Int} (h : 0 ≤ a) : Int.tdiv a b = a / b := Int.tdiv_eq_ediv_of_nonneg h
theorem tmod_nn {a b : Int} (h : 0 ≤ a) : Int.tmod a b = a % b := Int.tmod_eq_emod_of_nonneg h
theorem u64w (n : Int) : IntKind.u64.wrap n = n % 18446744073709551616 := by simp [IntKind.wrap, IntKind.bits, IntKind.signed]
theorem u64id {n : Int} (h0 : 0 ≤ n) (h1 : n < 18446744073709551616) : IntKind.u64.wrap n = n := by rw [u64w]; exact Int.emod_eq_of_lt h0 h1

theorem mul_bd {x y X Y : Int} (hx : 0 ≤ x) (hx' : x ≤ X) (hy : 0 ≤ y) (hy' : y ≤ Y) : 0 ≤ x * y ∧ x * y ≤ X * Y :=
  ⟨Int.mul_nonneg hx hy, Int.mul_le_mul hx' hy' hy (Int.le_trans hx hx')⟩

theorem wide_eq (a b : Int) (ha : 0 ≤ a) (ha' : a ≤ 1000000000000000000) (hb : 0 ≤ b) (hb' : b ≤ 1000000000000000000) :
    a * b = (a / 1000000000) * (b / 1000000000) * 1000000000000000000 + ((a / 1000000000) * (b % 1000000000) + (a % 1000000000) * (b / 1000000000)) * 1000000000 + (a % 1000000000) * (b % 1000000000) := by
  have e1 : a = (a / 1000000000) * 1000000000 + a % 1000000000 := by omega
  have e2 : b = (b / 1000000000) * 1000000000 + b % 1000000000 := by omega
  generalize a / 1000000000 = x at *
  generalize a % 1000000000 = y at *
  generalize b / 1000000000 = z at *
  generalize b % 1000000000 = u at *
  subst e1 e2
  grind

/-- One digit more of a long division. -/
theorem digit_step (c T out rest low : Int) (hc : 1 ≤ c) (hT : 1 ≤ T) (hr : 0 ≤ rest) (hl : 0 ≤ low) :
    (out * 10 + (10 * rest + low / T % 10) / c) * T + ((10 * rest + low / T % 10) % c * T + low % T) / c = out * (10 * T) + (rest * (10 * T) + low % (10 * T)) / c := by
  have e1 : low % (10 * T) = low / T % 10 * T + low % T := by
    have h1 : low / (10 * T) = low / T / 10 := by rw [Int.mul_comm, Int.ediv_ediv_of_nonneg (by omega)]
    have h2 := Int.mul_ediv_add_emod low (10 * T)
    have h3 := Int.mul_ediv_add_emod low T
    have h4 := Int.mul_ediv_add_emod (low / T) 10
    rw [h1] at h2
    generalize low / T / 10 = p at *
    generalize low / T % 10 = d at *
    generalize low / T = m at *
    subst h4
    generalize low % T = e at *
    generalize low % (10 * T) = f at *
    grind
  have h5 := Int.mul_ediv_add_emod (10 * rest + low / T % 10) c
  generalize low / T % 10 = d at *
  generalize (10 * rest + d) / c = q at *
  generalize (10 * rest + d) % c = s at *
  have e2 : rest * (10 * T) + low % (10 * T) = c * (q * T) + (s * T + low % T) := by
    rw [e1]
    generalize low % T = e at *
    grind
  rw [e2, Int.mul_add_ediv_left _ _ (by omega)]
  grind

/-- Knuth's step: a digit that is guessed too great is told by the lower half. -/
theorem knuth_lower (Y yn1 yn0 u v q : Int) (hY : Y = yn1 * 4294967296 + yn0) (h0 : 0 ≤ yn0) (hv : 0 ≤ v) (hv' : v < 4294967296) (hq : 0 ≤ q) (h : q * Y ≤ u * 4294967296 + v) : q * yn1 ≤ u := by
  have h1 : q * Y = q * yn1 * 4294967296 + q * yn0 := by subst hY; grind
  have h2 : 0 ≤ q * yn0 := Int.mul_nonneg hq h0
  omega

end Go.Proofs.YtjhhehjjnfnigaaGreatDoor.U

/- A number's digits: the reference's are the library's. -/
namespace Go.Proofs.YtjhhehjjnfnigaaGreatDoor.U
open Go Go.RowKit Go.Proofs.YtjhhehjjnfnigaaGreatDoor.Q Go.Proofs.YtjhhehjjnfnigaaGreatDoorW.PrintWords Go.Proofs.YtjhhehjjnfnigaaGreatDoorW.PrintLast Go.Proofs.YtjhhehjjnfnigaaGreatDoorW.PrintMore
set_option linter.unusedVariables false
set_option linter.unusedSimpArgs false

def digV (u : Nat) : ByteArray := ⟨(Lib.decDigits u).toArray⟩
theorem one_digit (u : Nat) (h : u < 10) : strOfNums [(wrap64 (48 + (u : Int))) % 256] = ⟨#[UInt8.ofNat (48 + u)]⟩ := by
  rw [wid (by omega) (by omega)]
  have : ((48 + (u : Int)) % 256) = ((48 + u : Nat) : Int) := by omega
  rw [this]
  rfl
theorem digits_ev (u : Nat) (hu : u ≤ 1000000000000000000) : Ev (fun k => spec_l00Digits.f k (u : Int)) (digV u) := by
  induction u using Nat.strongRecOn with
  | _ u ih =>
    by_cases h : u < 10
    · refine Ev.step (fun k => ?_) (Ev.now _)
      rw [spec_l00Digits.f, if_neg (by omega), if_neg (by omega), if_pos (by omega), one_digit u h, digV, Lib.decDigits_one h]
    · have e1 : wrap64 (Int.tdiv (u : Int) 10) = ((u / 10 : Nat) : Int) := by rw [tdiv_nn (by omega), wid (by omega) (by omega)]; omega
      have e2 : Int.tmod (u : Int) 10 = ((u % 10 : Nat) : Int) := by rw [tmod_nn (by omega)]; omega
      have hs : (digV (u / 10)).size ≤ u := by
        show (Lib.decDigits (u / 10)).toArray.size ≤ u
        rw [List.size_toArray, Lib.decDigits_length]
        have hn : ∀ v : Nat, 1 ≤ v → Lib.nDigits v ≤ v := by
          intro v
          induction v using Nat.strongRecOn with
          | _ v ihv =>
            intro h1
            rw [Lib.nDigits]
            split
            · exact h1
            · have := ihv (v / 10) (by omega) (by omega); omega
        have := hn (u / 10) (by omega)
        omega
      refine Ev.step (f := fun k => (spec_l00Digits.f k ((u / 10 : Nat) : Int)).bind fun t => if t.size + 1 ≤ 9223372036854775807 then some (t ++ (⟨#[UInt8.ofNat (48 + u % 10)]⟩ : ByteArray)) else none) (fun k => ?_) ?_
      · rw [spec_l00Digits.f, if_neg (by omega), if_neg (by omega), if_neg (by omega), e1, e2]
        simp only [Option.bind_some, one_digit (u % 10) (by omega)]
        rfl
      · refine Ev.bind (ih (u / 10) (by omega) (by omega)) ?_
        simp only [if_pos (show (digV (u / 10)).size + 1 ≤ 9223372036854775807 by omega)]
        have : digV (u / 10) ++ (⟨#[UInt8.ofNat (48 + u % 10)]⟩ : ByteArray) = digV u := by
          unfold digV
          conv => rhs; rw [Lib.decDigits, dif_neg h]
          apply ByteArray.ext
          simp
        rw [this]
        exact Ev.now _
theorem itoa_eq (n : Int) (h : 0 ≤ n) : (⟨(Lib.itoa n).toArray⟩ : ByteArray) = digV n.toNat := by
  unfold Lib.itoa digV
  rw [if_neg (by omega)]
end Go.Proofs.YtjhhehjjnfnigaaGreatDoor.U

/- Amounts: the number that a text tells, as the program and as the reference read it. -/
namespace Go.Proofs.YtjhhehjjnfnigaaGreatDoor.U
open Go Go.RowKit Go.Proofs.YtjhhehjjnfnigaaGreatDoor.Q Go.Proofs.YtjhhehjjnfnigaaGreatDoorW.PrintWords Go.Proofs.YtjhhehjjnfnigaaGreatDoorW.PrintLast Go.Proofs.YtjhhehjjnfnigaaGreatDoorW.PrintMore
set_option linter.unusedVariables false
set_option linter.unusedSimpArgs false

theorem nd_small (j v : Nat) (h : v < 10 ^ (j + 1)) : Lib.nDigits v ≤ j + 1 := by
  induction j generalizing v with
  | zero => rw [Lib.nDigits, dif_pos (by simpa using h)]; omega
  | succ j ih =>
    rw [Lib.nDigits]
    split
    · omega
    · have := ih (v / 10) (by rw [Nat.pow_succ] at h; omega); omega
theorem digV_size (v : Nat) (h : v ≤ 1000000000000000000) : (digV v).size ≤ 19 := by
  show (Lib.decDigits v).toArray.size ≤ 19
  rw [List.size_toArray, Lib.decDigits_length]
  exact nd_small 18 v (by omega)
theorem dec_big {v : Nat} (h : ¬ v < 10) : Lib.decDigits v = Lib.decDigits (v / 10) ++ [UInt8.ofNat (48 + v % 10)] := by
  conv => lhs; rw [Lib.decDigits, dif_neg h]
theorem chr_nat (d : Nat) (h : d < 10) : (UInt8.ofNat (48 + d)).toNat = 48 + d := by
  rw [UInt8.toNat_ofNat']; omega

/-- Digits, one behind the other, onto what those ahead tell. -/
def telD (x : Nat) : List UInt8 → Option Nat
  | [] => some x
  | c :: r => if c.toNat < 48 ∨ 57 < c.toNat then none else if (1000000000000000000 - (c.toNat - 48)) / 10 < x then none else telD (x * 10 + (c.toNat - 48)) r
theorem telD_append (l r : List UInt8) : ∀ x, telD x (l ++ r) = (telD x l).bind fun y => telD y r := by
  induction l with
  | nil => intro x; rfl
  | cons c l ih =>
    intro x
    simp only [List.cons_append, telD]
    split
    · rfl
    · split
      · rfl
      · exact ih _
theorem telD_one (x d : Nat) (hd : d < 10) (h : x * 10 + d ≤ 1000000000000000000) : telD x [UInt8.ofNat (48 + d)] = some (x * 10 + d) := by
  simp only [telD, chr_nat d hd]
  rw [if_neg (by omega), if_neg (by omega)]
  congr 1; omega
theorem telD_dec (v : Nat) (h : v ≤ 1000000000000000000) : telD 0 (Lib.decDigits v) = some v := by
  induction v using Nat.strongRecOn with
  | _ v ih =>
    by_cases hv : v < 10
    · rw [Lib.decDigits_one hv, telD_one 0 v hv (by omega)]; congr 1; omega
    · rw [dec_big hv, telD_append, ih (v / 10) (by omega) (by omega)]
      show telD (v / 10) _ = _
      rw [telD_one _ _ (by omega) (by omega)]; congr 1; omega
/-- No needless naught ahead. -/
def plainB (l : List UInt8) : Bool := decide (l ≠ []) && (decide (l.length = 1) || decide (l.head? ≠ some 48))
theorem snoc_cases {α : Type} (l : List α) : l = [] ∨ ∃ (i : List α) (c : α), l = i ++ [c] := by
  rcases List.eq_nil_or_concat l with h | ⟨i, c, h⟩
  · exact .inl h
  · exact .inr ⟨i, c, by rw [h, List.concat_eq_append]⟩
theorem telD_snoc {l : List UInt8} {c : UInt8} {n : Nat} (h : telD 0 (l ++ [c]) = some n) :
    ∃ m, telD 0 l = some m ∧ 48 ≤ c.toNat ∧ c.toNat ≤ 57 ∧ n = m * 10 + (c.toNat - 48) ∧ n ≤ 1000000000000000000 := by
  rw [telD_append] at h
  obtain ⟨m, h1, h2⟩ := Option.bind_eq_some_iff.mp h
  refine ⟨m, h1, ?_⟩
  simp only [telD] at h2
  split at h2
  · cases h2
  · split at h2
    · cases h2
    · injection h2 with h2
      omega
theorem dec_of_telD (k : Nat) : ∀ (l : List UInt8) (n : Nat), l.length = k → plainB l = true → telD 0 l = some n → l = Lib.decDigits n ∧ n ≤ 1000000000000000000 := by
  induction k with
  | zero =>
    intro l n hl hp h
    have : l = [] := List.length_eq_zero_iff.1 hl
    subst this
    simp [plainB] at hp
  | succ k ih =>
    intro l n hl hp h
    rcases snoc_cases l with rfl | ⟨i, c, rfl⟩
    · simp at hl
    obtain ⟨m, h1, h2, h3, h4, h5⟩ := telD_snoc h
    refine ⟨?_, h5⟩
    by_cases hi : i = []
    · subst hi
      simp only [telD, Option.some.injEq] at h1
      subst h1
      rw [Lib.decDigits_one (by omega), h4]
      simp only [List.nil_append, List.cons.injEq, and_true]
      apply UInt8.toNat_inj.1
      rw [chr_nat _ (by omega)]; omega
    · have hne : i.head? ≠ some 48 := by
        simp only [plainB, Bool.and_eq_true, Bool.or_eq_true, decide_eq_true_iff] at hp
        rcases hp.2 with hp | hp
        · rw [List.length_append, List.length_singleton] at hp
          exact absurd (List.length_eq_zero_iff.1 (by omega)) hi
        · cases i with
          | nil => exact absurd rfl hi
          | cons a i => simpa using hp
      obtain ⟨e, _⟩ := ih i m (by rw [List.length_append, List.length_singleton] at hl; omega) (by simp only [plainB, Bool.and_eq_true, Bool.or_eq_true, decide_eq_true_iff]; exact ⟨hi, .inr hne⟩) h1
      have hm : m ≠ 0 := by
        rintro rfl
        rw [e, Lib.decDigits_one (by omega)] at hne
        exact hne rfl
      rw [dec_big (v := n) (by omega)]
      have e1 : n / 10 = m := by omega
      have e2 : n % 10 = c.toNat - 48 := by omega
      rw [e1, e2, ← e]
      congr 2
      apply UInt8.toNat_inj.1
      rw [chr_nat _ (by omega)]; omega
theorem dec_head (v : Nat) : ∃ d r, d < 10 ∧ Lib.decDigits v = UInt8.ofNat (48 + d) :: r := by
  induction v using Nat.strongRecOn with
  | _ v ih =>
    by_cases hv : v < 10
    · exact ⟨v, [], hv, Lib.decDigits_one hv⟩
    · obtain ⟨d, r, hd, e⟩ := ih (v / 10) (by omega)
      exact ⟨d, r ++ [UInt8.ofNat (48 + v % 10)], hd, by rw [dec_big hv, e]; rfl⟩
theorem dec_plain (v : Nat) : plainB (Lib.decDigits v) = true := by
  have hne : Lib.decDigits v ≠ [] := fun e => by
    have h := Lib.decDigits_length v
    rw [e] at h
    have := Lib.nDigits_pos v
    simp at h; omega
  have hd : Lib.nDigits v = 1 ∨ (Lib.decDigits v).head? ≠ some 48 := by
    induction v using Nat.strongRecOn with
    | _ v ih =>
      by_cases hv : v < 10
      · exact .inl (Lib.nDigits_small hv)
      · right
        obtain ⟨d, r, hd, e⟩ := dec_head (v / 10)
        by_cases hv2 : v / 10 < 10
        · rw [dec_big hv, Lib.decDigits_one hv2]
          simp only [List.cons_append, List.head?_cons, ne_eq, Option.some.injEq]
          intro e
          have := congrArg UInt8.toNat e
          rw [chr_nat _ hv2] at this
          have e48 : (48 : UInt8).toNat = 48 := rfl
          omega
        · rcases ih (v / 10) (by omega) (by rw [e]; simp) with h | h
          · rw [Lib.nDigits_big hv2] at h
            have := Lib.nDigits_pos (v / 10 / 10)
            omega
          · rw [e] at h
            rw [dec_big hv, e]
            exact h
  simp only [plainB, Bool.and_eq_true, Bool.or_eq_true, decide_eq_true_iff]
  refine ⟨hne, ?_⟩
  rcases hd with h | h
  · left; rw [Lib.decDigits_length, h]
  · exact .inr h
/-- The amount of a text, where it tells one. -/
def amtO (a : ByteArray) : Option Nat := if plainB a.data.toList = true then telD 0 a.data.toList else none
theorem amtO_iff (a : ByteArray) (n : Nat) : amtO a = some n ↔ a = digV n ∧ n ≤ 1000000000000000000 := by
  unfold amtO
  constructor
  · intro h
    split at h
    · rename_i hp
      obtain ⟨e, hn⟩ := dec_of_telD _ _ n rfl hp h
      refine ⟨?_, hn⟩
      apply ByteArray.ext
      apply Array.toList_inj.mp
      rw [e]
      rfl
    · cases h
  · rintro ⟨rfl, hn⟩
    have e : (digV n).data.toList = Lib.decDigits n := rfl
    rw [e, if_pos (dec_plain n)]
    exact telD_dec n hn
def amtV (a : ByteArray) : Int := match amtO a with | some n => (n : Int) | none => -1
theorem amtV_digV (n : Nat) (h : n ≤ 1000000000000000000) : amtV (digV n) = n := by
  unfold amtV
  rw [(amtO_iff _ n).2 ⟨rfl, h⟩]
theorem amtV_eq {a : ByteArray} (h : 0 ≤ amtV a) : a = digV (amtV a).toNat ∧ amtV a ≤ 1000000000000000000 := by
  unfold amtV at *
  cases e : amtO a with
  | none => rw [e] at h; simp at h
  | some n =>
    obtain ⟨h1, h2⟩ := (amtO_iff a n).1 e
    exact ⟨by simpa using h1, by simp only; omega⟩
theorem amtV_low (a : ByteArray) : -1 ≤ amtV a := by
  unfold amtV
  split <;> omega

/-! ### the program's -/
theorem parse_append (l r : List UInt8) : ∀ x, Lib.parseUint10 x (l ++ r) = match Lib.parseUint10 x l with | .ok u => Lib.parseUint10 u r | .syntax => .syntax | .range => .range := by
  induction l with
  | nil => intro x; rfl
  | cons c l ih =>
    intro x
    simp only [List.cons_append, Lib.parseUint10]
    split
    · split
      · rfl
      · split
        · rfl
        · exact ih _
    · rfl
theorem parse_one (x d : Nat) (hd : d < 10) (h : x * 10 + d < 9223372036854775808) : Lib.parseUint10 x [UInt8.ofNat (48 + d)] = .ok (x * 10 + d) := by
  simp only [Lib.parseUint10, chr_nat d hd]
  rw [if_pos (by omega), if_neg (by omega), if_neg (by omega)]
  congr 1; omega
theorem parse_dec (v : Nat) (h : v < 9223372036854775808) : Lib.parseUint10 0 (Lib.decDigits v) = .ok v := by
  induction v using Nat.strongRecOn with
  | _ v ih =>
    by_cases hv : v < 10
    · rw [Lib.decDigits_one hv, parse_one 0 v hv (by omega)]; congr 1; omega
    · rw [dec_big hv, parse_append, ih (v / 10) (by omega) (by omega)]
      show Lib.parseUint10 (v / 10) _ = _
      rw [parse_one _ _ (by omega) (by omega)]; congr 1; omega
theorem atoi_dec (v : Nat) (h : v < 9223372036854775808) : Lib.atoiAll (Lib.decDigits v) = .ok (v : Int) := by
  obtain ⟨d, r, hd, e⟩ := dec_head v
  have h1 := parse_dec v h
  rw [e] at h1 ⊢
  rw [Lib.atoiAll_plain _ _ (by rw [chr_nat d hd]; omega) (by rw [chr_nat d hd]; omega)]
  unfold Lib.parseMag
  rw [if_neg (by simp), h1]
  simp only [Lib.signless]
  rw [if_neg (by omega)]
theorem toList_eq_iff (a b : ByteArray) : a.toList = b.toList ↔ a = b := by
  constructor
  · intro h
    rw [ByteArray.toList_eq, ByteArray.toList_eq] at h
    exact ByteArray.ext (Array.toList_inj.mp h)
  · rintro rfl; rfl
theorem readAmount_eq (a : ByteArray) (hs : a.size ≤ 281474976710656) : impl_readAmount.f a = some (if 0 ≤ amtV a then (amtV a, true) else (0, false)) := by
  unfold impl_readAmount.f
  rw [if_pos hs]
  by_cases h : 0 ≤ amtV a
  · obtain ⟨e, hn⟩ := amtV_eq h
    rw [if_pos h]
    generalize amtV a = n at *
    have e1 : Lib.atoiAll a.data.toList = .ok n := by
      have := atoi_dec n.toNat (by omega)
      rw [e]
      rw [show ((n.toNat : Nat) : Int) = n by omega] at this
      exact this
    rw [e1]
    simp only [if_pos h, if_pos hn]
    rw [itoa_eq n h, ← e, if_pos rfl]
  · rw [if_neg h]
    cases hh : Lib.atoiAll a.data.toList with
    | range => rfl
    | ok v =>
      simp only
      by_cases h0 : 0 ≤ v
      · rw [if_pos h0]
        by_cases h1 : v ≤ 1000000000000000000
        · rw [if_pos h1, itoa_eq v h0]
          by_cases h2 : (digV v.toNat).toList = a.toList
          · exfalso
            have e := (toList_eq_iff _ _).1 h2
            apply h
            rw [← e, amtV_digV _ (by omega)]
            omega
          · rw [if_neg h2]
        · rw [if_neg h1]
      · rw [if_neg h0]
    | _ => rfl

/-! ### the reference's -/
theorem bt_get (a : ByteArray) (i : Nat) (h : i < a.size) : bt a (i : Int) = ((a.data.toList[i]'(by rw [Array.length_toList]; exact h)).toNat : Int) := by
  unfold bt
  rw [dif_pos (by simpa using h)]
  simp
  rfl
def telI (x : Nat) (l : List UInt8) : Int := match telD x l with | some n => (n : Int) | none => -1
theorem l02Of_go (a : ByteArray) (hs : a.size ≤ 19) : ∀ (d i x : Nat), i + d = a.size → x ≤ 1000000000000000000 → Ev (fun k => spec_l02Of.l0 k a (x : Int) (i : Int)) (telI x (a.data.toList.drop i)) := by
  intro d
  induction d with
  | zero =>
    intro i x hi hx
    refine Ev.step (fun k => ?_) (Ev.now _)
    rw [spec_l02Of.l0, if_neg (by omega), List.drop_of_length_le (by rw [Array.length_toList]; show a.size ≤ i; omega)]
    rfl
  | succ d ih =>
    intro i x hi hx
    have hlt : i < a.size := by omega
    have hb := bt_get a i hlt
    have hl : i < a.data.toList.length := by rw [Array.length_toList]; exact hlt
    rw [List.drop_eq_getElem_cons hl]
    generalize a.data.toList[i] = c at *
    have hc := UInt8.toNat_lt c
    unfold telI
    simp only [telD]
    by_cases h1 : c.toNat < 48 ∨ 57 < c.toNat
    · rw [if_pos h1]
      refine Ev.step (f := fun k => spec_l02Of.j2 k a (x : Int) (i : Int) true) (fun k => ?_) (Ev.step (fun k => by rw [spec_l02Of.j2, if_pos rfl]) (Ev.now _))
      rw [spec_l02Of.l0, if_pos (by omega), if_pos (by omega), hb]
      by_cases h2 : c.toNat < 48
      · rw [if_pos (by omega)]
      · rw [if_neg (by omega), decide_eq_true (by omega)]
    · rw [if_neg h1]
      refine Ev.step (f := fun k => spec_l02Of.j2 k a (x : Int) (i : Int) false) (fun k => ?_) ?_
      · rw [spec_l02Of.l0, if_pos (by omega), if_pos (by omega), hb, if_neg (by omega), decide_eq_false (by omega)]
      · have e1 : ((c.toNat : Int) - 48) % 256 = ((c.toNat - 48 : Nat) : Int) := by omega
        by_cases h3 : (1000000000000000000 - (c.toNat - 48)) / 10 < x
        · rw [if_pos h3]
          refine Ev.step (fun k => ?_) (Ev.now _)
          rw [spec_l02Of.j2, if_neg (by decide), if_pos (by omega), if_pos (by omega), hb, e1, if_pos (by omega)]
        · rw [if_neg h3]
          have := ih (i + 1) (x * 10 + (c.toNat - 48)) (by omega) (by omega)
          refine Ev.step (fun k => ?_) this
          rw [spec_l02Of.j2, if_neg (by decide), if_pos (by omega), if_pos (by omega), hb, e1, if_neg (by omega), wid (n := (x : Int) * 10) (by omega) (by omega), wid (n := (x : Int) * 10 + _) (by omega) (by omega), wid (n := (i : Int) + 1) (by omega) (by omega)]
          rfl
theorem l02Of_ev (a : ByteArray) (hs : a.size ≤ 9223372036854775807) : Ev (fun k => spec_l02Of.f k a) (amtV a) := by
  have hbad : amtV a = -1 → Ev (fun k => spec_l02Of.j0 k a true) (amtV a) := fun e => by
    rw [e]; exact Ev.step (fun k => by rw [spec_l02Of.j0, if_pos rfl]) (Ev.now _)
  have hln : a.data.toList.length = a.size := by rw [Array.length_toList]; rfl
  have hbig : 19 < a.size → amtV a = -1 := fun h => by
    by_cases h0 : 0 ≤ amtV a
    · obtain ⟨e, hn⟩ := amtV_eq h0
      have := digV_size (amtV a).toNat (by omega)
      rw [← e] at this
      omega
    · have := amtV_low a; omega
  have hgo : Ev (fun k => spec_l02Of.l0 k a 0 0) (telI 0 a.data.toList) ∨ 19 < a.size := by
    by_cases h : 19 < a.size
    · exact .inr h
    · exact .inl (by have := l02Of_go a (by omega) a.size 0 0 (by omega) (by omega); simpa using this)
  unfold spec_l02Of.f spec_l01In.f
  by_cases h1 : (a.size : Int) ≥ 1
  · simp only [if_pos h1, Option.bind_some]
    by_cases h2 : (a.size : Int) ≤ 19
    · simp only [decide_eq_true h2, if_true]
      have hg : Ev (fun k => spec_l02Of.l0 k a 0 0) (telI 0 a.data.toList) := by
        rcases hgo with h | h
        · exact h
        · omega
      by_cases h3 : (a.size : Int) > 1
      · simp only [if_pos h3, if_pos (show (0 : Int) < (a.size : Int) by omega)]
        have hb := bt_get a 0 (by omega)
        have hh : a.data.toList.head? = some (a.data.toList[0]'(by omega)) := by rw [List.head?_eq_getElem?, List.getElem?_eq_getElem]
        by_cases h4 : a.data.toList[0]'(by omega) = 48
        · have e : (bt a 0 == 48) = true := by rw [beq_iff_eq]; have := hb; rw [h4] at this; exact this
          simp only [e]
          refine hbad ?_
          unfold amtV amtO
          rw [if_neg]
          simp only [plainB, Bool.and_eq_true, Bool.or_eq_true, decide_eq_true_iff, hh, h4]
          rintro ⟨_, h | h⟩
          · omega
          · exact h rfl
        · have e : (bt a 0 == 48) = false := by
            rw [beq_eq_false_iff_ne]
            intro h5
            apply h4
            apply UInt8.toNat_inj.1
            have e48 : (48 : UInt8).toNat = 48 := rfl
            have := hb.symm.trans h5
            omega
          simp only [e]
          refine Ev.step (fun k => by rw [spec_l02Of.j0, if_neg (by decide)]) ?_
          have e2 : amtV a = telI 0 a.data.toList := by
            unfold amtV amtO telI
            rw [if_pos]
            simp only [plainB, Bool.and_eq_true, Bool.or_eq_true, decide_eq_true_iff, hh]
            refine ⟨fun e0 => ?_, .inr (fun e0 => h4 (Option.some.inj e0))⟩
            rw [e0] at hln; simp at hln; omega
          rw [e2]
          exact hg
      · simp only [if_neg h3]
        refine Ev.step (fun k => by rw [spec_l02Of.j0, if_neg (by decide)]) ?_
        have e2 : amtV a = telI 0 a.data.toList := by
          unfold amtV amtO telI
          rw [if_pos]
          simp only [plainB, Bool.and_eq_true, Bool.or_eq_true, decide_eq_true_iff]
          refine ⟨fun e0 => ?_, .inl (by omega)⟩
          rw [e0] at hln; simp at hln; omega
        rw [e2]
        exact hg
    · simp only [decide_eq_false h2, Bool.false_eq_true, if_false]
      exact hbad (hbig (by omega))
  · simp only [if_neg h1, Option.bind_some, Bool.false_eq_true, if_false]
    refine hbad ?_
    unfold amtV amtO
    have : a.data.toList = [] := List.length_eq_zero_iff.1 (by omega)
    rw [this]
    rfl
end Go.Proofs.YtjhhehjjnfnigaaGreatDoor.U

/- Fields: how the program writes texts in line. -/
namespace Go.Proofs.YtjhhehjjnfnigaaGreatDoor.U
open Go Go.RowKit Go.Proofs.YtjhhehjjnfnigaaGreatDoor.Q Go.Proofs.YtjhhehjjnfnigaaGreatDoorW.PrintWords Go.Proofs.YtjhhehjjnfnigaaGreatDoorW.PrintLast Go.Proofs.YtjhhehjjnfnigaaGreatDoorW.PrintMore
set_option linter.unusedVariables false
set_option linter.unusedSimpArgs false

theorem w00 : wrap64 (0 - 1) = -1 := by rw [wid (n := 0 - 1) (by decide) (by decide)]; rfl
theorem w10 : wrap64 (1 - 1) = 0 := by rw [wid (n := 1 - 1) (by decide) (by decide)]; rfl
theorem w21 : wrap64 (2 - 1) = 1 := by rw [wid (n := 2 - 1) (by decide) (by decide)]; rfl
theorem number_end (n : Int) (l : List Int) : Ev (fun k => impl_number.l0 k n l (-1)) (strOfNums l) := Ev.step (fun k => by rw [impl_number.l0, if_neg (by decide)]) (Ev.now _)
theorem number1_ev (n : Int) : Ev (fun k => impl_number.f k n 1) (strOfNums [n % 256]) := by
  unfold impl_number.f
  simp only [if_pos (show (0 : Int) ≤ 1 by omega), if_pos (show (1 : Int).toNat ≤ 281474976710656 by decide), w10, show List.replicate (1 : Int).toNat (0 : Int) = [0] from rfl]
  refine Ev.step (fun k => ?_) (number_end (n / 256) [n % 256])
  rw [impl_number.l0, if_pos (by decide), if_pos (by decide), if_pos (by decide), w00]
  rfl
theorem number2_ev (n : Int) : Ev (fun k => impl_number.f k n 2) (strOfNums [n / 256 % 256, n % 256]) := by
  unfold impl_number.f
  simp only [if_pos (show (0 : Int) ≤ 2 by omega), if_pos (show (2 : Int).toNat ≤ 281474976710656 by decide), w21, show List.replicate (2 : Int).toNat (0 : Int) = [0, 0] from rfl]
  refine Ev.step (f := fun k => impl_number.l0 k (n / 256) [0, n % 256] 0) (fun k => ?_) (Ev.step (fun k => ?_) (number_end (n / 256 / 256) [n / 256 % 256, n % 256]))
  · rw [impl_number.l0, if_pos (by decide), if_pos (by decide), if_pos (by decide), w10]
    rfl
  · rw [impl_number.l0, if_pos (by decide), if_pos (by decide), if_pos (by simp), w00]
    rfl
/-- One text behind its length. -/
def fieldV (t : ByteArray) : ByteArray := strOfNums [(t.size : Int) / 256 % 256, (t.size : Int) % 256] ++ t
def restV : List ByteArray → ByteArray
  | [] => ByteArray.empty
  | t :: ts => fieldV t ++ restV ts
def fieldsV (l : List ByteArray) : ByteArray := strOfNums [(l.length : Int) % 256] ++ restV l
theorem nums_size (l : List Int) : (strOfNums l).size = l.length := by simp [strOfNums, ByteArray.size]
theorem fields_go (l : List ByteArray) (M : Nat) (hl : l.length ≤ 1000) (hM : M ≤ 4611686018427387904) (hx : ∀ x ∈ l, x.size ≤ 1048576) : ∀ (d i : Nat) (o : ByteArray), i + d = l.length → o.size ≤ i * 1048580 + 1048580 →
    Ev (fun k => impl_fields.l0 k o l (l.length : Int) (i : Int)) (o ++ restV (l.drop i)) := by
  intro d
  induction d with
  | zero =>
    intro i o hi ho
    refine Ev.step (fun k => ?_) (Ev.now _)
    rw [impl_fields.l0, if_neg (by omega), List.drop_of_length_le (by omega)]
    simp [restV]
  | succ d ih =>
    intro i o hi ho
    have hlt : i < l.length := by omega
    have hr : rdOf ByteArray.empty l (i : Int) = l[i] := by simp [rdOf, List.getD_eq_getElem?_getD, List.getElem?_eq_getElem hlt]
    have hs := hx _ (List.getElem_mem hlt)
    refine Ev.step (f := fun k => (impl_number.f k (l[i].size : Int) 2).bind fun t => if t.size + l[i].size ≤ 9223372036854775807 then (if o.size + (t ++ l[i]).size ≤ 9223372036854775807 then impl_fields.l0 k (o ++ (t ++ l[i])) l (l.length : Int) ((i + 1 : Nat) : Int) else none) else none) (fun k => ?_) ?_
    · rw [impl_fields.l0, if_pos (by omega), if_pos (by omega), if_pos (by omega), hr, wid (n := (i : Int) + 1) (by omega) (by omega)]
      rfl
    · refine Ev.bind (number2_ev _) ?_
      have h1 : (strOfNums [(l[i].size : Int) / 256 % 256, (l[i].size : Int) % 256]).size = 2 := by rw [nums_size]; rfl
      have h2 : (strOfNums [(l[i].size : Int) / 256 % 256, (l[i].size : Int) % 256] ++ l[i]).size = 2 + l[i].size := by rw [ByteArray.size_append, h1]
      simp only [h1, h2, if_pos (show 2 + l[i].size ≤ 9223372036854775807 by omega), if_pos (show o.size + (2 + l[i].size) ≤ 9223372036854775807 by omega)]
      have h3 := ih (i + 1) (o ++ fieldV l[i]) (by omega) (by rw [ByteArray.size_append]; show o.size + (fieldV l[i]).size ≤ _; unfold fieldV; rw [h2]; omega)
      rw [List.drop_eq_getElem_cons hlt, restV]
      rw [ByteArray.append_assoc] at h3
      exact h3
theorem fields_ev (l : List ByteArray) (hl : l.length ≤ 1000) (hx : ∀ x ∈ l, x.size ≤ 1048576) : Ev (fun k => impl_fields.f k l) (fieldsV l) := by
  unfold impl_fields.f fieldsV
  refine Ev.bind (number1_ev _) ?_
  have := fields_go l 0 hl (by omega) hx l.length 0 (strOfNums [(l.length : Int) % 256]) (by omega) (by rw [nums_size]; simp)
  simpa using this
end Go.Proofs.YtjhhehjjnfnigaaGreatDoor.U

/- Fields that are read back from a text: as the program and as the reference read them. -/
namespace Go.Proofs.YtjhhehjjnfnigaaGreatDoor.U
open Go Go.RowKit Go.Proofs.YtjhhehjjnfnigaaGreatDoor.Q Go.Proofs.YtjhhehjjnfnigaaGreatDoorW.PrintWords Go.Proofs.YtjhhehjjnfnigaaGreatDoorW.PrintLast Go.Proofs.YtjhhehjjnfnigaaGreatDoorW.PrintMore
set_option linter.unusedVariables false
set_option linter.unusedSimpArgs false

theorem size_data (a : ByteArray) : a.data.toList.length = a.size := by rw [Array.length_toList]; rfl
theorem ext_list {a b : ByteArray} (h : a.data.toList = b.data.toList) : a = b := ByteArray.ext (Array.toList_inj.mp h)
theorem extract_list (a : ByteArray) (i j : Nat) : (a.extract i j).data.toList = (a.data.toList.take j).drop i := by
  rw [ByteArray.data_extract, Array.toList_extract]
  simp [List.extract_eq_take_drop, List.drop_take]
theorem bt_list (a : ByteArray) (i : Nat) (h : i < a.size) : bt a (i : Int) = ((a.data.toList.getD i 0).toNat : Int) := by
  unfold bt
  rw [dif_pos (by simpa using h), List.getD_eq_getElem?_getD, List.getElem?_eq_getElem (by rw [size_data]; exact h)]
  simp
  rfl
theorem size_ext (a : ByteArray) (i j : Nat) : (a.extract i j).size = min j a.size - i := by
  rw [← size_data, extract_list, List.length_drop, List.length_take, size_data]
theorem ext_ext (a : ByteArray) (p i j : Nat) : (a.extract p a.size).extract i j = a.extract (p + i) (p + j) := by
  apply ext_list
  rw [extract_list, extract_list, extract_list, List.take_of_length_le (i := a.size) (by rw [size_data]; exact Nat.le_refl _)]
  rw [List.take_drop, List.drop_drop]
theorem ext_cap (a : ByteArray) (i j : Nat) (h : a.size ≤ j) : a.extract i j = a.extract i a.size := by
  apply ext_list
  rw [extract_list, extract_list, List.take_of_length_le (by rw [size_data]; exact h), List.take_of_length_le (by rw [size_data]; exact Nat.le_refl _)]
theorem bt_ext (a : ByteArray) (p j i : Nat) (h : p + i < min j a.size) : bt (a.extract p j) (i : Int) = bt a ((p + i : Nat) : Int) := by
  rw [bt_list _ _ (by rw [size_ext]; omega), bt_list _ _ (by omega), extract_list]
  congr 2
  rw [List.getD_eq_getElem?_getD, List.getD_eq_getElem?_getD, List.getElem?_drop, List.getElem?_take, if_pos (by omega)]

/-- The first two bytes' number. -/
def hd2 (s : ByteArray) : Nat := (bt s 0 * 256 + bt s 1).toNat
def readN : Nat → ByteArray → Option (List ByteArray)
  | 0, s => if s.size = 0 then some [] else none
  | n + 1, s => if s.size < 2 then none else if 1000 < hd2 s then none else if s.size < 2 + hd2 s then none else (readN n (s.extract (2 + hd2 s) s.size)).map (s.extract 2 (2 + hd2 s) :: ·)
def readV (a : ByteArray) : Option (List ByteArray) := if a.size = 0 then none else if 40 < bt a 0 then none else readN (bt a 0).toNat (a.extract 1 a.size)
/-- What a reader answers. -/
def readR (x : List ByteArray) (out : List ByteArray) : Option (List ByteArray) → List ByteArray × Bool
  | some l => (out ++ l, true)
  | none => (x, false)

theorem hd2_bd (s : ByteArray) : hd2 s ≤ 65535 ∧ ((hd2 s : Nat) : Int) = bt s 0 * 256 + bt s 1 := by
  have h0 := bt_range s 0
  have h1 := bt_range s 1
  unfold hd2
  omega
theorem numberOf_ev (s : ByteArray) (h : s.size = 2) : Ev (fun k => impl_numberOf.f k s) (hd2 s : Int) := by
  have h0 := bt_range s 0
  have h1 := bt_range s 1
  rw [(hd2_bd s).2]
  unfold impl_numberOf.f
  rw [show ((s.size : Nat) : Int) = 2 by omega]
  refine Ev.step (f := fun k => impl_numberOf.l0 k s (bt s 0) 2 1) (fun k => ?_) (Ev.step (f := fun k => impl_numberOf.l0 k s (bt s 0 * 256 + bt s 1) 2 2) (fun k => ?_) (Ev.step (fun k => ?_) (Ev.now _)))
  · rw [impl_numberOf.l0, if_pos (by decide), if_pos (by decide), if_pos (by omega)]
    rw [wid (n := 0 * 256) (by decide) (by decide), wid (n := bt s 0) (by omega) (by omega), wid (by omega) (by omega), wid (n := 0 + 1) (by decide) (by decide)]
    congr 1; omega
  · rw [impl_numberOf.l0, if_pos (by decide), if_pos (by decide), if_pos (by omega)]
    rw [wid (n := bt s 0 * 256) (by omega) (by omega), wid (n := bt s 1) (by omega) (by omega), wid (by omega) (by omega), wid (n := 1 + 1) (by decide) (by decide)]
    rfl
  · rw [impl_numberOf.l0, if_neg (by decide)]
set_option maxHeartbeats 2000000 in
theorem readFields_go (N : Nat) (hN : N ≤ 40) : ∀ (d i : Nat) (out : List ByteArray) (s : ByteArray), i + d = N → out.length ≤ i → s.size ≤ 9223372036854000000 →
    ∃ x, Ev (fun k => impl_readFields.l0 k out s (N : Int) (i : Int)) (readR x out (readN d s)) := by
  intro d
  induction d with
  | zero =>
    intro i out s hi ho hs
    refine ⟨out, Ev.step (fun k => ?_) (Ev.now _)⟩
    rw [impl_readFields.l0, if_neg (by omega), readN]
    by_cases h : s.size = 0
    · have e : s.toList = [] := by rw [ByteArray.toList_eq]; exact List.length_eq_zero_iff.1 (by rw [size_data]; exact h)
      rw [if_pos h, e]
      simp [readR]
    · have e : (s.toList == []) = false := by
        rw [beq_eq_false_iff_ne]
        intro e
        rw [ByteArray.toList_eq] at e
        apply h
        rw [← size_data, e]; rfl
      rw [if_neg h, e]
      rfl
  | succ d ih =>
    intro i out s hi ho hs
    have hb := hd2_bd s
    rw [readN]
    by_cases h1 : s.size < 2
    · refine ⟨[], ?_⟩
      rw [if_pos h1]
      refine Ev.step (fun k => ?_) (Ev.now _)
      rw [impl_readFields.l0, if_pos (by omega), if_pos (by omega)]
      rfl
    rw [if_neg h1]
    have hz : (s.extract 0 2).size = 2 := by rw [size_ext]; omega
    have e2 : hd2 (s.extract 0 2) = hd2 s := by
      unfold hd2
      have a0 := bt_ext s 0 2 0 (by omega)
      have a1 := bt_ext s 0 2 1 (by omega)
      simp only [Nat.zero_add] at a0 a1
      rw [show ((0 : Nat) : Int) = 0 from rfl] at a0
      rw [show ((1 : Nat) : Int) = 1 from rfl] at a1
      rw [a0, a1]
    have hn := numberOf_ev (s.extract 0 2) hz
    rw [e2] at hn
    clear e2 hz
    generalize hd2 s = m at *
    have key : ∀ (x : List ByteArray) (r : List ByteArray × Bool), Ev (fun k => if (m : Int) > 1000 then (some (([] : List ByteArray), false)) else (if (s.size : Int) < 2 + (m : Int) then (some (([] : List ByteArray), false)) else impl_readFields.l0 k (out ++ [s.extract 2 (2 + m)]) (s.extract (2 + m) s.size) (N : Int) ((i + 1 : Nat) : Int))) r →
        Ev (fun k => impl_readFields.l0 k out s (N : Int) (i : Int)) r := by
      intro x r hr
      refine Ev.step (f := fun k => (impl_numberOf.f k (s.extract 0 2)).bind fun t => if t > 1000 then (some (([] : List ByteArray), false)) else (if (s.size : Int) < (wrap64 (2 + t)) then (some (([] : List ByteArray), false)) else (if 2 ≤ (wrap64 (2 + t)) then (if (wrap64 (2 + t)) ≤ (s.size : Int) then (if out.length < 8796093022208 then (if 0 ≤ (wrap64 (2 + t)) then (impl_readFields.l0 k (out ++ [s.extract 2 ((wrap64 (2 + t)) : Int).toNat]) (s.extract ((wrap64 (2 + t)) : Int).toNat s.size) (N : Int) (wrap64 ((i : Int) + 1))) else (none)) else (none)) else (none)) else (none)))) (fun k => ?_) (Ev.bind hn ?_)
      · rw [impl_readFields.l0, if_pos (by omega), if_neg (by omega), if_pos (by decide), if_pos (by omega)]
      · have ew : wrap64 (2 + (m : Int)) = 2 + (m : Int) := wid (by omega) (by omega)
        have ei : wrap64 ((i : Int) + 1) = ((i + 1 : Nat) : Int) := by rw [wid (by omega) (by omega)]; rfl
        rw [ew, ei]
        refine Ev.congr (fun k => ?_) hr
        by_cases c1 : (m : Int) > 1000
        · rw [if_pos c1, if_pos c1]
        rw [if_neg c1, if_neg c1]
        by_cases c2 : (s.size : Int) < 2 + (m : Int)
        · rw [if_pos c2, if_pos c2]
        rw [if_neg c2, if_neg c2, if_pos (by omega), if_pos (by omega), if_pos (by omega), if_pos (by omega)]
        rw [show (2 + (m : Int)).toNat = 2 + m by omega]
    by_cases h2 : 1000 < m
    · rw [if_pos h2]
      exact ⟨[], key [] _ (by simp only [if_pos (show (m : Int) > 1000 by omega)]; exact Ev.now _)⟩
    rw [if_neg h2]
    by_cases h3 : s.size < 2 + m
    · rw [if_pos h3]
      exact ⟨[], key [] _ (by simp only [if_neg (show ¬ (m : Int) > 1000 by omega), if_pos (show (s.size : Int) < 2 + (m : Int) by omega)]; exact Ev.now _)⟩
    rw [if_neg h3]
    obtain ⟨x, hx⟩ := ih (i + 1) (out ++ [s.extract 2 (2 + m)]) (s.extract (2 + m) s.size) (by omega) (by rw [List.length_append, List.length_singleton]; omega) (by rw [size_ext]; omega)
    refine ⟨x, key x _ ?_⟩
    simp only [if_neg (show ¬ (m : Int) > 1000 by omega), if_neg (show ¬ (s.size : Int) < 2 + (m : Int) by omega)]
    have e : readR x (out ++ [s.extract 2 (2 + m)]) (readN d (s.extract (2 + m) s.size)) = readR x out ((readN d (s.extract (2 + m) s.size)).map (s.extract 2 (2 + m) :: ·)) := by
      cases readN d (s.extract (2 + m) s.size) with
      | none => rfl
      | some l => simp [readR]
    rw [← e]
    exact hx
theorem toList_nil_iff (a : ByteArray) : a.toList = ([] : List UInt8) ↔ a.size = 0 := by
  rw [ByteArray.toList_eq]
  constructor
  · intro h; rw [← size_data, h]; rfl
  · intro h; exact List.length_eq_zero_iff.1 (by rw [size_data]; exact h)
theorem readFields_ev (a : ByteArray) (hs : a.size ≤ 9223372036854000000) : ∃ x, Ev (fun k => impl_readFields.f k a) (readR x [] (readV a)) := by
  have h0 := bt_range a 0
  unfold impl_readFields.f readV
  by_cases h1 : a.size = 0
  · refine ⟨[], ?_⟩
    simp only [if_pos ((toList_nil_iff a).2 h1), if_pos h1]
    exact Ev.step (fun k => by rw [impl_readFields.j0, if_pos rfl]; rfl) (Ev.now _)
  simp only [if_neg (mt (toList_nil_iff a).1 h1), if_neg h1, if_pos (show (0 : Int) < (a.size : Int) by omega)]
  by_cases h2 : 40 < bt a 0
  · refine ⟨[], ?_⟩
    simp only [if_pos h2, decide_eq_true (show bt a 0 > 40 from h2)]
    exact Ev.step (fun k => by rw [impl_readFields.j0, if_pos rfl]; rfl) (Ev.now _)
  simp only [if_neg h2, decide_eq_false (show ¬ bt a 0 > 40 from h2)]
  obtain ⟨x, hx⟩ := readFields_go (bt a 0).toNat (by omega) (bt a 0).toNat 0 [] (a.extract 1 a.size) (by omega) (by simp) (by rw [size_ext]; omega)
  refine ⟨x, Ev.step (fun k => ?_) hx⟩
  rw [impl_readFields.j0, if_neg (by decide), if_pos (by omega), if_pos (by omega), wid (n := bt a 0) (by omega) (by omega), show (((bt a 0).toNat : Nat) : Int) = bt a 0 by omega]
  rfl

set_option maxHeartbeats 2000000 in
theorem l02Read_go (a : ByteArray) (hs : a.size ≤ 9223372036854000000) : ∀ (d p : Nat) (out : List ByteArray), d ≤ 40 → out.length + d ≤ 40 → p ≤ a.size →
    ∃ x, Ev (fun k => spec_l02Read.l0 k a out (p : Int) (d : Int)) (readR x out (readN d (a.extract p a.size))) := by
  intro d
  induction d with
  | zero =>
    intro p out hd ho hp
    rw [readN, size_ext]
    by_cases h : p = a.size
    · rw [if_pos (by omega)]
      refine ⟨[], Ev.step (fun k => ?_) (Ev.now _)⟩
      rw [spec_l02Read.l0, if_neg (by decide), if_pos (by omega)]
      simp [readR]
    · rw [if_neg (by omega)]
      refine ⟨[], Ev.step (fun k => ?_) (Ev.now _)⟩
      rw [spec_l02Read.l0, if_neg (by decide), if_neg (by omega)]
      rfl
  | succ d ih =>
    intro p out hd ho hp
    have hsz : (a.extract p a.size).size = a.size - p := by rw [size_ext]; omega
    rw [readN, hsz]
    by_cases h1 : a.size - p < 2
    · rw [if_pos h1]
      refine ⟨[], Ev.step (fun k => ?_) (Ev.now _)⟩
      rw [spec_l02Read.l0, if_pos (by omega), wid (n := (p : Int) + 2) (by omega) (by omega), if_pos (by omega)]
      rfl
    rw [if_neg h1]
    have hb := hd2_bd (a.extract p a.size)
    have b0 := bt_ext a p a.size 0 (by omega)
    have b1 := bt_ext a p a.size 1 (by omega)
    have r0 := bt_range a (p : Int)
    have r1 := bt_range a ((p + 1 : Nat) : Int)
    have em : bt a (p : Int) * 256 + bt a ((p + 1 : Nat) : Int) = (hd2 (a.extract p a.size) : Int) := by
      rw [hb.2]
      have e0 : bt (a.extract p a.size) 0 = bt a (p : Int) := b0
      have e1 : bt (a.extract p a.size) 1 = bt a ((p + 1 : Nat) : Int) := b1
      rw [e0, e1]
    generalize hm : hd2 (a.extract p a.size) = m at *
    have ep1 : (p : Int) + 1 = ((p + 1 : Nat) : Int) := by omega
    have key : ∀ k, spec_l02Read.l0 (k + 1) a out (p : Int) ((d + 1 : Nat) : Int) = if 1000 < m then some (([] : List ByteArray), false) else if a.size < p + 2 + m then some (([] : List ByteArray), false) else spec_l02Read.l0 k a (out ++ [a.extract (p + 2) (p + 2 + m)]) ((p + 2 + m : Nat) : Int) (d : Int) := by
      intro k
      rw [spec_l02Read.l0, if_pos (by omega), wid (n := (p : Int) + 2) (by omega) (by omega), if_neg (by omega), if_pos (by omega), if_pos (by omega), wid (n := (p : Int) + 1) (by omega) (by omega), if_pos (by omega), if_pos (by omega),
        wid (n := bt a (p : Int)) (by omega) (by omega), ep1, wid (n := bt a ((p + 1 : Nat) : Int)) (by omega) (by omega), wid (n := bt a (p : Int) * 256) (by omega) (by omega), em, wid (n := (m : Int)) (by omega) (by omega)]
      by_cases c1 : 1000 < m
      · rw [if_pos (by omega), if_pos c1]
      rw [if_neg (by omega), if_neg c1, wid (n := (p : Int) + 2 + (m : Int)) (by omega) (by omega)]
      by_cases c2 : a.size < p + 2 + m
      · rw [if_pos (by omega), if_pos c2]
      rw [if_neg (by omega), if_neg c2, if_pos (by omega), if_pos (by omega), if_pos (by omega), if_pos (by omega), wid (n := 2 + (m : Int)) (by omega) (by omega), wid (n := (p : Int) + (2 + (m : Int))) (by omega) (by omega), wid (by omega) (by omega)]
      rw [show ((p : Int) + 2).toNat = p + 2 by omega, show ((p : Int) + 2 + (m : Int)).toNat = p + 2 + m by omega, show (p : Int) + (2 + (m : Int)) = ((p + 2 + m : Nat) : Int) by omega, show (((d + 1 : Nat) : Int) - 1) = (d : Int) by omega]
    by_cases h2 : 1000 < m
    · rw [if_pos h2]
      exact ⟨[], Ev.step (fun k => by rw [key k, if_pos h2]; rfl) (Ev.now _)⟩
    rw [if_neg h2]
    by_cases h3 : a.size - p < 2 + m
    · rw [if_pos h3]
      exact ⟨[], Ev.step (fun k => by rw [key k, if_neg h2, if_pos (by omega)]; rfl) (Ev.now _)⟩
    rw [if_neg h3]
    obtain ⟨x, hx⟩ := ih (p + 2 + m) (out ++ [a.extract (p + 2) (p + 2 + m)]) (by omega) (by rw [List.length_append, List.length_singleton]; omega) (by omega)
    refine ⟨x, Ev.step (f := fun k => spec_l02Read.l0 k a (out ++ [a.extract (p + 2) (p + 2 + m)]) ((p + 2 + m : Nat) : Int) (d : Int)) (fun k => by rw [key k, if_neg h2, if_neg (by omega)]) ?_⟩
    have ea : (a.extract p a.size).extract 2 (2 + m) = a.extract (p + 2) (p + 2 + m) := by rw [ext_ext, Nat.add_assoc]
    have eb : (a.extract p a.size).extract (2 + m) (a.size - p) = a.extract (p + 2 + m) a.size := by rw [ext_ext, show p + (a.size - p) = a.size by omega, Nat.add_assoc]
    rw [ea, eb]
    have e : readR x (out ++ [a.extract (p + 2) (p + 2 + m)]) (readN d (a.extract (p + 2 + m) a.size)) = readR x out ((readN d (a.extract (p + 2 + m) a.size)).map (a.extract (p + 2) (p + 2 + m) :: ·)) := by
      cases readN d (a.extract (p + 2 + m) a.size) with
      | none => rfl
      | some l => simp [readR]
    rw [← e]
    exact hx
theorem l02Read_ev (a : ByteArray) (hs : a.size ≤ 9223372036854000000) : ∃ x, Ev (fun k => spec_l02Read.f k a) (readR x [] (readV a)) := by
  have h0 := bt_range a 0
  unfold spec_l02Read.f readV
  simp only [Option.bind_some]
  by_cases h1 : a.size = 0
  · refine ⟨[], ?_⟩
    simp only [if_pos ((toList_nil_iff a).2 h1), if_pos h1]
    exact Ev.step (fun k => by rw [spec_l02Read.j0, if_pos rfl]; rfl) (Ev.now _)
  simp only [if_neg (mt (toList_nil_iff a).1 h1), if_neg h1, if_pos (show (0 : Int) < (a.size : Int) by omega)]
  by_cases h2 : 40 < bt a 0
  · refine ⟨[], ?_⟩
    simp only [if_pos h2, decide_eq_true (show bt a 0 > 40 from h2)]
    exact Ev.step (fun k => by rw [spec_l02Read.j0, if_pos rfl]; rfl) (Ev.now _)
  simp only [if_neg h2, decide_eq_false (show ¬ bt a 0 > 40 from h2)]
  obtain ⟨x, hx⟩ := l02Read_go a hs (bt a 0).toNat 1 [] (by omega) (by simp; omega) (by omega)
  refine ⟨x, Ev.step (fun k => ?_) hx⟩
  rw [spec_l02Read.j0, if_neg (by decide), if_pos (by omega), wid (n := bt a 0) (by omega) (by omega), show (((bt a 0).toNat : Nat) : Int) = bt a 0 by omega]
  rfl

/-! ### what is read is written so -/
theorem ofNat_nat (c : UInt8) (n : Int) (h : n = (c.toNat : Int)) : UInt8.ofNat n.toNat = c := by
  subst h
  simp
theorem restV_of (n : Nat) : ∀ (s : ByteArray) (l : List ByteArray), readN n s = some l → s = restV l ∧ l.length = n ∧ ∀ x ∈ l, x.size ≤ 1000 := by
  induction n with
  | zero =>
    intro s l h
    rw [readN] at h
    split at h
    · rename_i h0
      injection h with h
      subst h
      exact ⟨ext_list (List.length_eq_zero_iff.1 (by rw [size_data]; exact h0)), rfl, by simp⟩
    · cases h
  | succ n ih =>
    intro s l h
    rw [readN] at h
    split at h
    · cases h
    rename_i h1
    split at h
    · cases h
    rename_i h2
    split at h
    · cases h
    rename_i h3
    obtain ⟨l', h4, rfl⟩ := Option.map_eq_some_iff.1 h
    obtain ⟨e1, e2, e3⟩ := ih _ _ h4
    have hsz : (s.extract 2 (2 + hd2 s)).size = hd2 s := by rw [size_ext]; omega
    refine ⟨?_, by rw [List.length_cons, e2], ?_⟩
    · rw [restV, ← e1]
      have hb := hd2_bd s
      have r0 := bt_range s 0
      have r1 := bt_range s 1
      have b0 := bt_list s 0 (by omega)
      have b1 := bt_list s 1 (by omega)
      apply ext_list
      rw [ByteArray.data_append, Array.toList_append]
      unfold fieldV
      rw [ByteArray.data_append, Array.toList_append, extract_list, extract_list, hsz, List.take_of_length_le (i := s.size) (by rw [size_data]; exact Nat.le_refl _)]
      have hl := size_data s
      match hd : s.data.toList with
      | [] => rw [hd] at hl; simp at hl; omega
      | [_] => rw [hd] at hl; simp at hl; omega
      | c0 :: c1 :: r =>
        rw [hd] at b0 b1
        simp only [List.getD_cons_zero, List.getD_cons_succ] at b0 b1
        have c0b := UInt8.toNat_lt c0
        have c1b := UInt8.toNat_lt c1
        have f0 : bt s 0 = (c0.toNat : Int) := b0
        have f1 : bt s 1 = (c1.toNat : Int) := b1
        have g0 : (hd2 s : Int) / 256 % 256 = (c0.toNat : Int) := by rw [hb.2, f0, f1]; omega
        have g1 : (hd2 s : Int) % 256 = (c1.toNat : Int) := by rw [hb.2, f0, f1]; omega
        rw [g0, g1]
        have hr : (strOfNums [(c0.toNat : Int), (c1.toNat : Int)]).data.toList = [c0, c1] := by simp [strOfNums]
        rw [hr]
        rw [show 2 + hd2 s = hd2 s + 1 + 1 by omega]
        simp
    · intro x hx
      rcases List.mem_cons.1 hx with rfl | hx
      · rw [hsz]; omega
      · exact e3 x hx
theorem readV_of {a : ByteArray} {l : List ByteArray} (h : readV a = some l) : a = fieldsV l ∧ l.length ≤ 40 ∧ ∀ x ∈ l, x.size ≤ 1000 := by
  unfold readV at h
  split at h
  · cases h
  rename_i h1
  split at h
  · cases h
  rename_i h2
  obtain ⟨e1, e2, e3⟩ := restV_of _ _ _ h
  have r0 := bt_range a 0
  have b0 := bt_list a 0 (by omega)
  refine ⟨?_, by omega, e3⟩
  unfold fieldsV
  rw [← e1, e2]
  apply ext_list
  rw [ByteArray.data_append, Array.toList_append, extract_list, List.take_of_length_le (i := a.size) (by rw [size_data]; exact Nat.le_refl _)]
  have hl := size_data a
  match hd : a.data.toList with
  | [] => rw [hd] at hl; simp at hl; omega
  | c0 :: r =>
    rw [hd] at b0
    simp only [List.getD_cons_zero] at b0
    have c0b := UInt8.toNat_lt c0
    have f0 : bt a 0 = (c0.toNat : Int) := b0
    have g0 : (((bt a 0).toNat : Nat) : Int) % 256 = (c0.toNat : Int) := by rw [f0]; omega
    rw [g0]
    have hr : (strOfNums [(c0.toNat : Int)]).data.toList = [c0] := by simp [strOfNums]
    rw [hr]
    simp
end Go.Proofs.YtjhhehjjnfnigaaGreatDoor.U

/- A store is a row of pairs: its size, its copy, whether it stands, and what is found in it. -/
namespace Go.Proofs.YtjhhehjjnfnigaaGreatDoor.U
open Go Go.RowKit Go.Proofs.YtjhhehjjnfnigaaGreatDoor.Q Go.Proofs.YtjhhehjjnfnigaaGreatDoorW.PrintWords Go.Proofs.YtjhhehjjnfnigaaGreatDoorW.PrintLast Go.Proofs.YtjhhehjjnfnigaaGreatDoorW.PrintMore
set_option linter.unusedVariables false
set_option linter.unusedSimpArgs false

abbrev LP := S33
abbrev IP := S37
def toP (x : LP) : IP := ⟨x.f0, x.f1⟩
theorem rdL (l : List LP) (i : Nat) (h : i < l.length) : rd_T33 l (i : Int) = l[i] := by simp [rd_T33, List.getD_eq_getElem?_getD, List.getElem?_eq_getElem h]
theorem rdI (l : List IP) (i : Nat) (h : i < l.length) : rd_T37 l (i : Int) = l[i] := by simp [rd_T37, List.getD_eq_getElem?_getD, List.getElem?_eq_getElem h]

theorem szPair_ok (a b : ByteArray) (n : Int) (ha : a.size ≤ 9223372036854775807) (hb : b.size ≤ 9223372036854775807) (h0 : 0 ≤ n) (h1 : n ≤ 1048576) :
    ∃ z, laws_szPair.f a b n = some z ∧ (z < 0 ∨ (0 ≤ z ∧ z ≤ n ∧ a.size ≤ 1048576 ∧ b.size ≤ 1048576)) := by
  unfold laws_szPair.f
  rw [wid (n := n - (a.size : Int)) (by omega) (by omega)]
  by_cases c1 : n - (a.size : Int) < 0
  · exact ⟨-1, by rw [if_pos c1], .inl (by decide)⟩
  rw [if_neg c1, wid (n := n - (a.size : Int) - (b.size : Int)) (by omega) (by omega)]
  by_cases c2 : n - (a.size : Int) - (b.size : Int) < 0
  · exact ⟨-1, by rw [if_pos c2], .inl (by decide)⟩
  exact ⟨_, by rw [if_neg c2], .inr (by omega)⟩
/-- All pairs are short. -/
def Short (l : List LP) : Prop := l.length ≤ 1048576 ∧ ∀ x ∈ l, x.f0.size ≤ 1048576 ∧ x.f1.size ≤ 1048576
theorem szPairS_go (l : List LP) (hl : l.length ≤ 1048576) (hx : ∀ x ∈ l, x.f0.size ≤ 9223372036854775807 ∧ x.f1.size ≤ 9223372036854775807) : ∀ (d i : Nat) (n : Int), i + d = l.length → 0 ≤ n → n ≤ 1048576 →
    ∃ z, Ev (fun k => laws_szPairS.l0 k l n (i : Int)) z ∧ (z < 0 ∨ (0 ≤ z ∧ z ≤ n ∧ ∀ x ∈ l.drop i, x.f0.size ≤ 1048576 ∧ x.f1.size ≤ 1048576)) := by
  intro d
  induction d with
  | zero =>
    intro i n hi h0 h1
    refine ⟨n, Ev.step (fun k => ?_) (Ev.now _), .inr ⟨h0, Int.le_refl _, ?_⟩⟩
    · rw [laws_szPairS.l0, if_neg (by omega)]
    · rw [List.drop_of_length_le (by omega)]; simp
  | succ d ih =>
    intro i n hi h0 h1
    have hlt : i < l.length := by omega
    obtain ⟨z1, e1, hz1⟩ := szPair_ok l[i].f0 l[i].f1 n (hx _ (List.getElem_mem hlt)).1 (hx _ (List.getElem_mem hlt)).2 h0 h1
    have hstep : ∀ k, laws_szPairS.l0 (k + 1) l n (i : Int) = if z1 < 0 then some (-1) else laws_szPairS.l0 k l z1 ((i + 1 : Nat) : Int) := by
      intro k
      rw [laws_szPairS.l0, if_pos (by omega), if_pos (by omega), rdL l i hlt, e1, wid (n := (i : Int) + 1) (by omega) (by omega)]
      rfl
    by_cases hn : z1 < 0
    · exact ⟨-1, Ev.step hstep (by simp only [if_pos hn]; exact Ev.now _), .inl (by decide)⟩
    rcases hz1 with hz1 | ⟨hz0, hzn, ha, hb⟩
    · exact absurd hz1 hn
    obtain ⟨z, e2, hz⟩ := ih (i + 1) z1 (by omega) hz0 (by omega)
    refine ⟨z, Ev.step hstep (by simp only [if_neg hn]; exact e2), ?_⟩
    rcases hz with hz | ⟨hz1, hz2, hz3⟩
    · exact .inl hz
    refine .inr ⟨hz1, by omega, ?_⟩
    rw [List.drop_eq_getElem_cons hlt]
    intro x hxm
    rcases List.mem_cons.1 hxm with rfl | hxm
    · exact ⟨ha, hb⟩
    · exact hz3 x hxm
theorem szPairS_ev (l : List LP) (n : Int) (hl : l.length ≤ 9223372036854775807) (hx : ∀ x ∈ l, x.f0.size ≤ 9223372036854775807 ∧ x.f1.size ≤ 9223372036854775807) (h0 : 0 ≤ n) (h1 : n ≤ 1048576) :
    ∃ z, Ev (fun k => laws_szPairS.f k l n) z ∧ (z < 0 ∨ (0 ≤ z ∧ z ≤ n ∧ Short l)) := by
  unfold laws_szPairS.f
  rw [wid (n := n - (l.length : Int)) (by omega) (by omega)]
  by_cases c1 : n - (l.length : Int) < 0
  · exact ⟨-1, by simp only [if_pos c1]; exact Ev.now _, .inl (by decide)⟩
  simp only [if_neg c1]
  obtain ⟨z, e, hz⟩ := szPairS_go l (by omega) hx l.length 0 (n - (l.length : Int)) (by omega) (by omega) (by omega)
  refine ⟨z, e, ?_⟩
  rcases hz with hz | ⟨hz1, hz2, hz3⟩
  · exact .inl hz
  · exact .inr ⟨hz1, by omega, by omega, by simpa using hz3⟩

theorem toPairS_go (l : List LP) (hl : l.length ≤ 1048576) : ∀ (d i : Nat) (o : List IP), i + d = l.length → o.length = l.length → (∀ j, j < i → o[j]? = (l.map toP)[j]?) →
    Ev (fun k => laws_toPairS.l0 k l o (i : Int)) (l.map toP) := by
  intro d
  induction d with
  | zero =>
    intro i o hi ho hj
    have e : o = l.map toP := by
      apply List.ext_getElem?
      intro j
      by_cases h : j < i
      · exact hj j h
      · rw [List.getElem?_eq_none (by omega), List.getElem?_eq_none (by simp; omega)]
    refine Ev.step (fun k => ?_) (Ev.now _)
    rw [laws_toPairS.l0, if_neg (by omega), e]
  | succ d ih =>
    intro i o hi ho hj
    have hlt : i < l.length := by omega
    refine Ev.step (f := fun k => laws_toPairS.l0 k l (o.set i (toP l[i])) ((i + 1 : Nat) : Int)) (fun k => ?_) (ih (i + 1) (o.set i (toP l[i])) (by omega) (by simpa using ho) ?_)
    · rw [laws_toPairS.l0, if_pos (by omega), if_pos (by omega), rdL l i hlt]
      simp only [laws_toPair.f, Option.bind_some]
      rw [if_pos (by omega), wid (n := (i : Int) + 1) (by omega) (by omega)]
      rfl
    · intro j hji
      rw [List.getElem?_set]
      by_cases h : i = j
      · subst h
        rw [if_pos rfl, if_pos (by omega)]
        simp [hlt]
      · rw [if_neg h]
        exact hj j (by omega)
theorem toPairS_ev (l : List LP) (hl : l.length ≤ 1048576) : Ev (fun k => laws_toPairS.f k l) (l.map toP) := by
  unfold laws_toPairS.f
  simp only [if_pos (show (0 : Int) ≤ (l.length : Int) by omega), if_pos (show (l.length : Int).toNat ≤ 8796093022208 by omega)]
  exact toPairS_go l hl l.length 0 _ (by omega) (by simp) (by simp)
theorem eqPair_self (a b : ByteArray) : laws_eqPair.f a b a b = some true := by unfold laws_eqPair.f; rw [if_pos rfl, if_pos rfl]
theorem eqPairS_go (l : List IP) (hl : l.length ≤ 1048576) : ∀ (d i : Nat), i + d = l.length → Ev (fun k => laws_eqPairS.l0 k l l (i : Int)) true := by
  intro d
  induction d with
  | zero =>
    intro i hi
    exact Ev.step (fun k => by rw [laws_eqPairS.l0, if_neg (by omega)]) (Ev.now _)
  | succ d ih =>
    intro i hi
    refine Ev.step (f := fun k => laws_eqPairS.l0 k l l ((i + 1 : Nat) : Int)) (fun k => ?_) (ih (i + 1) (by omega))
    rw [laws_eqPairS.l0, if_pos (by omega), if_pos (by omega), if_pos (by omega), eqPair_self, wid (n := (i : Int) + 1) (by omega) (by omega)]
    rfl
theorem eqPairS_ev (l : List IP) (hl : l.length ≤ 1048576) : Ev (fun k => laws_eqPairS.f k l l) true := by
  unfold laws_eqPairS.f
  simp only [if_true]
  exact eqPairS_go l hl l.length 0 (by omega)

/-! ### whether it stands -/
def keyB (x : ByteArray) : Bool := decide (1 ≤ x.size ∧ x.size ≤ 60)
def valueB (x : ByteArray) : Bool := decide (x.size ≤ 1000)
def lessB (l : List IP) (i : Nat) : Bool := decide (i = 0) || Op.bytesLess ((rd_T37 l ((i : Int) - 1)).f0).toList ((rd_T37 l (i : Int)).f0).toList
def pairB (l : List IP) (i : Nat) : Bool := keyB (rd_T37 l (i : Int)).f0 && (valueB (rd_T37 l (i : Int)).f1 && lessB l i)
def fromB (l : List IP) : Nat → Nat → Bool
  | 0, _ => true
  | d + 1, i => pairB l i && fromB l d (i + 1)
/-- The store stands: keys and values are in their bounds, keys rise, and there are at most 400. -/
def storeB (l : List IP) : Bool := fromB l l.length 0 && decide (l.length ≤ 400)
theorem implKey_eq (x : ByteArray) : impl_isKey.f x = some (keyB x) := by
  unfold impl_isKey.f impl_within.f keyB
  by_cases h : (x.size : Int) ≥ 1
  · simp only [if_pos h, Option.bind_some]; congr 1; rw [decide_eq_decide]; omega
  · simp only [if_neg h, Option.bind_some]; congr 1; rw [eq_comm, decide_eq_false_iff_not]; omega
theorem specKey_eq (x : ByteArray) : spec_l03Key.f x = some (keyB x) := by
  unfold spec_l03Key.f spec_l01In.f keyB
  by_cases h : (x.size : Int) ≥ 1
  · simp only [if_pos h, Option.bind_some]; congr 1; rw [decide_eq_decide]; omega
  · simp only [if_neg h, Option.bind_some]; congr 1; rw [eq_comm, decide_eq_false_iff_not]; omega
theorem implValue_eq (x : ByteArray) : impl_isValue.f x = some (valueB x) := by
  unfold impl_isValue.f valueB; congr 1; rw [decide_eq_decide]; omega
theorem specPair_eq (x y : ByteArray) : spec_l03Pair.f x y = some (keyB x && valueB y) := by
  unfold spec_l03Pair.f valueB
  rw [specKey_eq]
  simp only [Option.bind_some]
  cases keyB x with
  | false => rfl
  | true => simp only [if_true, Bool.true_and]; congr 1; rw [decide_eq_decide]; omega
theorem specStore_go (l : List IP) (hl : l.length ≤ 1048576) : ∀ (d i : Nat), i + d = l.length → Ev (fun k => spec_StoreOK.l0 k l (i : Int)) (fromB l d i) := by
  intro d
  induction d with
  | zero =>
    intro i hi
    exact Ev.step (fun k => by rw [spec_StoreOK.l0, if_neg (by omega)]; rfl) (Ev.now _)
  | succ d ih =>
    intro i hi
    have hstep : ∀ k, spec_StoreOK.l0 (k + 1) l (i : Int) = if pairB l i = true then spec_StoreOK.l0 k l ((i + 1 : Nat) : Int) else some false := by
      intro k
      rw [spec_StoreOK.l0, if_pos (by omega), if_pos (by omega), specPair_eq]
      simp only [Option.bind_some, pairB, lessB]
      rw [wid (n := (i : Int) + 1) (by omega) (by omega)]
      rcases Bool.eq_false_or_eq_true (keyB (rd_T37 l (i : Int)).f0) with hk | hk
      · rcases Bool.eq_false_or_eq_true (valueB (rd_T37 l (i : Int)).f1) with hv | hv
        · simp only [hk, hv, Bool.true_and, Bool.and_self, if_true]
          by_cases h0 : i = 0
          · subst h0; simp
          · rw [if_pos (show (i : Int) > 0 by omega), wid (n := (i : Int) - 1) (by omega) (by omega), if_pos (by omega), if_pos (by omega), decide_eq_false h0, Bool.false_or]
            rfl
        · simp only [hk, hv, Bool.true_and, Bool.and_false, Bool.false_and, Bool.false_eq_true, if_false, if_true]
      · simp only [hk, Bool.false_and, Bool.false_eq_true, if_false]
    have h2 := ih (i + 1) (by omega)
    refine Ev.step hstep ?_
    rw [fromB]
    cases pairB l i with
    | false => exact Ev.now _
    | true => simp only [if_true, Bool.true_and]; exact h2
theorem specStoreOK_ev (l : List IP) (hl : l.length ≤ 1048576) : Ev (fun k => spec_StoreOK.f k l) (storeB l) := by
  unfold spec_StoreOK.f storeB
  by_cases h1 : (l.length : Int) > 4096
  · simp only [if_pos h1, decide_eq_false (show ¬ l.length ≤ 400 by omega), Bool.and_false]; exact Ev.now _
  simp only [if_neg h1]
  by_cases h2 : (l.length : Int) > 400
  · simp only [if_pos h2, decide_eq_false (show ¬ l.length ≤ 400 by omega), Bool.and_false]; exact Ev.now _
  simp only [if_neg h2, decide_eq_true (show l.length ≤ 400 by omega), Bool.and_true]
  exact specStore_go l hl l.length 0 (by omega)
theorem implStore_go (l : List IP) (hl : l.length ≤ 1048576) : ∀ (d i : Nat), i + d = l.length → Ev (fun k => impl_StoreOK.l0 k l l (l.length : Int) (i : Int)) (fromB l d i && decide (l.length ≤ 400)) := by
  intro d
  induction d with
  | zero =>
    intro i hi
    refine Ev.step (fun k => ?_) (Ev.now _)
    rw [impl_StoreOK.l0, if_neg (by omega), fromB, Bool.true_and]
    congr 1; rw [decide_eq_decide]; omega
  | succ d ih =>
    intro i hi
    have hstep : ∀ k, impl_StoreOK.l0 (k + 1) l l (l.length : Int) (i : Int) = if pairB l i = true then impl_StoreOK.l0 k l l (l.length : Int) ((i + 1 : Nat) : Int) else some false := by
      intro k
      rw [impl_StoreOK.l0, if_pos (by omega), if_pos (by omega), if_pos (by omega), implKey_eq, implValue_eq]
      simp only [Option.bind_some, pairB, lessB]
      rw [wid (n := (i : Int) + 1) (by omega) (by omega)]
      rcases Bool.eq_false_or_eq_true (keyB (rd_T37 l (i : Int)).f0) with hk | hk
      · rcases Bool.eq_false_or_eq_true (valueB (rd_T37 l (i : Int)).f1) with hv | hv
        · simp only [hk, hv, Bool.true_and, Bool.and_self, if_true]
          by_cases h0 : i = 0
          · subst h0; simp
          · rw [if_pos (show (i : Int) > 0 by omega), wid (n := (i : Int) - 1) (by omega) (by omega), if_pos (by omega), if_pos (by omega), decide_eq_false h0, Bool.false_or]
            rfl
        · simp only [hk, hv, Bool.true_and, Bool.and_false, Bool.false_and, Bool.false_eq_true, if_false, if_true]
      · simp only [hk, Bool.false_and, Bool.false_eq_true, if_false]
    have h2 := ih (i + 1) (by omega)
    refine Ev.step hstep ?_
    rw [fromB]
    cases pairB l i with
    | false => exact Ev.now _
    | true => simp only [if_true, Bool.true_and]; exact h2
theorem implStoreOK_ev (l : List IP) (hl : l.length ≤ 1048576) : Ev (fun k => impl_StoreOK.f k l) (storeB l) := by
  unfold impl_StoreOK.f storeB
  exact implStore_go l hl l.length 0 (by omega)
/-- The code of a store, no texts being too long. -/
def storeV (l : List IP) : Int := if l.length ≤ 4096 then (if storeB l = true then 0 else 1) else 2
end Go.Proofs.YtjhhehjjnfnigaaGreatDoor.U

/- What is found in a store: the reference's search and the program's take the same steps. -/
namespace Go.Proofs.YtjhhehjjnfnigaaGreatDoor.U
open Go Go.RowKit Go.Proofs.YtjhhehjjnfnigaaGreatDoor.Q Go.Proofs.YtjhhehjjnfnigaaGreatDoorW.PrintWords Go.Proofs.YtjhhehjjnfnigaaGreatDoorW.PrintLast Go.Proofs.YtjhhehjjnfnigaaGreatDoorW.PrintMore
set_option linter.unusedVariables false
set_option linter.unusedSimpArgs false

theorem cmp_neg : ∀ a b : List UInt8, Lib.compareBytes a b < 0 ↔ Op.bytesLess a b = true
  | [], [] => by simp [Lib.compareBytes, Op.bytesLess]
  | [], _ :: _ => by simp [Lib.compareBytes, Op.bytesLess]
  | _ :: _, [] => by simp [Lib.compareBytes, Op.bytesLess]
  | a :: x, b :: y => by
    rw [Lib.compareBytes, Op.bytesLess]
    by_cases h1 : a < b
    · simp [h1]
    · by_cases h2 : b < a
      · have h3 : ¬ a = b := fun e => by subst e; exact h1 h2
        simp [h1, h2, h3]
      · have h3 : a = b := UInt8.le_antisymm (UInt8.not_lt.1 h2) (UInt8.not_lt.1 h1)
        subst h3
        simp [h1, cmp_neg x y]
theorem cmp_zero : ∀ a b : List UInt8, Lib.compareBytes a b = 0 ↔ a = b
  | [], [] => by simp [Lib.compareBytes]
  | [], _ :: _ => by simp [Lib.compareBytes]
  | _ :: _, [] => by simp [Lib.compareBytes]
  | a :: x, b :: y => by
    rw [Lib.compareBytes]
    by_cases h1 : a < b
    · have h3 : ¬ a = b := fun e => by subst e; exact UInt8.lt_irrefl _ h1
      simp [h1, h3]
    · by_cases h2 : b < a
      · have h3 : ¬ a = b := fun e => by subst e; exact h1 h2
        simp [h1, h2, h3]
      · have h3 : a = b := UInt8.le_antisymm (UInt8.not_lt.1 h2) (UInt8.not_lt.1 h1)
        subst h3
        simp [h1, cmp_zero x y]
/-- Where a key's search ends. -/
def atV (l : List IP) (key : ByteArray) : Nat → Nat → Nat → Nat
  | 0, i, _ => i
  | f + 1, i, j => if i < j then (if Op.bytesLess ((rd_T37 l (((i + j) / 2 : Nat) : Int)).f0).toList key.toList = true then atV l key f ((i + j) / 2 + 1) j else atV l key f i ((i + j) / 2)) else i
theorem atV_bd (l : List IP) (key : ByteArray) : ∀ (f i j : Nat), i ≤ j → i ≤ atV l key f i j ∧ atV l key f i j ≤ j
  | 0, i, j, h => ⟨Nat.le_refl _, h⟩
  | f + 1, i, j, h => by
    rw [atV]
    by_cases h1 : i < j
    · rw [if_pos h1]
      split
      · have := atV_bd l key f ((i + j) / 2 + 1) j (by omega); omega
      · have := atV_bd l key f i ((i + j) / 2) (by omega); omega
    · rw [if_neg h1]; omega
theorem specAt_go (l : List IP) (key : ByteArray) (hl : l.length ≤ 1048576) : ∀ (f i j : Nat), j - i < f → i ≤ j → j ≤ l.length → Ev (fun k => spec_l03At.l0 k l key (i : Int) (j : Int)) (atV l key f i j : Int)
  | 0, i, j, h, _, _ => by omega
  | f + 1, i, j, h, hij, hj => by
    rw [atV]
    by_cases h1 : i < j
    · rw [if_pos h1]
      have e1 : wrap64 (Int.tdiv (wrap64 ((i : Int) + (j : Int))) 2) = (((i + j) / 2 : Nat) : Int) := by
        rw [wid (n := (i : Int) + (j : Int)) (by omega) (by omega), tdiv_nn (by omega), wid (by omega) (by omega)]; omega
      have hstep : ∀ k, spec_l03At.l0 (k + 1) l key (i : Int) (j : Int) = if Op.bytesLess ((rd_T37 l (((i + j) / 2 : Nat) : Int)).f0).toList key.toList = true then spec_l03At.l0 k l key (((i + j) / 2 + 1 : Nat) : Int) (j : Int) else spec_l03At.l0 k l key (i : Int) (((i + j) / 2 : Nat) : Int) := by
        intro k
        rw [spec_l03At.l0, if_pos (by omega), e1, if_pos (by omega), if_pos (by omega), wid (n := (((i + j) / 2 : Nat) : Int) + 1) (by omega) (by omega)]
        rfl
      refine Ev.step hstep ?_
      split
      · exact specAt_go l key hl f _ _ (by omega) (by omega) hj
      · exact specAt_go l key hl f _ _ (by omega) (by omega) (by omega)
    · rw [if_neg h1]
      exact Ev.step (fun k => by rw [spec_l03At.l0, if_neg (by omega)]) (Ev.now _)
theorem implAt_go (l : List IP) (key : ByteArray) (hl : l.length ≤ 1048576) : ∀ (f i j : Nat), j - i < f → i ≤ j → j ≤ l.length → Ev (fun k => impl_pairAt.l0 k l key (i : Int) (j : Int)) (atV l key f i j : Int)
  | 0, i, j, h, _, _ => by omega
  | f + 1, i, j, h, hij, hj => by
    rw [atV]
    by_cases h1 : i < j
    · rw [if_pos h1]
      have e1 : ((i : Int) + (j : Int)) / 2 = (((i + j) / 2 : Nat) : Int) := by omega
      have hstep : ∀ k, impl_pairAt.l0 (k + 1) l key (i : Int) (j : Int) = if Op.bytesLess ((rd_T37 l (((i + j) / 2 : Nat) : Int)).f0).toList key.toList = true then impl_pairAt.l0 k l key (((i + j) / 2 + 1 : Nat) : Int) (j : Int) else impl_pairAt.l0 k l key (i : Int) (((i + j) / 2 : Nat) : Int) := by
        intro k
        rw [impl_pairAt.l0, if_pos (by omega), e1, if_pos (by omega), if_pos (by omega), Lib.toList_data, Lib.toList_data]
        by_cases hb : Op.bytesLess ((rd_T37 l (((i + j) / 2 : Nat) : Int)).f0).data.toList key.data.toList = true
        · rw [if_pos hb, if_pos ((cmp_neg _ _).2 hb)]; rfl
        · rw [if_neg hb, if_neg (fun e => hb ((cmp_neg _ _).1 e))]
      refine Ev.step hstep ?_
      split
      · exact implAt_go l key hl f _ _ (by omega) (by omega) hj
      · exact implAt_go l key hl f _ _ (by omega) (by omega) (by omega)
    · rw [if_neg h1]
      exact Ev.step (fun k => by rw [impl_pairAt.l0, if_neg (by omega)]) (Ev.now _)
def atOf (l : List IP) (key : ByteArray) : Nat := atV l key (l.length + 1) 0 l.length
theorem atOf_le (l : List IP) (key : ByteArray) : atOf l key ≤ l.length := (atV_bd l key _ 0 l.length (by omega)).2
theorem specAt_ev (l : List IP) (key : ByteArray) (hl : l.length ≤ 1048576) : Ev (fun k => spec_l03At.f k l key) (atOf l key : Int) := specAt_go l key hl (l.length + 1) 0 l.length (by omega) (by omega) (by omega)
def hitB (l : List IP) (key : ByteArray) : Bool := decide (atOf l key < l.length) && (((rd_T37 l (atOf l key : Int)).f0).toList == key.toList)
theorem implAt_ev (l : List IP) (key : ByteArray) (hl : l.length ≤ 1048576) : Ev (fun k => impl_pairAt.f k l key) ((atOf l key : Int), hitB l key) := by
  unfold impl_pairAt.f
  refine Ev.bind (implAt_go l key hl (l.length + 1) 0 l.length (by omega) (by omega) (by omega)) ?_
  have hle := atOf_le l key
  have e : impl_pairAt.hit l key (atOf l key : Int) = hitB l key := by
    unfold impl_pairAt.hit hitB
    congr 1
    · rw [decide_eq_decide]; omega
    · rw [Lib.toList_data, Lib.toList_data, Bool.eq_iff_iff, beq_iff_eq, beq_iff_eq]
      exact cmp_zero _ _
  rw [show atV l key (l.length + 1) 0 l.length = atOf l key from rfl]
  simp only [if_pos (show (l.length : Int) < 1000000000000 by omega), if_pos (show (0 : Int) ≤ (atOf l key : Int) by omega), if_pos (show (atOf l key : Int) ≤ (l.length : Int) by omega), e]
  exact Ev.now _
/-- What is found, and whether. -/
def getV (l : List IP) (key : ByteArray) : ByteArray × Bool := if hitB l key = true then ((rd_T37 l (atOf l key : Int)).f1, true) else ((⟨#[]⟩ : ByteArray), false)
theorem specGet_ev (l : List IP) (key : ByteArray) (hl : l.length ≤ 1048576) : Ev (fun k => spec_l03Get.f k l key) (getV l key) := by
  unfold spec_l03Get.f getV hitB
  refine Ev.bind (specAt_ev l key hl) ?_
  by_cases h1 : atOf l key < l.length
  · simp only [if_pos (show (atOf l key : Int) < (l.length : Int) by omega), if_pos (show (0 : Int) ≤ (atOf l key : Int) by omega), decide_eq_true h1, Bool.true_and]
    by_cases h2 : ((rd_T37 l (atOf l key : Int)).f0).toList = key.toList
    · simp only [h2, beq_self_eq_true, if_true]; exact Ev.now _
    · simp only [if_neg h2, beq_eq_false_iff_ne.2 h2, Bool.false_eq_true, if_false]; exact Ev.now _
  · simp only [if_neg (show ¬ (atOf l key : Int) < (l.length : Int) by omega), decide_eq_false h1, Bool.false_and, Bool.false_eq_true, if_false]; exact Ev.now _
theorem implGet_ev (l : List IP) (key : ByteArray) (hl : l.length ≤ 1048576) : Ev (fun k => impl_get.f k l key) (getV l key) := by
  unfold impl_get.f getV
  refine Ev.bind (implAt_ev l key hl) ?_
  cases h : hitB l key with
  | false => simp only [Bool.false_eq_true, if_false]; exact Ev.now _
  | true =>
    have h1 : atOf l key < l.length := by
      unfold hitB at h
      rw [Bool.and_eq_true, decide_eq_true_iff] at h
      exact h.1
    simp only [if_true, if_pos (show (0 : Int) ≤ (atOf l key : Int) by omega), if_pos (show (atOf l key : Int) < (l.length : Int) by omega)]
    exact Ev.now _
end Go.Proofs.YtjhhehjjnfnigaaGreatDoor.U
