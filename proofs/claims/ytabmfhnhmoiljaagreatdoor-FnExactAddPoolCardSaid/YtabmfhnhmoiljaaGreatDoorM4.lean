/- Parts of the proof: what single Go functions compute, each with its walk, and plain laws over these. -/
import Derived.Test.YtabmfhnhmoiljaaGreatDoorM0
import Derived.Test.YtabmfhnhmoiljaaGreatDoorM3
import Derived.Test.YtabmfhnhmoiljaaGreatDoorM2
import Derived.IntWalk
import Derived.Laws.BitsLemmas
import Derived.Test.YtabmfhnhmoiljaaGreatDoorVMore
import Derived.Test.YtabmfhnhmoiljaaGreatDoorM1
import Derived.Lib.ItoaNum
import Derived.Lib.AtoiAllCases
import Derived.Lib.Strings
import Derived.Lib.Bytealg
import Derived.Sort.Walk0
namespace Go.Proofs.YtabmfhnhmoiljaaGreatDoor.Q
open Go.RowKit Go.Proofs.YtabmfhnhmoiljaaGreatDoorW.PrintWords Go.Proofs.YtabmfhnhmoiljaaGreatDoorW.PrintLast Go.Proofs.YtabmfhnhmoiljaaGreatDoorW.PrintMore
open Go.Proofs.YtabmfhnhmoiljaaGreatDoorW.PrintWords.Aside0 renaming mk → ζa
open Go.Proofs.YtabmfhnhmoiljaaGreatDoorW.PrintWords renaming gate_dst → δx, box_event → δz, below_size → δs, below_step → δr, blk_cell → δl, blk_frozen → δm, gate_callee → δv, pw_below_drewN → δi, blk_drewN → δn
open List renaming map_toArray → δd, map_cons → δe, map_nil → δf
open Go.Proofs.YtabmfhnhmoiljaaGreatDoorW.PrintWords.Kd renaming R_reads' → ζg
open Bool renaming true → τ, false → φ
attribute [local go_sem] max2_int min2_int max_two min_two max_three min_three max_four min_four   -- for this text's walks alone
set_option linter.unusedVariables false
set_option linter.unusedSimpArgs false

/-! ### impl_Pool_shares: function 180 -/
def impl_Pool_shares.f (k:Nat) (a0_0:Int) (a0_1:Int) (a0_2:Int) (a1:Int) (a2:Int):Option (Int × Int):=if a0_2=0 then ((impl_RootOf.f k a1 a2).bind fun bt1050=>(some (bt1050.1,bt1050.2))) else ((impl_MulDiv.f k a1 a0_2 a0_0).bind fun bt1052=>((impl_MulDiv.f k a2 a0_2 a0_1).bind fun bt1054=>((impl_firstOf.f k (([bt1052.2,bt1054.2]:List Int))).bind fun t1059=>(some (mn bt1052.1 bt1054.1,t1059)))))
set_option maxHeartbeats 8000000 in
set_option maxRecDepth 100000 in
theorem impl_Pool_shares.calls (k:Nat) (a0_0:Int) (a0_1:Int) (a0_2:Int) (a1:Int) (a2:Int) (r1:Int) (r2:Int) (w:World) (h:impl_Pool_shares.f k a0_0 a0_1 a0_2 a1 a2=some (r1,r2)) :
  Calls Tryz.prog 180 #[.agg #[.int .i64 a0_0,.int .i64 a0_1,.int .i64 a0_2],.int .i64 a1,.int .i64 a2] w fun e w'=>e = .returned (.tuple #[.int .i64 r1,.int .i64 r2])∧Below w.heap.size w w':=by
 have hu109:=Tryz.underlying109
 have HB:=ζa (Below.refl w.heap.size w)
 have H:(if a0_2=0 then ((impl_RootOf.f k a1 a2).bind fun bt1050=>(some (bt1050.1,bt1050.2))) else ((impl_MulDiv.f k a1 a0_2 a0_0).bind fun bt1052=>((impl_MulDiv.f k a2 a0_2 a0_1).bind fun bt1054=>((impl_firstOf.f k (([bt1052.2,bt1054.2]:List Int))).bind fun t1059=>(some (mn bt1052.1 bt1054.1,t1059))))))=some (r1,r2):=h
 clear h
 by_cases c4:a0_2=0
 ·
  rw [if_pos c4] at H
  have c4b0:(a0_2 == 0)=τ:=beq_iff_eq.mpr c4
  have c4b1:(a0_2 != 0)=φ:=bne_eq_false_iff_eq.mpr c4
  clear c4
  replace H:=Option.bind_eq_some_iff.mp H
  obtain ⟨⟨t1050,t1051⟩,A50,H⟩:=H
  replace H:(some (t1050,t1051))=some (r1,r2):=H
  have A5:=ζa A50
  clear A50
  simp only [Option.some.injEq,Prod.mk.injEq] at H
  obtain ⟨rfl,rfl⟩:=H
  go_enter Tryz.func180,Tryz.ntmps180
  go_wp2_with (first|((with_reducible refine δx (N:=3) rfl ?_);refine δz ?hg (N:=3) ?hd (cs:=#[.int .i64 a0_0,.int .i64 a0_1,.int .i64 a0_2]) (t:=109) ?hr ?_;(case hd=>rfl);(case hg=>rfl);(case hr=>(go_simp;done));intro gb1049 hg w6 hbox hb;have BK1049:=ζa (hbox);have GW1049:=ζa ((by rw [hg];exact (δs (by exact HB.out)):w.heap.size≤gb1049));have GE1049:=ζa ((by rw [hg];exact (δs (by exact HB.out)):w.heap.size≤gb1049));replace HB:=ζa (δr (by exact HB.out) hb);clear hb hbox hg;have hcz7_0:w6.cell? ⟨gb1049,0,none⟩=some (.int .i64 a0_0):=(δl BK1049.out 0).trans rfl;have hcz7_1:w6.cell? ⟨gb1049,1,none⟩=some (.int .i64 a0_1):=(δl BK1049.out 1).trans rfl;have hcz7_2:w6.cell? ⟨gb1049,2,none⟩=some (.int .i64 a0_2):=(δl BK1049.out 2).trans rfl;have hfz7_0:=δm BK1049.out 0;have hfz7_1:=δm BK1049.out 1;have hfz7_2:=δm BK1049.out 2)|((with_reducible refine δv (f:=202) rfl ?_);refine goesL_ (some 17) rfl rfl Tryz.func202 (by kernel_rfl) rfl #[.int .i64 a1,.int .i64 a2] rfl (by (try simp only [δd,δe,δf]);rfl) ?_;(with_reducible refine (impl_RootOf.calls k a1 a2 t1050 t1051 _ A5.out).mono ?_);rintro e w' ⟨rfl,⟨nd,rfl⟩⟩;refine ⟨_,rfl,?_⟩))
  go_ret2
  exact ⟨by rfl,by repeat ((with_reducible first|exact HB.out|apply δi))⟩
 ·
  rw [if_neg c4] at H
  have c4b0:(a0_2 == 0)=φ:=beq_eq_false_iff_ne.mpr c4
  have c4b1:(a0_2 != 0)=τ:=bne_iff_ne.mpr c4
  replace H:=Option.bind_eq_some_iff.mp H
  obtain ⟨⟨t1052,t1053⟩,A80,H⟩:=H
  replace H:((impl_MulDiv.f k a2 a0_2 a0_1).bind fun bt1054=>((impl_firstOf.f k (([t1053,bt1054.2]:List Int))).bind fun t1059=>(some (mn t1052 bt1054.1,t1059))))=some (r1,r2):=H
  have A8:=ζa A80
  clear A80
  replace H:=Option.bind_eq_some_iff.mp H
  obtain ⟨⟨t1054,t1055⟩,A90,H⟩:=H
  replace H:((impl_firstOf.f k (([t1053,t1055]:List Int))).bind fun t1059=>(some (mn t1052 t1054,t1059)))=some (r1,r2):=H
  have A9:=ζa A90
  clear A90
  obtain ⟨ji10,hji10⟩ : ∃ j_:Int,(mn t1052 t1054)=j_:=⟨_,rfl⟩
  replace H:((impl_firstOf.f k (([t1053,t1055]:List Int))).bind fun t1059=>(some (ji10,t1059)))=some (r1,r2):=by (rw [hji10] at H;exact H)
  (try rw [hji10] at A8)
  (try rw [hji10] at A9)
  have hji10_:(if t1054<t1052 then t1054 else t1052)=ji10:=hji10
  obtain ⟨y1056,hy1056⟩ : ∃ y_:List Int,y_=(([t1053,t1055]:List Int)):=⟨_,rfl⟩
  replace H:((impl_firstOf.f k y1056).bind fun t1059=>(some (ji10,t1059)))=some (r1,r2):=by (rw [hy1056];with_reducible exact H)
  have Ny1056:=ζa hy1056
  clear hy1056
  replace H:=Option.bind_eq_some_iff.mp H
  obtain ⟨t1059,A110,H⟩:=H
  replace H:(some (ji10,t1059))=some (r1,r2):=H
  have A11:=ζa A110
  clear A110
  simp only [Option.some.injEq,Prod.mk.injEq] at H
  obtain ⟨rfl,rfl⟩:=H
  go_enter Tryz.func180,Tryz.ntmps180
  go_wp2_with (first|((with_reducible refine δx (N:=3) rfl ?_);refine δz ?hg (N:=3) ?hd (cs:=#[.int .i64 a0_0,.int .i64 a0_1,.int .i64 a0_2]) (t:=109) ?hr ?_;(case hd=>rfl);(case hg=>rfl);(case hr=>(go_simp;done));intro gb1049 hg w12 hbox hb;have BK1049:=ζa (hbox);have GW1049:=ζa ((by rw [hg];exact (δs (by exact HB.out)):w.heap.size≤gb1049));have GE1049:=ζa ((by rw [hg];exact (δs (by exact HB.out)):w.heap.size≤gb1049));replace HB:=ζa (δr (by exact HB.out) hb);clear hb hbox hg;have hcz13_0:w12.cell? ⟨gb1049,0,none⟩=some (.int .i64 a0_0):=(δl BK1049.out 0).trans rfl;have hcz13_1:w12.cell? ⟨gb1049,1,none⟩=some (.int .i64 a0_1):=(δl BK1049.out 1).trans rfl;have hcz13_2:w12.cell? ⟨gb1049,2,none⟩=some (.int .i64 a0_2):=(δl BK1049.out 2).trans rfl;have hfz13_0:=δm BK1049.out 0;have hfz13_1:=δm BK1049.out 1;have hfz13_2:=δm BK1049.out 2)|((with_reducible refine δv (f:=172) rfl ?_);refine goesL_ (some 26) rfl rfl Tryz.func172 (by kernel_rfl) rfl #[.int .i64 a1,.int .i64 a0_2,.int .i64 a0_0] rfl (by (try simp only [δd,δe,δf]);rfl) ?_;(with_reducible refine (impl_MulDiv.calls k a1 a0_2 a0_0 t1052 t1053 _ A8.out).mono ?_);rintro e w' ⟨rfl,⟨nd,rfl⟩⟩;refine ⟨_,rfl,?_⟩)|((with_reducible refine δv (f:=172) rfl ?_);refine goesL_ (some 35) rfl rfl Tryz.func172 (by kernel_rfl) rfl #[.int .i64 a2,.int .i64 a0_2,.int .i64 a0_1] rfl (by (try simp only [δd,δe,δf]);rfl) ?_;(with_reducible refine (impl_MulDiv.calls k a2 a0_2 a0_1 t1054 t1055 _ A9.out).mono ?_);rintro e w' ⟨rfl,⟨nd,rfl⟩⟩;refine ⟨_,rfl,?_⟩)|((with_reducible refine δx (N:=43) rfl ?_);refine Kd.R_lit (Kd.int .i64) _ 3 ?hg (N:=43) ?hd (xs:=([t1053,t1055]:List Int)) (inner:=[.int .i64 t1053,.int .i64 t1055]) (ok:=fun _=>True) (okp:=fun _=>True) ?hr ?hp (fun _ hk=>hk) trivial (Below.refl _ _) (Nat.le_refl _) (by simp) ?_;(case hd=>rfl);(case hg=>rfl);(case hr=>(go_simp;done));(case hp=>exact (Reps.one (show Kd.M (Kd.int .i64) _ _ _ t1053 [.int .i64 t1053] from rfl) (Reps.one (show Kd.M (Kd.int .i64) _ _ _ t1055 [.int .i64 t1055] from rfl) (Reps.none _ _))));intro v1057 w14 ho15 hb hg_ hnew_;clear hg_ hnew_;(rw [← Ny1056.out] at ho15);have HO1058:=ζa (Kd.R_lower ho15 (δs (by repeat ((with_reducible first|exact HB.out|apply δi)))));replace BK1049:=ζa (blk_below (g:=gb1049) (o:=.cells #[.int .i64 a0_0,.int .i64 a0_1,.int .i64 a0_2] 109 (0,0)) (by (with_reducible repeat (refine δn ?_ _));exact BK1049.out) hb);replace HB:=ζa (δr (by repeat ((with_reducible first|exact HB.out|apply δi))) hb);clear hb ho15;obtain ⟨Ao16,co16,eo16⟩:=Kd.R_slice HO1058.out;subst eo16)|((with_reducible refine δv (f:=203) rfl ?_);refine goesL_ (some 44) rfl rfl Tryz.func203 (by kernel_rfl) rfl #[.slice Ao16 y1056.length co16] rfl (by (try simp only [δd,δe,δf]);rfl) ?_;(with_reducible refine (impl_firstOf.calls k _ _ y1056 t1059 _ ?side1 ?side2 A11.out).mono ?_);(case side1=>repeat (exact (ζg HO1058.out).2.2));(case side2=>exact (ζg HO1058.out).2.1);rintro e w' ⟨rfl,⟨nd,rfl⟩⟩;refine ⟨_,rfl,?_⟩))
  go_ret2
  exact ⟨by rfl,by repeat ((with_reducible first|exact HB.out|apply δi))⟩


open Go.RowKit renaming wrap64 → ζm
open Go.Proofs.YtabmfhnhmoiljaaGreatDoorW.PrintWords renaming gate_dst → δx, box_event → δz, below_size → δs, below_step → δr, blk_cell → δl, blk_frozen → δm, gate_callee → δv, blk_drewN → δn, pw_below_drewN → δi
open List renaming map_toArray → δd, map_cons → δe, map_nil → δf, setIfInBounds_toArray → δa, set_cons_zero → δb, set_cons_succ → δc
open Go.Act renaming put → ζl

/-! ### impl_QuoteAdd: function 131 -/
def impl_QuoteAdd.j0:Nat→Int→Int→Bool→Int→Int→Int→Option (Int × Int)
 | 0,_,_,_,_,_,_=>none
 | k+1,x1,x2,x14,x1061000,x1061001,x1061002=>if x14=τ then (some (0,4)) else (if (ζm (x1061000+x1)) > 1000000000000000000 then (some (0,13)) else (if (ζm (x1061001+x2)) > 1000000000000000000 then (some (0,13)) else ((impl_Pool_shares.f k x1061000 x1061001 x1061002 x1 x2).bind fun bt1064=>(if bt1064.2=0 then (if bt1064.1=0 then (some (0,17)) else (if (ζm (x1061002+bt1064.1)) > 1000000000000000000 then (some (0,13)) else (some (bt1064.1,0)))) else (some (0,13))))))
def impl_QuoteAdd.f (k:Nat) (a0_0:Int) (a0_1:Int) (a0_2:Int) (a1:Int) (a2:Int):Option (Int × Int):=(impl_PoolOK.f a0_0 a0_1 a0_2).bind fun t1061=>(if t1061=τ then ((impl_isSome.f a1).bind fun t1062=>(if t1062=τ then ((impl_isSome.f a2).bind fun t1063=>(impl_QuoteAdd.j0 k a1 a2 (!t1063) a0_0 a0_1 a0_2)) else (impl_QuoteAdd.j0 k a1 a2 τ a0_0 a0_1 a0_2))) else (some (0,1)))
set_option maxHeartbeats 8000000 in
set_option maxRecDepth 100000 in
theorem impl_QuoteAdd.calls (k:Nat) (a0_0:Int) (a0_1:Int) (a0_2:Int) (a1:Int) (a2:Int) (r1:Int) (r2:Int) (w:World) (h:impl_QuoteAdd.f k a0_0 a0_1 a0_2 a1 a2=some (r1,r2)) :
  Calls Tryz.prog 131 #[.agg #[.int .i64 a0_0,.int .i64 a0_1,.int .i64 a0_2],.int .i64 a1,.int .i64 a2] w fun e w'=>e = .returned (.tuple #[.int .i64 r1,.int .i64 r2])∧Below w.heap.size w w':=by
 have hu109:=Tryz.underlying109
 have HB:=ζa (Below.refl w.heap.size w)
 have H:((impl_PoolOK.f a0_0 a0_1 a0_2).bind fun t1061=>(if t1061=τ then ((impl_isSome.f a1).bind fun t1062=>(if t1062=τ then ((impl_isSome.f a2).bind fun t1063=>(impl_QuoteAdd.j0 k a1 a2 (!t1063) a0_0 a0_1 a0_2)) else (impl_QuoteAdd.j0 k a1 a2 τ a0_0 a0_1 a0_2))) else (some (0,1))))=some (r1,r2):=h
 clear h
 replace H:=Option.bind_eq_some_iff.mp H
 obtain ⟨t1061,A40,H⟩:=H
 replace H:(if t1061=τ then ((impl_isSome.f a1).bind fun t1062=>(if t1062=τ then ((impl_isSome.f a2).bind fun t1063=>(impl_QuoteAdd.j0 k a1 a2 (!t1063) a0_0 a0_1 a0_2)) else (impl_QuoteAdd.j0 k a1 a2 τ a0_0 a0_1 a0_2))) else (some (0,1)))=some (r1,r2):=H
 have A4:=ζa A40
 clear A40
 by_cases c5:t1061=τ
 ·
  subst c5
  have H1:((impl_isSome.f a1).bind fun t1062=>(if t1062=τ then ((impl_isSome.f a2).bind fun t1063=>(impl_QuoteAdd.j0 k a1 a2 (!t1063) a0_0 a0_1 a0_2)) else (impl_QuoteAdd.j0 k a1 a2 τ a0_0 a0_1 a0_2)))=some (r1,r2):=by rw [if_pos rfl] at H;exact H
  clear H
  have H:=H1
  clear H1
  have HC6:=ζa H
  clear H
  go_enter Tryz.func131,Tryz.ntmps131
  go_upto_region 3 with (first|((with_reducible refine δx (N:=3) rfl ?_);refine δz ?hg (N:=3) ?hd (cs:=#[.int .i64 a0_0,.int .i64 a0_1,.int .i64 a0_2]) (t:=109) ?hr ?_;(case hd=>rfl);(case hg=>rfl);(case hr=>(go_simp;done));intro gb1060 hg w7 hbox hb;have BK1060:=ζa (hbox);have GW1060:=ζa ((by rw [hg];exact (δs (by exact HB.out)):w.heap.size≤gb1060));have GE1060:=ζa ((by rw [hg];exact (δs (by exact HB.out)):w.heap.size≤gb1060));replace HB:=ζa (δr (by exact HB.out) hb);clear hb hbox hg;have hcz8_0:w7.cell? ⟨gb1060,0,none⟩=some (.int .i64 a0_0):=(δl BK1060.out 0).trans rfl;have hcz8_1:w7.cell? ⟨gb1060,1,none⟩=some (.int .i64 a0_1):=(δl BK1060.out 1).trans rfl;have hcz8_2:w7.cell? ⟨gb1060,2,none⟩=some (.int .i64 a0_2):=(δl BK1060.out 2).trans rfl;have hfz8_0:=δm BK1060.out 0;have hfz8_1:=δm BK1060.out 1;have hfz8_2:=δm BK1060.out 2)|((with_reducible refine δv (f:=176) rfl ?_);refine goesL_ (some 12) rfl rfl Tryz.func176 (by kernel_rfl) rfl #[.agg #[.int .i64 a0_0,.int .i64 a0_1,.int .i64 a0_2]] rfl (by (try simp only [δd,δe,δf]);rfl) ?_;(with_reducible refine (impl_PoolOK.calls a0_0 a0_1 a0_2 τ _ A4.out).mono ?_);rintro e w9 ⟨rfl,hb⟩;refine ⟨_,rfl,?_⟩;replace BK1060:=ζa (blk_below (g:=gb1060) (o:=.cells #[.int .i64 a0_0,.int .i64 a0_1,.int .i64 a0_2] 109 (0,0)) (by exact BK1060.out) hb);replace HB:=ζa (δr (by exact HB.out) hb);(try clear hb);(try clear hb2);(try clear hk);(try clear hi)))
  (try simp only [ζl,δa,δb,δc])
  go_cut [14] (fun v14 wc => ∃ (kq:Nat) (x14_5:Bool),v14 = .bool x14_5∧Aside0 (impl_QuoteAdd.j0 kq a1 a2 x14_5 a0_0 a0_1 a0_2=some (r1,r2))∧Aside0 (kq≤k)∧Aside0 (wc.heap[gb1060]? = some (.cells #[.int .i64 a0_0,.int .i64 a0_1,.int .i64 a0_2] 109 (0,0)))∧Aside0 (Below w.heap.size w wc))
  case first =>
   have H:=HC6.out
   clear HC6
   replace H:=Option.bind_eq_some_iff.mp H
   obtain ⟨t1062,A100,H⟩:=H
   replace H:(if t1062=τ then ((impl_isSome.f a2).bind fun t1063=>(impl_QuoteAdd.j0 k a1 a2 (!t1063) a0_0 a0_1 a0_2)) else (impl_QuoteAdd.j0 k a1 a2 τ a0_0 a0_1 a0_2))=some (r1,r2):=H
   have A10:=ζa A100
   clear A100
   by_cases c11:t1062=τ
   ·
    subst c11
    have H1:((impl_isSome.f a2).bind fun t1063=>(impl_QuoteAdd.j0 k a1 a2 (!t1063) a0_0 a0_1 a0_2))=some (r1,r2):=by rw [if_pos rfl] at H;exact H
    clear H
    have H:=H1
    clear H1
    replace H:=Option.bind_eq_some_iff.mp H
    obtain ⟨t1063,A120,H⟩:=H
    replace H:(impl_QuoteAdd.j0 k a1 a2 (!t1063) a0_0 a0_1 a0_2)=some (r1,r2):=H
    have A12:=ζa A120
    clear A120
    have H':=ζa H
    clear H
    go_wp2_with (first|((with_reducible refine δv (f:=122) rfl ?_);refine goesL_ (some 16) rfl rfl Tryz.func122 (by kernel_rfl) rfl #[.int .i64 a1] rfl (by (try simp only [δd,δe,δf]);rfl) ?_;(with_reducible refine (impl_isSome.calls a1 τ _ A10.out).mono ?_);rintro e w' ⟨rfl,⟨nd,rfl⟩⟩;refine ⟨_,rfl,?_⟩)|(go_at_call 122;(with_reducible refine (impl_isSome.calls a2 t1063 _ A12.out).mono ?_);rintro e w' ⟨rfl,⟨nd,rfl⟩⟩))
    go_meet
    case rel=>exact ⟨_,(!t1063),(by rfl),H',⟨by omega⟩,⟨by (with_reducible repeat (refine δn ?_ _));exact BK1060.out⟩,⟨by repeat ((with_reducible first|exact HB.out|apply δi))⟩⟩
   ·
    replace c11:=Bool.eq_false_iff.mpr c11
    subst c11
    have H1:(impl_QuoteAdd.j0 k a1 a2 τ a0_0 a0_1 a0_2)=some (r1,r2):=by rw [if_neg (show ¬ (φ=τ) by decide)] at H;exact H
    clear H
    have H:=H1
    clear H1
    have H':=ζa H
    clear H
    go_wp2_with (((with_reducible refine δv (f:=122) rfl ?_);refine goesL_ (some 16) rfl rfl Tryz.func122 (by kernel_rfl) rfl #[.int .i64 a1] rfl (by (try simp only [δd,δe,δf]);rfl) ?_;(with_reducible refine (impl_isSome.calls a1 φ _ A10.out).mono ?_);rintro e w' ⟨rfl,⟨nd,rfl⟩⟩;refine ⟨_,rfl,?_⟩))
    go_meet
    case rel=>exact ⟨_,(τ),(by rfl),H',⟨by omega⟩,⟨by (with_reducible repeat (refine δn ?_ _));exact BK1060.out⟩,⟨by repeat ((with_reducible first|exact HB.out|apply δi))⟩⟩
  case rest =>
   clear HC6
   try clear c1
   try clear p2
   try clear c5
   try clear c11
   try clear c12
   try clear hcz8_0
   try clear hcz8_1
   try clear hcz8_2
   try clear hfz8_0
   try clear hfz8_1
   try clear hfz8_2
   obtain ⟨kq,x14_5,rfl,HA,HJ5,BK1060,HB⟩:=hcut
   cases kq with
   | zero=>exact absurd HA.out (by simp [impl_QuoteAdd.j0])
   | succ kj5 =>
    have H:=HA.out
    clear HA
    simp only [impl_QuoteAdd.j0] at H
    by_cases c13:x14_5=τ
    ·
     subst c13
     have H1:(some (0,4))=some (r1,r2):=by rw [if_pos rfl] at H;exact H
     clear H
     have H:=H1
     clear H1
     simp only [Option.some.injEq,Prod.mk.injEq] at H
     obtain ⟨rfl,rfl⟩:=H
     go_wp2
     go_ret2
     exact ⟨by rfl,by repeat ((with_reducible exact HB.out))⟩
    ·
     replace c13:=Bool.eq_false_iff.mpr c13
     subst c13
     have H1:(if (ζm (a0_0+a1)) > 1000000000000000000 then (some (0,13)) else (if (ζm (a0_1+a2)) > 1000000000000000000 then (some (0,13)) else ((impl_Pool_shares.f kj5 a0_0 a0_1 a0_2 a1 a2).bind fun bt1064=>(if bt1064.2=0 then (if bt1064.1=0 then (some (0,17)) else (if (ζm (a0_2+bt1064.1)) > 1000000000000000000 then (some (0,13)) else (some (bt1064.1,0)))) else (some (0,13))))))=some (r1,r2):=by rw [if_neg (show ¬ (φ=τ) by decide)] at H;exact H
     clear H
     have H:=H1
     clear H1
     by_cases c14:(ζm (a0_0+a1)) > 1000000000000000000
     ·
      rw [if_pos c14] at H
      have c14b0:decide (1000000000000000000<(ζm (a0_0+a1)))=τ:=decide_eq_true c14
      clear c14
      simp only [Option.some.injEq,Prod.mk.injEq] at H
      obtain ⟨rfl,rfl⟩:=H
      have hcz15_0:wc.cell? ⟨gb1060,0,none⟩=some (.int .i64 a0_0):=(δl BK1060.out 0).trans rfl
      have hcz15_1:wc.cell? ⟨gb1060,1,none⟩=some (.int .i64 a0_1):=(δl BK1060.out 1).trans rfl
      have hcz15_2:wc.cell? ⟨gb1060,2,none⟩=some (.int .i64 a0_2):=(δl BK1060.out 2).trans rfl
      have hfz15_0:=δm BK1060.out 0
      have hfz15_1:=δm BK1060.out 1
      have hfz15_2:=δm BK1060.out 2
      go_wp2
      go_ret2
      exact ⟨by rfl,by repeat ((with_reducible exact HB.out))⟩
     ·
      rw [if_neg c14] at H
      have c14b0:decide (1000000000000000000<(ζm (a0_0+a1)))=φ:=decide_eq_false c14
      clear c14
      by_cases c16:(ζm (a0_1+a2)) > 1000000000000000000
      ·
       rw [if_pos c16] at H
       have c16b0:decide (1000000000000000000<(ζm (a0_1+a2)))=τ:=decide_eq_true c16
       clear c16
       simp only [Option.some.injEq,Prod.mk.injEq] at H
       obtain ⟨rfl,rfl⟩:=H
       have hcz17_0:wc.cell? ⟨gb1060,0,none⟩=some (.int .i64 a0_0):=(δl BK1060.out 0).trans rfl
       have hcz17_1:wc.cell? ⟨gb1060,1,none⟩=some (.int .i64 a0_1):=(δl BK1060.out 1).trans rfl
       have hcz17_2:wc.cell? ⟨gb1060,2,none⟩=some (.int .i64 a0_2):=(δl BK1060.out 2).trans rfl
       have hfz17_0:=δm BK1060.out 0
       have hfz17_1:=δm BK1060.out 1
       have hfz17_2:=δm BK1060.out 2
       go_wp2
       go_ret2
       exact ⟨by rfl,by repeat ((with_reducible exact HB.out))⟩
      ·
       rw [if_neg c16] at H
       have c16b0:decide (1000000000000000000<(ζm (a0_1+a2)))=φ:=decide_eq_false c16
       clear c16
       replace H:=Option.bind_eq_some_iff.mp H
       obtain ⟨⟨t1064,t1065⟩,A180,H⟩:=H
       replace H:(if t1065=0 then (if t1064=0 then (some (0,17)) else (if (ζm (a0_2+t1064)) > 1000000000000000000 then (some (0,13)) else (some (t1064,0)))) else (some (0,13)))=some (r1,r2):=H
       have A18:=ζa A180
       clear A180
       by_cases c19:t1065=0
       ·
        rw [if_pos c19] at H
        have c19b0:(t1065 == 0)=τ:=beq_iff_eq.mpr c19
        have c19b1:(t1065 != 0)=φ:=bne_eq_false_iff_eq.mpr c19
        clear c19
        by_cases c20:t1064=0
        ·
         rw [if_pos c20] at H
         have c20b0:(t1064 == 0)=τ:=beq_iff_eq.mpr c20
         have c20b1:(t1064 != 0)=φ:=bne_eq_false_iff_eq.mpr c20
         clear c20
         simp only [Option.some.injEq,Prod.mk.injEq] at H
         obtain ⟨rfl,rfl⟩:=H
         have hcz21_0:wc.cell? ⟨gb1060,0,none⟩=some (.int .i64 a0_0):=(δl BK1060.out 0).trans rfl
         have hcz21_1:wc.cell? ⟨gb1060,1,none⟩=some (.int .i64 a0_1):=(δl BK1060.out 1).trans rfl
         have hcz21_2:wc.cell? ⟨gb1060,2,none⟩=some (.int .i64 a0_2):=(δl BK1060.out 2).trans rfl
         have hfz21_0:=δm BK1060.out 0
         have hfz21_1:=δm BK1060.out 1
         have hfz21_2:=δm BK1060.out 2
         go_wp2_with (((with_reducible refine δv (f:=180) rfl ?_);refine goesL_ (some 40) rfl rfl Tryz.func180 (by kernel_rfl) rfl #[.agg #[.int .i64 a0_0,.int .i64 a0_1,.int .i64 a0_2],.int .i64 a1,.int .i64 a2] rfl (by (try simp only [δd,δe,δf]);rfl) ?_;(with_reducible refine (impl_Pool_shares.calls kj5 a0_0 a0_1 a0_2 a1 a2 t1064 t1065 _ A18.out).mono ?_);rintro e w22 ⟨rfl,hb⟩;refine ⟨_,rfl,?_⟩;replace BK1060:=ζa (blk_below (g:=gb1060) (o:=.cells #[.int .i64 a0_0,.int .i64 a0_1,.int .i64 a0_2] 109 (0,0)) (by exact BK1060.out) hb);replace HB:=ζa (δr (by exact HB.out) hb);(try clear hb);(try clear hb2);(try clear hk);(try clear hi)))
         go_ret2
         exact ⟨by rfl,by repeat ((with_reducible exact HB.out))⟩
        ·
         rw [if_neg c20] at H
         have c20b0:(t1064 == 0)=φ:=beq_eq_false_iff_ne.mpr c20
         have c20b1:(t1064 != 0)=τ:=bne_iff_ne.mpr c20
         by_cases c23:(ζm (a0_2+t1064)) > 1000000000000000000
         ·
          rw [if_pos c23] at H
          have c23b0:decide (1000000000000000000<(ζm (a0_2+t1064)))=τ:=decide_eq_true c23
          clear c23
          simp only [Option.some.injEq,Prod.mk.injEq] at H
          obtain ⟨rfl,rfl⟩:=H
          have hcz24_0:wc.cell? ⟨gb1060,0,none⟩=some (.int .i64 a0_0):=(δl BK1060.out 0).trans rfl
          have hcz24_1:wc.cell? ⟨gb1060,1,none⟩=some (.int .i64 a0_1):=(δl BK1060.out 1).trans rfl
          have hcz24_2:wc.cell? ⟨gb1060,2,none⟩=some (.int .i64 a0_2):=(δl BK1060.out 2).trans rfl
          have hfz24_0:=δm BK1060.out 0
          have hfz24_1:=δm BK1060.out 1
          have hfz24_2:=δm BK1060.out 2
          go_wp2_with (((with_reducible refine δv (f:=180) rfl ?_);refine goesL_ (some 40) rfl rfl Tryz.func180 (by kernel_rfl) rfl #[.agg #[.int .i64 a0_0,.int .i64 a0_1,.int .i64 a0_2],.int .i64 a1,.int .i64 a2] rfl (by (try simp only [δd,δe,δf]);rfl) ?_;(with_reducible refine (impl_Pool_shares.calls kj5 a0_0 a0_1 a0_2 a1 a2 t1064 t1065 _ A18.out).mono ?_);rintro e w25 ⟨rfl,hb⟩;refine ⟨_,rfl,?_⟩;replace BK1060:=ζa (blk_below (g:=gb1060) (o:=.cells #[.int .i64 a0_0,.int .i64 a0_1,.int .i64 a0_2] 109 (0,0)) (by exact BK1060.out) hb);replace HB:=ζa (δr (by exact HB.out) hb);(try clear hb);(try clear hb2);(try clear hk);(try clear hi);have hcz26_0:w25.cell? ⟨gb1060,0,none⟩=some (.int .i64 a0_0):=(δl BK1060.out 0).trans rfl;have hcz26_1:w25.cell? ⟨gb1060,1,none⟩=some (.int .i64 a0_1):=(δl BK1060.out 1).trans rfl;have hcz26_2:w25.cell? ⟨gb1060,2,none⟩=some (.int .i64 a0_2):=(δl BK1060.out 2).trans rfl;have hfz26_0:=δm BK1060.out 0;have hfz26_1:=δm BK1060.out 1;have hfz26_2:=δm BK1060.out 2))
          go_ret2
          exact ⟨by rfl,by repeat ((with_reducible exact HB.out))⟩
         ·
          rw [if_neg c23] at H
          have c23b0:decide (1000000000000000000<(ζm (a0_2+t1064)))=φ:=decide_eq_false c23
          clear c23
          simp only [Option.some.injEq,Prod.mk.injEq] at H
          obtain ⟨rfl,rfl⟩:=H
          have hcz27_0:wc.cell? ⟨gb1060,0,none⟩=some (.int .i64 a0_0):=(δl BK1060.out 0).trans rfl
          have hcz27_1:wc.cell? ⟨gb1060,1,none⟩=some (.int .i64 a0_1):=(δl BK1060.out 1).trans rfl
          have hcz27_2:wc.cell? ⟨gb1060,2,none⟩=some (.int .i64 a0_2):=(δl BK1060.out 2).trans rfl
          have hfz27_0:=δm BK1060.out 0
          have hfz27_1:=δm BK1060.out 1
          have hfz27_2:=δm BK1060.out 2
          go_wp2_with (((with_reducible refine δv (f:=180) rfl ?_);refine goesL_ (some 40) rfl rfl Tryz.func180 (by kernel_rfl) rfl #[.agg #[.int .i64 a0_0,.int .i64 a0_1,.int .i64 a0_2],.int .i64 a1,.int .i64 a2] rfl (by (try simp only [δd,δe,δf]);rfl) ?_;(with_reducible refine (impl_Pool_shares.calls kj5 a0_0 a0_1 a0_2 a1 a2 t1064 t1065 _ A18.out).mono ?_);rintro e w28 ⟨rfl,hb⟩;refine ⟨_,rfl,?_⟩;replace BK1060:=ζa (blk_below (g:=gb1060) (o:=.cells #[.int .i64 a0_0,.int .i64 a0_1,.int .i64 a0_2] 109 (0,0)) (by exact BK1060.out) hb);replace HB:=ζa (δr (by exact HB.out) hb);(try clear hb);(try clear hb2);(try clear hk);(try clear hi);have hcz29_0:w28.cell? ⟨gb1060,0,none⟩=some (.int .i64 a0_0):=(δl BK1060.out 0).trans rfl;have hcz29_1:w28.cell? ⟨gb1060,1,none⟩=some (.int .i64 a0_1):=(δl BK1060.out 1).trans rfl;have hcz29_2:w28.cell? ⟨gb1060,2,none⟩=some (.int .i64 a0_2):=(δl BK1060.out 2).trans rfl;have hfz29_0:=δm BK1060.out 0;have hfz29_1:=δm BK1060.out 1;have hfz29_2:=δm BK1060.out 2))
          go_ret2
          exact ⟨by rfl,by repeat ((with_reducible exact HB.out))⟩
       ·
        rw [if_neg c19] at H
        have c19b0:(t1065 == 0)=φ:=beq_eq_false_iff_ne.mpr c19
        have c19b1:(t1065 != 0)=τ:=bne_iff_ne.mpr c19
        simp only [Option.some.injEq,Prod.mk.injEq] at H
        obtain ⟨rfl,rfl⟩:=H
        have hcz30_0:wc.cell? ⟨gb1060,0,none⟩=some (.int .i64 a0_0):=(δl BK1060.out 0).trans rfl
        have hcz30_1:wc.cell? ⟨gb1060,1,none⟩=some (.int .i64 a0_1):=(δl BK1060.out 1).trans rfl
        have hcz30_2:wc.cell? ⟨gb1060,2,none⟩=some (.int .i64 a0_2):=(δl BK1060.out 2).trans rfl
        have hfz30_0:=δm BK1060.out 0
        have hfz30_1:=δm BK1060.out 1
        have hfz30_2:=δm BK1060.out 2
        go_wp2_with (((with_reducible refine δv (f:=180) rfl ?_);refine goesL_ (some 40) rfl rfl Tryz.func180 (by kernel_rfl) rfl #[.agg #[.int .i64 a0_0,.int .i64 a0_1,.int .i64 a0_2],.int .i64 a1,.int .i64 a2] rfl (by (try simp only [δd,δe,δf]);rfl) ?_;(with_reducible refine (impl_Pool_shares.calls kj5 a0_0 a0_1 a0_2 a1 a2 t1064 t1065 _ A18.out).mono ?_);rintro e w31 ⟨rfl,hb⟩;refine ⟨_,rfl,?_⟩;replace BK1060:=ζa (blk_below (g:=gb1060) (o:=.cells #[.int .i64 a0_0,.int .i64 a0_1,.int .i64 a0_2] 109 (0,0)) (by exact BK1060.out) hb);replace HB:=ζa (δr (by exact HB.out) hb);(try clear hb);(try clear hb2);(try clear hk);(try clear hi)))
        go_ret2
        exact ⟨by rfl,by repeat ((with_reducible exact HB.out))⟩
 ·
  replace c5:=Bool.eq_false_iff.mpr c5
  subst c5
  have H1:(some (0,1))=some (r1,r2):=by rw [if_neg (show ¬ (φ=τ) by decide)] at H;exact H
  clear H
  have H:=H1
  clear H1
  simp only [Option.some.injEq,Prod.mk.injEq] at H
  obtain ⟨rfl,rfl⟩:=H
  go_enter Tryz.func131,Tryz.ntmps131
  go_wp2_with (first|((with_reducible refine δx (N:=3) rfl ?_);refine δz ?hg (N:=3) ?hd (cs:=#[.int .i64 a0_0,.int .i64 a0_1,.int .i64 a0_2]) (t:=109) ?hr ?_;(case hd=>rfl);(case hg=>rfl);(case hr=>(go_simp;done));intro gb1060 hg w32 hbox hb;have BK1060:=ζa (hbox);have GW1060:=ζa ((by rw [hg];exact (δs (by exact HB.out)):w.heap.size≤gb1060));have GE1060:=ζa ((by rw [hg];exact (δs (by exact HB.out)):w.heap.size≤gb1060));replace HB:=ζa (δr (by exact HB.out) hb);clear hb hbox hg;have hcz33_0:w32.cell? ⟨gb1060,0,none⟩=some (.int .i64 a0_0):=(δl BK1060.out 0).trans rfl;have hcz33_1:w32.cell? ⟨gb1060,1,none⟩=some (.int .i64 a0_1):=(δl BK1060.out 1).trans rfl;have hcz33_2:w32.cell? ⟨gb1060,2,none⟩=some (.int .i64 a0_2):=(δl BK1060.out 2).trans rfl;have hfz33_0:=δm BK1060.out 0;have hfz33_1:=δm BK1060.out 1;have hfz33_2:=δm BK1060.out 2)|((with_reducible refine δv (f:=176) rfl ?_);refine goesL_ (some 12) rfl rfl Tryz.func176 (by kernel_rfl) rfl #[.agg #[.int .i64 a0_0,.int .i64 a0_1,.int .i64 a0_2]] rfl (by (try simp only [δd,δe,δf]);rfl) ?_;(with_reducible refine (impl_PoolOK.calls a0_0 a0_1 a0_2 φ _ A4.out).mono ?_);rintro e w34 ⟨rfl,hb⟩;refine ⟨_,rfl,?_⟩;replace BK1060:=ζa (blk_below (g:=gb1060) (o:=.cells #[.int .i64 a0_0,.int .i64 a0_1,.int .i64 a0_2] 109 (0,0)) (by exact BK1060.out) hb);replace HB:=ζa (δr (by exact HB.out) hb);(try clear hb);(try clear hb2);(try clear hk);(try clear hi)))
  go_ret2
  exact ⟨by rfl,by repeat ((with_reducible exact HB.out))⟩


open Go.Proofs.YtabmfhnhmoiljaaGreatDoorW.PrintWords renaming below_step → δr, below_alloc → δk, gate_dst → δx, box_event → δz, blk_cell → δl, blk_frozen → δm, below_set → δq, blk_put → δw, below_drew1 → δj, pw_below_drewN → δi, blk_alloc → δo, blk_drew → δp, blk_drewN → δn
open Go.Proofs.YtabmfhnhmoiljaaGreatDoorW.PrintWords.Kd renaming R_alloc → ζd, R_drew → ζe, R_drewN → ζc

/-! ### impl_addPool: function 73 -/
theorem impl_addPool.rowS {w:World} {g:Nat} {t:TypeId} (xs:List ByteArray) (hm:xs.length≤1000) (h:w.heap[g]? = some (.cells (xs.map Value.string).toArray t (0,0))):Kd.string.C w (some ⟨g,0,none⟩) xs.length xs:=by
 refine ⟨rfl,by omega,fun _=>⟨_,rfl,fun j p hp=>⟨[Value.string p],rfl,rfl,fun t u hu => ?_⟩⟩⟩
 obtain ⟨rfl,rfl⟩:t=0∧u=Value.string p:=by
  rcases t with _|t
  · simpa using hu.symm
  ·
   simp at hu
 rw [Addr.add_lit,cell_of_row w g _ _ _ (0,0) h]
 have:Kd.string.sz=1:=rfl
 simp [this,hp]
def impl_addPool.f (k:Nat) (name:ByteArray) (list:List S51) (who:ByteArray) (da:Int) (db:Int) (least:Int):Option (List S51 × Int) :=
 (impl_isPeople.f k ([who])).bind fun q1=>if q1=τ then ((impl_isSome.f da).bind fun q2=>if q2=τ then ((impl_isSome.f db).bind fun q3=>if q3=τ then ((impl_isAmount.f least).bind fun q4=>if q4=τ then ((impl_poolAt.f k list).bind fun q5=>(impl_QuoteAdd.f k q5.1 q5.2.1 q5.2.2 da db).bind fun q6=>if q6.2=0 then (if q6.1<least then ((slices_Clone_impl_Pair_impl_Pair.f list).bind fun q7=>some (q7,19)) else ((impl_otherName.f name).bind fun q8=>(impl_voucherOf.f q8).bind fun q9=>(impl_all.f k list [(impl_move.F k who (⟨#[112,111,111,108]⟩:ByteArray) name da),(impl_move.F k who (⟨#[112,111,111,108]⟩:ByteArray) q9 db),(impl_mint.F k who (⟨#[115,104,97,114,101,115]⟩:ByteArray) q6.1),(impl_putPool.F k (IntKind.i64.wrap (q5.1+da)) (IntKind.i64.wrap (q5.2.1+db)) (IntKind.i64.wrap (q5.2.2+q6.1)))]).bind fun q10=>some (q10.1,q10.2))) else ((slices_Clone_impl_Pair_impl_Pair.f list).bind fun q11=>some (q11,q6.2))) else ((slices_Clone_impl_Pair_impl_Pair.f list).bind fun q12=>some (q12,4))) else ((slices_Clone_impl_Pair_impl_Pair.f list).bind fun q13=>some (q13,4))) else ((slices_Clone_impl_Pair_impl_Pair.f list).bind fun q14=>some (q14,4))) else ((slices_Clone_impl_Pair_impl_Pair.f list).bind fun q15=>some (q15,4))
set_option maxHeartbeats 4000000 in
set_option maxRecDepth 100000 in
theorem impl_addPool.calls (k:Nat) (name:ByteArray) (A_list:Option Addr) (c_list:Nat) (list:List S51) (who:ByteArray) (da:Int) (db:Int) (least:Int) (r1:List S51) (r2:Int) (w:World) (hr0_list:Kd.C k51 w A_list list.length list) (hc0_list:list.length≤c_list) (hT0:TabsOK w) (h:impl_addPool.f k name list who da db least=some (r1,r2)) :
  Calls Tryz.prog 73 #[.string name,.slice A_list list.length c_list,.string who,.int .i64 da,.int .i64 db,.int .i64 least] w fun e w' => ∃ v0_:Value,e = .returned (.tuple #[v0_,.int .i64 r2])∧Kd.R k51 51 w' w.heap.size (fun _=>True) v0_ r1∧Below w.heap.size w w':=by
 have HR0_list:=ζa hr0_list
 have HC0_list:=ζa hc0_list
 clear hr0_list hc0_list
 have HT0:=ζa hT0
 clear hT0
 have HB0:=ζa (Below.refl w.heap.size w)
 unfold impl_addPool.f at h
 have HH:=ζa h
 clear h
 go_enter Tryz.func73,Tryz.ntmps73
 have h:=HH.out
 clear HH
 obtain ⟨b1,h1_,h⟩:=Option.bind_eq_some_iff.mp h
 have HH:=ζa h
 have H1:=ζa h1_
 clear h h1_
 go_wp2_with fail
 refine (impl_isPeople.calls k _ 1 ([who]) b1 _ (by exact impl_addPool.rowS [who] (by simp) (heap_alloc_new _ _)) (Nat.le_refl _) H1.out).mono ?_
 rintro e w1 ⟨rfl,hd⟩
 have hb:=hd.below
 clear hd
 have m_:=ζa (δr (by repeat (first|exact HB0.out|apply δk)) hb)
 clear hb
 have HB1:=m_
 clear m_
 have h:=HH.out
 clear HH
 cases b1 with
 | true =>
  rw [if_pos rfl] at h
  have HH:=ζa h
  clear h
  have h:=HH.out
  clear HH
  obtain ⟨b2,h3_,h⟩:=Option.bind_eq_some_iff.mp h
  have HH:=ζa h
  have H3:=ζa h3_
  clear h h3_
  go_wp2_with fail
  refine (impl_isSome.calls da b2 _ H3.out).mono ?_
  rintro e w3 ⟨rfl,hd⟩
  have hb:=hd.below
  clear hd
  have m_:=ζa (δr (by repeat (exact HB1.out)) hb)
  clear hb
  have HB3:=m_
  clear m_
  have h:=HH.out
  clear HH
  cases b2 with
  | true =>
   rw [if_pos rfl] at h
   have HH:=ζa h
   clear h
   have h:=HH.out
   clear HH
   obtain ⟨b3,h5_,h⟩:=Option.bind_eq_some_iff.mp h
   have HH:=ζa h
   have H5:=ζa h5_
   clear h h5_
   go_wp2_with fail
   refine (impl_isSome.calls db b3 _ H5.out).mono ?_
   rintro e w5 ⟨rfl,hd⟩
   have hb:=hd.below
   clear hd
   have m_:=ζa (δr (by repeat (exact HB3.out)) hb)
   clear hb
   have HB5:=m_
   clear m_
   have h:=HH.out
   clear HH
   cases b3 with
   | true =>
    rw [if_pos rfl] at h
    have HH:=ζa h
    clear h
    have h:=HH.out
    clear HH
    obtain ⟨b4,h7_,h⟩:=Option.bind_eq_some_iff.mp h
    have HH:=ζa h
    have H7:=ζa h7_
    clear h h7_
    go_wp2_with fail
    refine (impl_isAmount.calls least b4 _ H7.out).mono ?_
    rintro e w7 ⟨rfl,hd⟩
    have hb:=hd.below
    clear hd
    have m_:=ζa (δr (by repeat (exact HB5.out)) hb)
    clear hb
    have HB7:=m_
    clear m_
    have h:=HH.out
    clear HH
    cases b4 with
    | true =>
     rw [if_pos rfl] at h
     have HH:=ζa h
     clear h
     have h:=HH.out
     clear HH
     obtain ⟨⟨u0,u1,u2⟩,h9_,h⟩:=Option.bind_eq_some_iff.mp h
     have HH:=ζa h
     have H9:=ζa h9_
     clear h h9_
     go_wp2_with fail
     refine (impl_poolAt.calls k A_list c_list list u0 u1 u2 _ (by repeat (exact Kd.C_below HR0_list.out HB7.out)) HC0_list.out (HT0.out.below (by repeat (exact HB7.out))) H9.out).mono ?_
     rintro e w9 ⟨rfl,hb⟩
     have m_:=ζa (δr (by repeat (exact HB7.out)) hb)
     clear hb
     have HB9:=m_
     clear m_
     have h:=HH.out
     clear HH
     obtain ⟨⟨n1,c0⟩,h12_,h⟩:=Option.bind_eq_some_iff.mp h
     have HH:=ζa h
     have H12:=ζa h12_
     clear h h12_
     go_wp2_with (first|((with_reducible refine δx (N:=14) rfl ?_);refine δz ?hg (N:=14) ?hd (cs:=#[.int .i64 0,.int .i64 0,.int .i64 0]) (t:=109) ?hr ?_;(case hd=>rfl);(case hg=>rfl);(case hr=>(go_simp;done));intro gbp hg w10 hbox hb;have hbc:=δr (show Below w9.heap.size w9 _ from by repeat (exact Below.refl _ _)) hb;have GEp:Aside0 (w9.heap.size≤gbp):=⟨by rw [hg];exact Below.size (show Below w9.heap.size w9 _ from by repeat (exact Below.refl _ _))⟩;have GWp:Aside0 (w.heap.size≤gbp):=⟨Nat.le_trans HB9.out.size GEp.out⟩;have BKZ:=ζa hbox;have HBZ:=ζa hbc;have hzz:=hbox;clear hb hbc hbox hg;have hzp_0:=(δl BKZ.out 0).trans rfl;have hzp_1:=(δl BKZ.out 1).trans rfl;have hzp_2:=(δl BKZ.out 2).trans rfl;have hfp_0:=δm BKZ.out 0;have hfp_1:=δm BKZ.out 1;have hfp_2:=δm BKZ.out 2;clear hzz)|((with_reducible refine gate_store (t:=109) (p:=14) rfl ?_);refine store_event (t:=109) (p:=14) (v:=?vo10) (w1:=(((w10.setCell ⟨gbp,0,none⟩ (.int .i64 u0)).setCell ⟨gbp,1,none⟩ (.int .i64 u1)).setCell ⟨gbp,2,none⟩ (.int .i64 u2))) ?hg ?ho ?hn ?hr ?_;(case ho=>rfl);(case hg=>rfl);(case hn=>rfl);(case hr=>(go_simp;done));intro w11 hw;have hbc:Below w9.heap.size w9 w11:=(by rw [hw];exact (δq (δq (δq HBZ.out GEp.out) GEp.out) GEp.out));have BKp:Aside0 (w11.heap[gbp]? = some (.cells #[.int .i64 u0,.int .i64 u1,.int .i64 u2] 109 (0,0))):=⟨by rw [hw];exact (δw (δw (δw BKZ.out 0 _ rfl) 1 _ rfl) 2 _ rfl)⟩;have HB10:=ζa (δr HB9.out hbc);clear hbc hw BKZ HBZ;clear hzp_0 hfp_0 hzp_1 hfp_1 hzp_2 hfp_2;have hzp_0:=(δl BKp.out 0).trans rfl;have hzp_1:=(δl BKp.out 1).trans rfl;have hzp_2:=(δl BKp.out 2).trans rfl;have hfp_0:=δm BKp.out 0;have hfp_1:=δm BKp.out 1;have hfp_2:=δm BKp.out 2))
     refine (impl_QuoteAdd.calls k u0 u1 u2 da db n1 c0 _ H12.out).mono ?_
     rintro e w12 ⟨rfl,hb⟩
     replace BKp:=ζa (blk_below (by repeat (exact BKp.out)) hb)
     clear hzp_0 hfp_0 hzp_1 hfp_1 hzp_2 hfp_2
     have m_:=ζa (δr (by repeat (exact HB10.out)) hb)
     clear hb
     have HB12:=m_
     clear m_
     have hzp_0:=(δl BKp.out 0).trans rfl
     have hfp_0:=δm BKp.out 0
     have hzp_1:=(δl BKp.out 1).trans rfl
     have hfp_1:=δm BKp.out 1
     have hzp_2:=(δl BKp.out 2).trans rfl
     have hfp_2:=δm BKp.out 2
     have h:=HH.out
     clear HH
     by_cases cc13:c0=0
     ·
      rw [if_pos cc13] at h
      have HH:=ζa h
      clear h
      have f13a:(c0 == 0)=τ:=beq_iff_eq.mpr cc13
      have f13b:(c0 != 0)=φ:=bne_eq_false_iff_eq.mpr cc13
      have C13:=ζa cc13
      clear cc13
      have h:=HH.out
      clear HH
      by_cases cc14:n1<least
      ·
       rw [if_pos cc14] at h
       have HH:=ζa h
       clear h
       have f14a:decide (n1<least)=τ:=decide_eq_true cc14
       have C14:=ζa cc14
       clear cc14
       have h:=HH.out
       clear HH
       obtain ⟨o2,h15_,h⟩:=Option.bind_eq_some_iff.mp h
       have HH:=ζa h
       have H15:=ζa h15_
       clear h h15_
       go_wp2_with fail
       refine (slices_Clone_impl_Pair_impl_Pair.calls A_list c_list list o2 _ (by repeat (exact Kd.C_below HR0_list.out HB12.out)) HC0_list.out H15.out).mono ?_
       rintro e w15 ⟨v15,rfl,ho,hb⟩
       replace BKp:=ζa (blk_below (by repeat (exact BKp.out)) hb)
       clear hzp_0 hfp_0 hzp_1 hfp_1 hzp_2 hfp_2
       have ho':=Kd.R_lower ho (Below.size (show Below w.heap.size w _ from by repeat (exact HB12.out)))
       obtain ⟨adr15,cap15,rfl,hl15,hq15⟩:=Kd.R_reads ho'
       have HC15:=ζa hl15
       have HRn15:=ζa hq15
       have HOn15:=ζa ho'
       clear hl15 hq15 ho ho'
       have m_:=ζa (δr (by repeat (exact HB12.out)) hb)
       clear hb
       have HB15:=m_
       clear m_
       have hzp_0:=(δl BKp.out 0).trans rfl
       have hfp_0:=δm BKp.out 0
       have hzp_1:=(δl BKp.out 1).trans rfl
       have hfp_1:=δm BKp.out 1
       have hzp_2:=(δl BKp.out 2).trans rfl
       have hfp_2:=δm BKp.out 2
       have h:=HH.out
       clear HH
       simp only [Option.some.injEq,Prod.mk.injEq] at h
       obtain ⟨rfl,rfl⟩:=h
       go_wp2
       go_ret2
       exact ⟨_,rfl,(by repeat (exact HOn15.out)),(by repeat (exact HB15.out))⟩
      ·
       rw [if_neg cc14] at h
       have HH:=ζa h
       clear h
       have f14a:decide (n1<least)=φ:=decide_eq_false cc14
       have C14:=ζa cc14
       clear cc14
       have h:=HH.out
       clear HH
       obtain ⟨x1,h16_,h⟩:=Option.bind_eq_some_iff.mp h
       have HH:=ζa h
       have H16:=ζa h16_
       clear h h16_
       go_wp2_with fail
       refine (impl_otherName.calls name x1 _ H16.out).mono ?_
       rintro e w16 ⟨rfl,hd⟩
       have hb:=hd.below
       clear hd
       replace BKp:=ζa (blk_below (by repeat (exact BKp.out)) hb)
       clear hzp_0 hfp_0 hzp_1 hfp_1 hzp_2 hfp_2
       have m_:=ζa (δr (by repeat (exact HB12.out)) hb)
       clear hb
       have HB16:=m_
       clear m_
       have hzp_0:=(δl BKp.out 0).trans rfl
       have hfp_0:=δm BKp.out 0
       have hzp_1:=(δl BKp.out 1).trans rfl
       have hfp_1:=δm BKp.out 1
       have hzp_2:=(δl BKp.out 2).trans rfl
       have hfp_2:=δm BKp.out 2
       have h:=HH.out
       clear HH
       obtain ⟨v1,h17_,h⟩:=Option.bind_eq_some_iff.mp h
       have HH:=ζa h
       have H17:=ζa h17_
       clear h h17_
       go_wp2_with fail
       refine (impl_voucherOf.calls x1 v1 _ H17.out).mono ?_
       rintro e w17 ⟨rfl,hd⟩
       have hb:=hd.below
       clear hd
       replace BKp:=ζa (blk_below (by repeat (exact BKp.out)) hb)
       clear hzp_0 hfp_0 hzp_1 hfp_1 hzp_2 hfp_2
       have m_:=ζa (δr (by repeat (exact HB16.out)) hb)
       clear hb
       have HB17:=m_
       clear m_
       have hzp_0:=(δl BKp.out 0).trans rfl
       have hfp_0:=δm BKp.out 0
       have hzp_1:=(δl BKp.out 1).trans rfl
       have hfp_1:=δm BKp.out 1
       have hzp_2:=(δl BKp.out 2).trans rfl
       have hfp_2:=δm BKp.out 2
       have h:=HH.out
       clear HH
       obtain ⟨⟨o1,c1⟩,h18_,h⟩:=Option.bind_eq_some_iff.mp h
       have HH:=ζa h
       have H18:=ζa h18_
       clear h h18_
       go_wp2_with fail
       have HBr:=ζa HB17.out
       go_region_held3 (fun w'=>w'.cell? ⟨gbp,0,none⟩=some (.int .i64 u0)∧w'.cell? ⟨gbp,1,none⟩=some (.int .i64 u1)∧w'.cell? ⟨gbp,2,none⟩=some (.int .i64 u2)) (first|go_keep|exact ⟨(δl (by repeat (exact BKp.out)) 0).trans rfl,(δl (by repeat (exact BKp.out)) 1).trans rfl,(δl (by repeat (exact BKp.out)) 2).trans rfl⟩)
        (first
         | (go_at_call 84;(with_reducible refine (impl_move.calls k who ((⟨#[112,111,111,108]⟩:ByteArray)) name da _ (HT0.out.below (by repeat (first|exact HBr.out|apply δk|apply δj|apply δi)))).mono ?_);rintro e w19 ⟨g_m,lb_m,rfl,hch,hb⟩;replace BKp:=ζa (blk_below (by repeat (first|exact BKp.out|apply δo|apply δp|apply δn)) hb);(try (replace CH_m:=ζa (CH_m.out.below (δr (by repeat (first|exact Below.refl _ _|apply δk|apply δj|apply δi)) hb))));(try (replace CH_q:=ζa (CH_q.out.below (δr (by repeat (first|exact Below.refl _ _|apply δk|apply δj|apply δi)) hb))));(try (replace CH_b:=ζa (CH_b.out.below (δr (by repeat (first|exact Below.refl _ _|apply δk|apply δj|apply δi)) hb))));(try (replace CH_p:=ζa (CH_p.out.below (δr (by repeat (first|exact Below.refl _ _|apply δk|apply δj|apply δi)) hb))));replace HBr:=ζa (δr (by repeat (first|exact HBr.out|apply δk|apply δj|apply δi)) hb);have CH_m:=ζa hch;have eg_m : ∀ args w,(callFunc g_m args).run Tryz.prog w = .ok (.enter g_m args) w:=hch.enters;clear hch hb)
         | (go_at_call 84;(with_reducible refine (impl_move.calls k who ((⟨#[112,111,111,108]⟩:ByteArray)) v1 db _ (HT0.out.below (by repeat (first|exact HBr.out|apply δk|apply δj|apply δi)))).mono ?_);rintro e w20 ⟨g_q,lb_q,rfl,hch,hb⟩;replace BKp:=ζa (blk_below (by repeat (first|exact BKp.out|apply δo|apply δp|apply δn)) hb);(try (replace CH_m:=ζa (CH_m.out.below (δr (by repeat (first|exact Below.refl _ _|apply δk|apply δj|apply δi)) hb))));(try (replace CH_q:=ζa (CH_q.out.below (δr (by repeat (first|exact Below.refl _ _|apply δk|apply δj|apply δi)) hb))));(try (replace CH_b:=ζa (CH_b.out.below (δr (by repeat (first|exact Below.refl _ _|apply δk|apply δj|apply δi)) hb))));(try (replace CH_p:=ζa (CH_p.out.below (δr (by repeat (first|exact Below.refl _ _|apply δk|apply δj|apply δi)) hb))));replace HBr:=ζa (δr (by repeat (first|exact HBr.out|apply δk|apply δj|apply δi)) hb);have CH_q:=ζa hch;have eg_q : ∀ args w,(callFunc g_q args).run Tryz.prog w = .ok (.enter g_q args) w:=hch.enters;clear hch hb)
         | (go_at_call 100;refine (impl_mint.calls k who ((⟨#[115,104,97,114,101,115]⟩:ByteArray)) n1 _ (HT0.out.below (by repeat (first|exact HBr.out|apply δk|apply δj|apply δi)))).mono ?_;rintro e w21 ⟨g_b,lb_b,rfl,hch,hb⟩;replace BKp:=ζa (blk_below (by repeat (first|exact BKp.out|apply δo|apply δp|apply δn)) hb);(try (replace CH_m:=ζa (CH_m.out.below (δr (by repeat (first|exact Below.refl _ _|apply δk|apply δj|apply δi)) hb))));(try (replace CH_q:=ζa (CH_q.out.below (δr (by repeat (first|exact Below.refl _ _|apply δk|apply δj|apply δi)) hb))));(try (replace CH_b:=ζa (CH_b.out.below (δr (by repeat (first|exact Below.refl _ _|apply δk|apply δj|apply δi)) hb))));(try (replace CH_p:=ζa (CH_p.out.below (δr (by repeat (first|exact Below.refl _ _|apply δk|apply δj|apply δi)) hb))));replace HBr:=ζa (δr (by repeat (first|exact HBr.out|apply δk|apply δj|apply δi)) hb);have CH_b:=ζa hch;have eg_b : ∀ args w,(callFunc g_b args).run Tryz.prog w = .ok (.enter g_b args) w:=hch.enters;clear hch hb)
         | (go_at_call 125;refine (impl_putPool.calls k (IntKind.i64.wrap (u0+da)) (IntKind.i64.wrap (u1+db)) (IntKind.i64.wrap (u2+n1)) _ (HT0.out.below (by repeat (first|exact HBr.out|apply δk|apply δj|apply δi)))).mono ?_;rintro e w22 ⟨g_p,lb_p,rfl,hch,hb⟩;replace BKp:=ζa (blk_below (by repeat (first|exact BKp.out|apply δo|apply δp|apply δn)) hb);(try (replace CH_m:=ζa (CH_m.out.below (δr (by repeat (first|exact Below.refl _ _|apply δk|apply δj|apply δi)) hb))));(try (replace CH_q:=ζa (CH_q.out.below (δr (by repeat (first|exact Below.refl _ _|apply δk|apply δj|apply δi)) hb))));(try (replace CH_b:=ζa (CH_b.out.below (δr (by repeat (first|exact Below.refl _ _|apply δk|apply δj|apply δi)) hb))));(try (replace CH_p:=ζa (CH_p.out.below (δr (by repeat (first|exact Below.refl _ _|apply δk|apply δj|apply δi)) hb))));replace HBr:=ζa (δr (by repeat (first|exact HBr.out|apply δk|apply δj|apply δi)) hb);have CH_p:=ζa hch;have eg_p : ∀ args w,(callFunc g_p args).run Tryz.prog w = .ok (.enter g_p args) w:=hch.enters;clear hch hb)
         | (go_at_call 109;refine (impl_all.calls k A_list c_list list _ _ [(g_m,lb_m),(g_q,lb_q),(g_b,lb_b),(g_p,lb_p)] [(impl_move.F k who (⟨#[112,111,111,108]⟩:ByteArray) name da),(impl_move.F k who (⟨#[112,111,111,108]⟩:ByteArray) v1 db),(impl_mint.F k who (⟨#[115,104,97,114,101,115]⟩:ByteArray) n1),(impl_putPool.F k (IntKind.i64.wrap (u0+da)) (IntKind.i64.wrap (u1+db)) (IntKind.i64.wrap (u2+n1)))] o1 c1 _ (by repeat (first|exact Kd.C_below HR0_list.out HBr.out|apply Kd.C_alloc|apply Kd.C_drew|apply Kd.C_drewN)) HC0_list.out (rowF _ (show 4≤1000 by decide) (heap_alloc_new _ _)) rfl (chg_cons (CH_m.out.below (by repeat (first|exact Below.refl _ _|apply δk|apply δj|apply δi))).chg (chg_cons (CH_q.out.below (by repeat (first|exact Below.refl _ _|apply δk|apply δj|apply δi))).chg (chg_cons (CH_b.out.below (by repeat (first|exact Below.refl _ _|apply δk|apply δj|apply δi))).chg (chg_cons (CH_p.out.below (by repeat (first|exact Below.refl _ _|apply δk|apply δj|apply δi))).chg chg_nil)))) H18.out).mono ?_;rintro e w18 ⟨v18,rfl,ho,hb⟩;have ho':=Kd.R_lower ho (Below.size (show Below w.heap.size w _ from by repeat (first|exact HBr.out|apply δk|apply δj|apply δi)));obtain ⟨adr18,cap18,rfl,hl18,hq18⟩:=Kd.R_reads ho';have HC18:=ζa hl18;have HRn18:=ζa hq18;have HOn18:=ζa ho';clear hl18 hq18 ho ho';replace BKp:=ζa (blk_below (by repeat (first|exact BKp.out|apply δo|apply δp|apply δn)) hb);(try (replace CH_m:=ζa (CH_m.out.below (δr (by repeat (first|exact Below.refl _ _|apply δk|apply δj|apply δi)) hb))));(try (replace CH_q:=ζa (CH_q.out.below (δr (by repeat (first|exact Below.refl _ _|apply δk|apply δj|apply δi)) hb))));(try (replace CH_b:=ζa (CH_b.out.below (δr (by repeat (first|exact Below.refl _ _|apply δk|apply δj|apply δi)) hb))));(try (replace CH_p:=ζa (CH_p.out.below (δr (by repeat (first|exact Below.refl _ _|apply δk|apply δj|apply δi)) hb))));replace HBr:=ζa (δr (by repeat (first|exact HBr.out|apply δk|apply δj|apply δi)) hb);clear hb))
       all_goals
        clear hzp_0 hfp_0 hzp_1 hfp_1 hzp_2 hfp_2
        have hzp_0:=(δl BKp.out 0).trans rfl
        have hfp_0:=δm BKp.out 0
        have hzp_1:=(δl BKp.out 1).trans rfl
        have hfp_1:=δm BKp.out 1
        have hzp_2:=(δl BKp.out 2).trans rfl
        have hfp_2:=δm BKp.out 2
        have h:=HH.out
        clear HH
        simp only [Option.some.injEq,Prod.mk.injEq] at h
        obtain ⟨rfl,rfl⟩:=h
        go_wp2
        go_ret2
        exact ⟨_,rfl,(by repeat (exact HOn18.out)),(by repeat (exact HBr.out))⟩
     ·
      rw [if_neg cc13] at h
      have HH:=ζa h
      clear h
      have f13a:(c0 == 0)=φ:=beq_eq_false_iff_ne.mpr cc13
      have f13b:(c0 != 0)=τ:=bne_iff_ne.mpr cc13
      have C13:=ζa cc13
      clear cc13
      have h:=HH.out
      clear HH
      obtain ⟨o2,h23_,h⟩:=Option.bind_eq_some_iff.mp h
      have HH:=ζa h
      have H23:=ζa h23_
      clear h h23_
      go_wp2_with fail
      refine (slices_Clone_impl_Pair_impl_Pair.calls A_list c_list list o2 _ (by repeat (exact Kd.C_below HR0_list.out HB12.out)) HC0_list.out H23.out).mono ?_
      rintro e w23 ⟨v23,rfl,ho,hb⟩
      replace BKp:=ζa (blk_below (by repeat (exact BKp.out)) hb)
      clear hzp_0 hfp_0 hzp_1 hfp_1 hzp_2 hfp_2
      have ho':=Kd.R_lower ho (Below.size (show Below w.heap.size w _ from by repeat (exact HB12.out)))
      obtain ⟨adr23,cap23,rfl,hl23,hq23⟩:=Kd.R_reads ho'
      have HC23:=ζa hl23
      have HRn23:=ζa hq23
      have HOn23:=ζa ho'
      clear hl23 hq23 ho ho'
      have m_:=ζa (δr (by repeat (exact HB12.out)) hb)
      clear hb
      have HB23:=m_
      clear m_
      have hzp_0:=(δl BKp.out 0).trans rfl
      have hfp_0:=δm BKp.out 0
      have hzp_1:=(δl BKp.out 1).trans rfl
      have hfp_1:=δm BKp.out 1
      have hzp_2:=(δl BKp.out 2).trans rfl
      have hfp_2:=δm BKp.out 2
      have h:=HH.out
      clear HH
      simp only [Option.some.injEq,Prod.mk.injEq] at h
      obtain ⟨rfl,rfl⟩:=h
      go_wp2
      go_ret2
      exact ⟨_,rfl,(by repeat (first|exact HOn23.out|apply ζd|apply ζe|apply ζc)),(by repeat (first|exact HB23.out|apply δk|apply δj|apply δi))⟩
    | false =>
     rw [if_neg (by decide)] at h
     have HH:=ζa h
     clear h
     have h:=HH.out
     clear HH
     obtain ⟨o2,h24_,h⟩:=Option.bind_eq_some_iff.mp h
     have HH:=ζa h
     have H24:=ζa h24_
     clear h h24_
     go_wp2_with fail
     refine (slices_Clone_impl_Pair_impl_Pair.calls A_list c_list list o2 _ (by repeat (exact Kd.C_below HR0_list.out HB7.out)) HC0_list.out H24.out).mono ?_
     rintro e w24 ⟨v24,rfl,ho,hb⟩
     have ho':=Kd.R_lower ho (Below.size (show Below w.heap.size w _ from by repeat (exact HB7.out)))
     obtain ⟨adr24,cap24,rfl,hl24,hq24⟩:=Kd.R_reads ho'
     have HC24:=ζa hl24
     have HRn24:=ζa hq24
     have HOn24:=ζa ho'
     clear hl24 hq24 ho ho'
     have m_:=ζa (δr (by repeat (exact HB7.out)) hb)
     clear hb
     have HB24:=m_
     clear m_
     have h:=HH.out
     clear HH
     simp only [Option.some.injEq,Prod.mk.injEq] at h
     obtain ⟨rfl,rfl⟩:=h
     go_wp2
     go_ret2
     exact ⟨_,rfl,(by repeat (first|exact HOn24.out|apply ζd|apply ζe|apply ζc)),(by repeat (first|exact HB24.out|apply δk|apply δj|apply δi))⟩
   | false =>
    rw [if_neg (by decide)] at h
    have HH:=ζa h
    clear h
    have h:=HH.out
    clear HH
    obtain ⟨o2,h25_,h⟩:=Option.bind_eq_some_iff.mp h
    have HH:=ζa h
    have H25:=ζa h25_
    clear h h25_
    go_wp2_with fail
    refine (slices_Clone_impl_Pair_impl_Pair.calls A_list c_list list o2 _ (by repeat (exact Kd.C_below HR0_list.out HB5.out)) HC0_list.out H25.out).mono ?_
    rintro e w25 ⟨v25,rfl,ho,hb⟩
    have ho':=Kd.R_lower ho (Below.size (show Below w.heap.size w _ from by repeat (exact HB5.out)))
    obtain ⟨adr25,cap25,rfl,hl25,hq25⟩:=Kd.R_reads ho'
    have HC25:=ζa hl25
    have HRn25:=ζa hq25
    have HOn25:=ζa ho'
    clear hl25 hq25 ho ho'
    have m_:=ζa (δr (by repeat (exact HB5.out)) hb)
    clear hb
    have HB25:=m_
    clear m_
    have h:=HH.out
    clear HH
    simp only [Option.some.injEq,Prod.mk.injEq] at h
    obtain ⟨rfl,rfl⟩:=h
    go_wp2
    go_ret2
    exact ⟨_,rfl,(by repeat (first|exact HOn25.out|apply ζd|apply ζe|apply ζc)),(by repeat (first|exact HB25.out|apply δk|apply δj|apply δi))⟩
  | false =>
   rw [if_neg (by decide)] at h
   have HH:=ζa h
   clear h
   have h:=HH.out
   clear HH
   obtain ⟨o2,h26_,h⟩:=Option.bind_eq_some_iff.mp h
   have HH:=ζa h
   have H26:=ζa h26_
   clear h h26_
   go_wp2_with fail
   refine (slices_Clone_impl_Pair_impl_Pair.calls A_list c_list list o2 _ (by repeat (exact Kd.C_below HR0_list.out HB3.out)) HC0_list.out H26.out).mono ?_
   rintro e w26 ⟨v26,rfl,ho,hb⟩
   have ho':=Kd.R_lower ho (Below.size (show Below w.heap.size w _ from by repeat (exact HB3.out)))
   obtain ⟨adr26,cap26,rfl,hl26,hq26⟩:=Kd.R_reads ho'
   have HC26:=ζa hl26
   have HRn26:=ζa hq26
   have HOn26:=ζa ho'
   clear hl26 hq26 ho ho'
   have m_:=ζa (δr (by repeat (exact HB3.out)) hb)
   clear hb
   have HB26:=m_
   clear m_
   have h:=HH.out
   clear HH
   simp only [Option.some.injEq,Prod.mk.injEq] at h
   obtain ⟨rfl,rfl⟩:=h
   go_wp2
   go_ret2
   exact ⟨_,rfl,(by repeat (first|exact HOn26.out|apply ζd|apply ζe|apply ζc)),(by repeat (first|exact HB26.out|apply δk|apply δj|apply δi))⟩
 | false =>
  rw [if_neg (by decide)] at h
  have HH:=ζa h
  clear h
  have h:=HH.out
  clear HH
  obtain ⟨o2,h27_,h⟩:=Option.bind_eq_some_iff.mp h
  have HH:=ζa h
  have H27:=ζa h27_
  clear h h27_
  go_wp2_with fail
  refine (slices_Clone_impl_Pair_impl_Pair.calls A_list c_list list o2 _ (by repeat (exact Kd.C_below HR0_list.out HB1.out)) HC0_list.out H27.out).mono ?_
  rintro e w27 ⟨v27,rfl,ho,hb⟩
  have ho':=Kd.R_lower ho (Below.size (show Below w.heap.size w _ from by repeat (exact HB1.out)))
  obtain ⟨adr27,cap27,rfl,hl27,hq27⟩:=Kd.R_reads ho'
  have HC27:=ζa hl27
  have HRn27:=ζa hq27
  have HOn27:=ζa ho'
  clear hl27 hq27 ho ho'
  have m_:=ζa (δr (by repeat (exact HB1.out)) hb)
  clear hb
  have HB27:=m_
  clear m_
  have h:=HH.out
  clear HH
  simp only [Option.some.injEq,Prod.mk.injEq] at h
  obtain ⟨rfl,rfl⟩:=h
  go_wp2
  go_ret2
  exact ⟨_,rfl,(by repeat (exact HOn27.out)),(by repeat (exact HB27.out))⟩


open Go.Proofs.YtabmfhnhmoiljaaGreatDoorW.PrintWords renaming gate_dst → δx, below_size → δs, below_step → δr, gate_callee → δv
open Go.Proofs.YtabmfhnhmoiljaaGreatDoorW.PrintWords.Kd renaming R_reads' → ζg, R_below → ζh

/-! ### impl_AddPool: function 40 -/
def impl_AddPool.f (k:Nat) (a0:ByteArray) (l1:List (S51)) (a2:ByteArray) (a3:Int) (a4:Int) (a5:Int):Option ((List (S51)) × Int):=(impl_nameCode.f k a0 l1 (([a2]:List ByteArray))).bind fun t1069=>(if t1069=0 then ((impl_addPool.f k a0 l1 a2 a3 a4 a5).bind fun bt1070=>(some (bt1070.1,bt1070.2))) else (some (([]:List (S51)),t1069)))
set_option maxHeartbeats 8000000 in
set_option maxRecDepth 100000 in
theorem impl_AddPool.calls (k:Nat) (a0:ByteArray) (A1:Option Addr) (c1:Nat) (l1:List (S51)) (a2:ByteArray) (a3:Int) (a4:Int) (a5:Int) (r1:List (S51)) (r2:Int) (w:World) (hr1:Kd.C k51 w A1 l1.length l1) (hc1:l1.length≤c1) (hT0:TabsOK w) (h:impl_AddPool.f k a0 l1 a2 a3 a4 a5=some (r1,r2)) :
  Calls Tryz.prog 40 #[.string a0,.slice A1 l1.length c1,.string a2,.int .i64 a3,.int .i64 a4,.int .i64 a5] w fun e w' => ∃ v0_:Value,e = .returned (.tuple #[v0_,.int .i64 r2])∧Kd.R k51 51 w' w.heap.size (fun _=>True) v0_ r1∧Below w.heap.size w w':=by
 have HT0:=ζa hT0
 clear hT0
 have HR1:=ζa hr1
 have HC1:=ζa hc1
 clear hr1 hc1
 have HB:=ζa (Below.refl w.heap.size w)
 have H:((impl_nameCode.f k a0 l1 (([a2]:List ByteArray))).bind fun t1069=>(if t1069=0 then ((impl_addPool.f k a0 l1 a2 a3 a4 a5).bind fun bt1070=>(some (bt1070.1,bt1070.2))) else (some (([]:List (S51)),t1069))))=some (r1,r2):=h
 clear h
 obtain ⟨y1066,hy1066⟩ : ∃ y_:List ByteArray,y_=(([a2]:List ByteArray)):=⟨_,rfl⟩
 replace H:((impl_nameCode.f k a0 l1 y1066).bind fun t1069=>(if t1069=0 then ((impl_addPool.f k a0 l1 a2 a3 a4 a5).bind fun bt1070=>(some (bt1070.1,bt1070.2))) else (some (([]:List (S51)),t1069))))=some (r1,r2):=by (rw [hy1066];with_reducible exact H)
 have Ny1066:=ζa hy1066
 clear hy1066
 replace H:=Option.bind_eq_some_iff.mp H
 obtain ⟨t1069,A70,H⟩:=H
 replace H:(if t1069=0 then ((impl_addPool.f k a0 l1 a2 a3 a4 a5).bind fun bt1070=>(some (bt1070.1,bt1070.2))) else (some (([]:List (S51)),t1069)))=some (r1,r2):=H
 have A7:=ζa A70
 clear A70
 by_cases c8:t1069=0
 ·
  rw [if_pos c8] at H
  have c8b0:(t1069 == 0)=τ:=beq_iff_eq.mpr c8
  have c8b1:(t1069 != 0)=φ:=bne_eq_false_iff_eq.mpr c8
  clear c8
  replace H:=Option.bind_eq_some_iff.mp H
  obtain ⟨⟨t1070,t1071⟩,A90,H⟩:=H
  replace H:(some (t1070,t1071))=some (r1,r2):=H
  have A9:=ζa A90
  clear A90
  simp only [Option.some.injEq,Prod.mk.injEq] at H
  obtain ⟨rfl,rfl⟩:=H
  go_enter Tryz.func40,Tryz.ntmps40
  go_wp2_with (first|((with_reducible refine δx (N:=18) rfl ?_);refine Kd.R_lit Kd.string _ 9 ?hg (N:=18) ?hd (xs:=([a2]:List ByteArray)) (inner:=[.string a2]) (ok:=fun _=>True) (okp:=fun _=>True) ?hr ?hp (fun _ hk=>hk) trivial (Below.refl _ _) (Nat.le_refl _) (by simp) ?_;(case hd=>rfl);(case hg=>rfl);(case hr=>(go_simp;done));(case hp=>exact (Reps.one (show Kd.M Kd.string _ _ _ a2 [.string a2] from rfl) (Reps.none _ _)));intro v1067 w10 ho11 hb hg_ hnew_;clear hg_ hnew_;(rw [← Ny1066.out] at ho11);have HO1068:=ζa (Kd.R_lower ho11 (δs (by exact HB.out)));replace HB:=ζa (δr (by exact HB.out) hb);clear hb ho11;obtain ⟨Ao12,co12,eo12⟩:=Kd.R_slice HO1068.out;subst eo12)|((with_reducible refine δv (f:=45) rfl ?_);refine goesL_ (some 19) rfl rfl Tryz.func45 (by kernel_rfl) rfl #[.string a0,.slice A1 l1.length c1,.slice Ao12 y1066.length co12] rfl (by (try simp only [δd,δe,δf]);rfl) ?_;(with_reducible refine (impl_nameCode.calls k a0 _ _ l1 _ _ y1066 t1069 _ ?side1 ?side2 ?side3 ?side4 A7.out).mono ?_);(case side1=>repeat (exact (Kd.C_below HR1.out HB.out)));(case side2=>exact HC1.out);(case side3=>repeat (exact (ζg HO1068.out).2.2));(case side4=>exact (ζg HO1068.out).2.1);rintro e w13 ⟨rfl,hb⟩;refine ⟨_,rfl,?_⟩;replace HO1068:=ζa (ζh (by exact HO1068.out) hb);replace HB:=ζa (δr (by exact HB.out) hb);(try clear hb);(try clear hb2);(try clear hk);(try clear hi))|((with_reducible refine δv (f:=73) rfl ?_);refine goesL_ (some 29) rfl rfl Tryz.func73 (by kernel_rfl) rfl #[.string a0,.slice A1 l1.length c1,.string a2,.int .i64 a3,.int .i64 a4,.int .i64 a5] rfl (by (try simp only [δd,δe,δf]);rfl) ?_;(with_reducible refine (impl_addPool.calls k a0 _ _ l1 a2 a3 a4 a5 t1070 t1071 _ ?side1 ?side2 (HT0.out.below (by exact HB.out)) A9.out).mono ?_);(case side1=>repeat (exact (Kd.C_below HR1.out HB.out)));(case side2=>exact HC1.out);rintro e w14 ⟨v1072,rfl,ho0,hb⟩;refine ⟨_,rfl,?_⟩;replace HO1068:=ζa (ζh (by exact HO1068.out) hb);have HO1073:=ζa (Kd.R_lower ho0 (δs (by exact HB.out)));replace HB:=ζa (δr (by exact HB.out) hb);(try clear hb);(try clear hb2);(try clear hk);(try clear hi);(try clear ho0)))
  go_ret2
  exact ⟨_,by rfl,by exact HO1073.out,by repeat ((with_reducible exact HB.out))⟩
 ·
  rw [if_neg c8] at H
  have c8b0:(t1069 == 0)=φ:=beq_eq_false_iff_ne.mpr c8
  have c8b1:(t1069 != 0)=τ:=bne_iff_ne.mpr c8
  simp only [Option.some.injEq,Prod.mk.injEq] at H
  obtain ⟨rfl,rfl⟩:=H
  go_enter Tryz.func40,Tryz.ntmps40
  go_wp2_with (first|((with_reducible refine δx (N:=18) rfl ?_);refine Kd.R_lit Kd.string _ 9 ?hg (N:=18) ?hd (xs:=([a2]:List ByteArray)) (inner:=[.string a2]) (ok:=fun _=>True) (okp:=fun _=>True) ?hr ?hp (fun _ hk=>hk) trivial (Below.refl _ _) (Nat.le_refl _) (by simp) ?_;(case hd=>rfl);(case hg=>rfl);(case hr=>(go_simp;done));(case hp=>exact (Reps.one (show Kd.M Kd.string _ _ _ a2 [.string a2] from rfl) (Reps.none _ _)));intro v1067 w15 ho16 hb hg_ hnew_;clear hg_ hnew_;(rw [← Ny1066.out] at ho16);have HO1068:=ζa (Kd.R_lower ho16 (δs (by exact HB.out)));replace HB:=ζa (δr (by exact HB.out) hb);clear hb ho16;obtain ⟨Ao17,co17,eo17⟩:=Kd.R_slice HO1068.out;subst eo17)|((with_reducible refine δv (f:=45) rfl ?_);refine goesL_ (some 19) rfl rfl Tryz.func45 (by kernel_rfl) rfl #[.string a0,.slice A1 l1.length c1,.slice Ao17 y1066.length co17] rfl (by (try simp only [δd,δe,δf]);rfl) ?_;(with_reducible refine (impl_nameCode.calls k a0 _ _ l1 _ _ y1066 t1069 _ ?side1 ?side2 ?side3 ?side4 A7.out).mono ?_);(case side1=>repeat (exact (Kd.C_below HR1.out HB.out)));(case side2=>exact HC1.out);(case side3=>repeat (exact (ζg HO1068.out).2.2));(case side4=>exact (ζg HO1068.out).2.1);rintro e w18 ⟨rfl,hb⟩;refine ⟨_,rfl,?_⟩;replace HO1068:=ζa (ζh (by exact HO1068.out) hb);replace HB:=ζa (δr (by exact HB.out) hb);(try clear hb);(try clear hb2);(try clear hk);(try clear hi)))
  go_ret2
  exact ⟨_,by rfl,by exact Kd.R_nil _ _ _ _ _,by repeat ((with_reducible exact HB.out))⟩


open Go.Proofs.YtabmfhnhmoiljaaGreatDoorW.PrintWords renaming gate_callee → δv, below_step → δr, below_size → δs

/-! ### laws_FnExactAddPool: function 13 -/
mutual
def laws_FnExactAddPool.j0:Nat→ByteArray→List (S49)→ByteArray→Int→Int→Int→List (S51)→Int→List (S51)→List (S51)→Int→Bool→Option (Bool)
 | 0,_,_,_,_,_,_,_,_,_,_,_,_=>none
 | k+1,x0,x1,x2,x3,x4,x5,x14,x15,x16,x17,x18,x66=>if x66=τ then (some φ) else ((laws_toPairS.f k x1).bind fun t1090=>((laws_eqPairS.f k x16 t1090).bind fun t1093=>(if t1093=τ then ((laws_markPairS.f k x16 1).bind fun bt1094=>(if bt1094.1<0 then (laws_FnExactAddPool.j1 k x0 x1 x2 x3 x4 x5 x14 x15 x17 τ) else ((laws_eqPairS.f k x17 x14).bind fun t1096=>(if t1096=τ then (laws_FnExactAddPool.j1 k x0 x1 x2 x3 x4 x5 x14 x15 x17 (x18 != x15)) else (laws_FnExactAddPool.j1 k x0 x1 x2 x3 x4 x5 x14 x15 x17 τ))))) else (some φ))))
def laws_FnExactAddPool.j1:Nat→ByteArray→List (S49)→ByteArray→Int→Int→Int→List (S51)→Int→List (S51)→Bool→Option (Bool)
 | 0,_,_,_,_,_,_,_,_,_,_=>none
 | k+1,x0,x1,x2,x3,x4,x5,x14,x15,x17,x87=>if x87=τ then (some φ) else ((laws_markPairS.f k x17 1).bind fun bt1097=>((laws_heldPairS.f k bt1097.2 1).bind fun t1099=>(if t1099<0 then (some φ) else (if t1099=bt1097.1 then ((laws_toPairS.f k x1).bind fun t1100=>((impl_AddPool.f k x0 t1100 x2 x3 x4 x5).bind fun bt1103=>((laws_eqPairS.f k bt1103.1 x14).bind fun t1107=>(if t1107=τ then (laws_FnExactAddPool.j2 k bt1097.2 bt1097.1 (bt1103.2 != x15)) else (laws_FnExactAddPool.j2 k bt1097.2 bt1097.1 τ))))) else (some φ)))))
def laws_FnExactAddPool.j2:Nat→List (S51)→Int→Bool→Option (Bool)
 | 0,_,_,_=>none
 | k+1,x17,x20,x118=>if x118=τ then (some φ) else ((laws_heldPairS.f k x17 1).bind fun t1108=>(if t1108<0 then (some φ) else (if t1108=x20 then (some τ) else (some φ))))
end
def laws_FnExactAddPool.f (k:Nat) (a0:ByteArray) (l1:List (S49)) (a2:ByteArray) (a3:Int) (a4:Int) (a5:Int):Option (Bool):=if (a0.size:Int) > 1048576 then (some τ) else (if (a2.size:Int) > 1048576 then (some τ) else ((laws_szPairS.f k l1 1048576).bind fun t1074=>(if t1074<0 then (some τ) else ((laws_toPairS.f k l1).bind fun t1075=>((spec_AddPool.f k a0 t1075 a2 a3 a4 a5).bind fun bt1078=>((laws_toPairS.f k l1).bind fun t1082=>((impl_AddPool.f k a0 t1082 a2 a3 a4 a5).bind fun bt1085=>((laws_eqPairS.f k bt1085.1 bt1078.1).bind fun t1089=>(if t1089=τ then (laws_FnExactAddPool.j0 k a0 l1 a2 a3 a4 a5 bt1078.1 bt1078.2 t1082 bt1085.1 bt1085.2 (bt1085.2 != bt1078.2)) else (laws_FnExactAddPool.j0 k a0 l1 a2 a3 a4 a5 bt1078.1 bt1078.2 t1082 bt1085.1 bt1085.2 τ))))))))))
set_option maxHeartbeats 8000000 in
set_option maxRecDepth 100000 in
theorem laws_FnExactAddPool.calls (k:Nat) (a0:ByteArray) (A1:Option Addr) (c1:Nat) (l1:List (S49)) (a2:ByteArray) (a3:Int) (a4:Int) (a5:Int) (r:Bool) (w:World) (hr1:Kd.C k49 w A1 l1.length l1) (hc1:l1.length≤c1) (hT0:TabsOK w) (h:laws_FnExactAddPool.f k a0 l1 a2 a3 a4 a5=some r) :
  Calls Tryz.prog 13 #[.string a0,.slice A1 l1.length c1,.string a2,.int .i64 a3,.int .i64 a4,.int .i64 a5] w fun e w'=>e = .returned (.bool r)∧Below w.heap.size w w':=by
 have HT0:=ζa hT0
 clear hT0
 have HR1:=ζa hr1
 have HC1:=ζa hc1
 clear hr1 hc1
 have HB:=ζa (Below.refl w.heap.size w)
 have H:(if (a0.size:Int) > 1048576 then (some τ) else (if (a2.size:Int) > 1048576 then (some τ) else ((laws_szPairS.f k l1 1048576).bind fun t1074=>(if t1074<0 then (some τ) else ((laws_toPairS.f k l1).bind fun t1075=>((spec_AddPool.f k a0 t1075 a2 a3 a4 a5).bind fun bt1078=>((laws_toPairS.f k l1).bind fun t1082=>((impl_AddPool.f k a0 t1082 a2 a3 a4 a5).bind fun bt1085=>((laws_eqPairS.f k bt1085.1 bt1078.1).bind fun t1089=>(if t1089=τ then (laws_FnExactAddPool.j0 k a0 l1 a2 a3 a4 a5 bt1078.1 bt1078.2 t1082 bt1085.1 bt1085.2 (bt1085.2 != bt1078.2)) else (laws_FnExactAddPool.j0 k a0 l1 a2 a3 a4 a5 bt1078.1 bt1078.2 t1082 bt1085.1 bt1085.2 τ)))))))))))=some r:=h
 clear h
 by_cases c7:(a0.size:Int) > 1048576
 ·
  rw [if_pos c7] at H
  have c7b0:decide (1048576<(a0.size:Int))=τ:=decide_eq_true c7
  have c7b1:decide (1048576<a0.size)=τ:=decide_eq_true (by omega)
  clear c7
  obtain rfl:=Option.some.inj H
  go_enter Tryz.func13,Tryz.ntmps13
  go_wp2
  go_ret
  exact ⟨by rfl,by repeat ((with_reducible exact HB.out))⟩
 ·
  rw [if_neg c7] at H
  have c7b0:decide (1048576<(a0.size:Int))=φ:=decide_eq_false c7
  have c7b1:decide (1048576<a0.size)=φ:=decide_eq_false (by omega)
  clear c7
  by_cases c8:(a2.size:Int) > 1048576
  ·
   rw [if_pos c8] at H
   have c8b0:decide (1048576<(a2.size:Int))=τ:=decide_eq_true c8
   have c8b1:decide (1048576<a2.size)=τ:=decide_eq_true (by omega)
   clear c8
   obtain rfl:=Option.some.inj H
   go_enter Tryz.func13,Tryz.ntmps13
   go_wp2
   go_ret
   exact ⟨by rfl,by repeat ((with_reducible exact HB.out))⟩
  ·
   rw [if_neg c8] at H
   have c8b0:decide (1048576<(a2.size:Int))=φ:=decide_eq_false c8
   have c8b1:decide (1048576<a2.size)=φ:=decide_eq_false (by omega)
   clear c8
   replace H:=Option.bind_eq_some_iff.mp H
   obtain ⟨t1074,A90,H⟩:=H
   replace H:(if t1074<0 then (some τ) else ((laws_toPairS.f k l1).bind fun t1075=>((spec_AddPool.f k a0 t1075 a2 a3 a4 a5).bind fun bt1078=>((laws_toPairS.f k l1).bind fun t1082=>((impl_AddPool.f k a0 t1082 a2 a3 a4 a5).bind fun bt1085=>((laws_eqPairS.f k bt1085.1 bt1078.1).bind fun t1089=>(if t1089=τ then (laws_FnExactAddPool.j0 k a0 l1 a2 a3 a4 a5 bt1078.1 bt1078.2 t1082 bt1085.1 bt1085.2 (bt1085.2 != bt1078.2)) else (laws_FnExactAddPool.j0 k a0 l1 a2 a3 a4 a5 bt1078.1 bt1078.2 t1082 bt1085.1 bt1085.2 τ))))))))=some r:=H
   have A9:=ζa A90
   clear A90
   by_cases c10:t1074<0
   ·
    rw [if_pos c10] at H
    have c10b0:decide (t1074<0)=τ:=decide_eq_true c10
    clear c10
    obtain rfl:=Option.some.inj H
    go_enter Tryz.func13,Tryz.ntmps13
    go_wp2_with (((with_reducible refine δv (f:=14) rfl ?_);refine goesL_ (some 32) rfl rfl Tryz.func14 (by kernel_rfl) rfl #[.slice A1 l1.length c1,.int .i64 1048576] rfl (by (try simp only [δd,δe,δf]);rfl) ?_;(with_reducible refine (laws_szPairS.calls k _ _ l1 1048576 t1074 _ ?side1 ?side2 A9.out).mono ?_);(case side1=>repeat (exact HR1.out));(case side2=>exact HC1.out);rintro e w11 ⟨rfl,hb⟩;refine ⟨_,rfl,?_⟩;replace HB:=ζa (δr (by exact HB.out) hb);(try clear hb);(try clear hb2);(try clear hk);(try clear hi)))
    go_ret
    exact ⟨by rfl,by repeat ((with_reducible exact HB.out))⟩
   ·
    rw [if_neg c10] at H
    have c10b0:decide (t1074<0)=φ:=decide_eq_false c10
    clear c10
    replace H:=Option.bind_eq_some_iff.mp H
    obtain ⟨t1075,A120,H⟩:=H
    replace H:((spec_AddPool.f k a0 t1075 a2 a3 a4 a5).bind fun bt1078=>((laws_toPairS.f k l1).bind fun t1082=>((impl_AddPool.f k a0 t1082 a2 a3 a4 a5).bind fun bt1085=>((laws_eqPairS.f k bt1085.1 bt1078.1).bind fun t1089=>(if t1089=τ then (laws_FnExactAddPool.j0 k a0 l1 a2 a3 a4 a5 bt1078.1 bt1078.2 t1082 bt1085.1 bt1085.2 (bt1085.2 != bt1078.2)) else (laws_FnExactAddPool.j0 k a0 l1 a2 a3 a4 a5 bt1078.1 bt1078.2 t1082 bt1085.1 bt1085.2 τ))))))=some r:=H
    have A12:=ζa A120
    clear A120
    replace H:=Option.bind_eq_some_iff.mp H
    obtain ⟨⟨t1078,t1079⟩,A130,H⟩:=H
    replace H:((laws_toPairS.f k l1).bind fun t1082=>((impl_AddPool.f k a0 t1082 a2 a3 a4 a5).bind fun bt1085=>((laws_eqPairS.f k bt1085.1 t1078).bind fun t1089=>(if t1089=τ then (laws_FnExactAddPool.j0 k a0 l1 a2 a3 a4 a5 t1078 t1079 t1082 bt1085.1 bt1085.2 (bt1085.2 != t1079)) else (laws_FnExactAddPool.j0 k a0 l1 a2 a3 a4 a5 t1078 t1079 t1082 bt1085.1 bt1085.2 τ)))))=some r:=H
    have A13:=ζa A130
    clear A130
    replace H:=Option.bind_eq_some_iff.mp H
    obtain ⟨t1082,A140,H⟩:=H
    replace H:((impl_AddPool.f k a0 t1082 a2 a3 a4 a5).bind fun bt1085=>((laws_eqPairS.f k bt1085.1 t1078).bind fun t1089=>(if t1089=τ then (laws_FnExactAddPool.j0 k a0 l1 a2 a3 a4 a5 t1078 t1079 t1082 bt1085.1 bt1085.2 (bt1085.2 != t1079)) else (laws_FnExactAddPool.j0 k a0 l1 a2 a3 a4 a5 t1078 t1079 t1082 bt1085.1 bt1085.2 τ))))=some r:=H
    have A14:=ζa A140
    clear A140
    replace H:=Option.bind_eq_some_iff.mp H
    obtain ⟨⟨t1085,t1086⟩,A150,H⟩:=H
    replace H:((laws_eqPairS.f k t1085 t1078).bind fun t1089=>(if t1089=τ then (laws_FnExactAddPool.j0 k a0 l1 a2 a3 a4 a5 t1078 t1079 t1082 t1085 t1086 (t1086 != t1079)) else (laws_FnExactAddPool.j0 k a0 l1 a2 a3 a4 a5 t1078 t1079 t1082 t1085 t1086 τ)))=some r:=H
    have A15:=ζa A150
    clear A150
    have HC16:=ζa H
    clear H
    go_enter Tryz.func13,Tryz.ntmps13
    go_upto_region 12 with (first|((with_reducible refine δv (f:=14) rfl ?_);refine goesL_ (some 32) rfl rfl Tryz.func14 (by kernel_rfl) rfl #[.slice A1 l1.length c1,.int .i64 1048576] rfl (by (try simp only [δd,δe,δf]);rfl) ?_;(with_reducible refine (laws_szPairS.calls k _ _ l1 1048576 t1074 _ ?side1 ?side2 A9.out).mono ?_);(case side1=>repeat (exact HR1.out));(case side2=>exact HC1.out);rintro e w17 ⟨rfl,hb⟩;refine ⟨_,rfl,?_⟩;replace HB:=ζa (δr (by exact HB.out) hb);(try clear hb);(try clear hb2);(try clear hk);(try clear hi))|((with_reducible refine δv (f:=16) rfl ?_);refine goesL_ (some 38) rfl rfl Tryz.func16 (by kernel_rfl) rfl #[.slice A1 l1.length c1] rfl (by (try simp only [δd,δe,δf]);rfl) ?_;(with_reducible refine (laws_toPairS.calls k _ _ l1 t1075 _ ?side1 ?side2 A12.out).mono ?_);(case side1=>repeat (exact (Kd.C_below HR1.out HB.out)));(case side2=>exact HC1.out);rintro e w18 ⟨v1076,rfl,ho0,hb⟩;refine ⟨_,rfl,?_⟩;have HO1077:=ζa (Kd.R_lower ho0 (δs (by exact HB.out)));replace HB:=ζa (δr (by exact HB.out) hb);(try clear hb);(try clear hb2);(try clear hk);(try clear hi);(try clear ho0);obtain ⟨Ao19,co19,eo19⟩:=Kd.R_slice HO1077.out;subst eo19)|((with_reducible refine δv (f:=39) rfl ?_);refine goesL_ (some 43) rfl rfl Tryz.func39 (by kernel_rfl) rfl #[.string a0,.slice Ao19 t1075.length co19,.string a2,.int .i64 a3,.int .i64 a4,.int .i64 a5] rfl (by (try simp only [δd,δe,δf]);rfl) ?_;(with_reducible refine (spec_AddPool.calls k a0 _ _ t1075 a2 a3 a4 a5 t1078 t1079 _ ?side1 ?side2 A13.out).mono ?_);(case side1=>repeat (exact (ζg HO1077.out).2.2));(case side2=>exact (ζg HO1077.out).2.1);rintro e w20 ⟨v1080,rfl,ho0,hb⟩;refine ⟨_,rfl,?_⟩;have HO1081:=ζa (Kd.R_lower (Kd.R_new' ho0 (Kd.R_lt (by exact HO1077.out))) (δs (by exact HB.out)));replace HO1077:=ζa (Kd.R_elder' (by exact HO1077.out) (Kd.R_base ho0) hb);replace HB:=ζa (δr (by exact HB.out) hb);(try clear hb);(try clear hb2);(try clear hk);(try clear hi);(try clear ho0))|((with_reducible refine δv (f:=16) rfl ?_);refine goesL_ (some 47) rfl rfl Tryz.func16 (by kernel_rfl) rfl #[.slice A1 l1.length c1] rfl (by (try simp only [δd,δe,δf]);rfl) ?_;(with_reducible refine (laws_toPairS.calls k _ _ l1 t1082 _ ?side1 ?side2 A14.out).mono ?_);(case side1=>repeat (exact (Kd.C_below HR1.out HB.out)));(case side2=>exact HC1.out);rintro e w21 ⟨v1083,rfl,ho0,hb⟩;refine ⟨_,rfl,?_⟩;have HO1084:=ζa (Kd.R_lower (Kd.R_new' (Kd.R_new' ho0 (Kd.R_lt (by exact HO1077.out))) (Kd.R_lt (by exact HO1081.out))) (δs (by exact HB.out)));replace HO1077:=ζa (Kd.R_elder' (by exact HO1077.out) (Kd.R_base ho0) hb);replace HO1081:=ζa (Kd.R_elder' (by exact HO1081.out) (Kd.R_base ho0) hb);replace HB:=ζa (δr (by exact HB.out) hb);(try clear hb);(try clear hb2);(try clear hk);(try clear hi);(try clear ho0);obtain ⟨Ao22,co22,eo22⟩:=Kd.R_slice HO1084.out;subst eo22)|((with_reducible refine δv (f:=40) rfl ?_);refine goesL_ (some 55) rfl rfl Tryz.func40 (by kernel_rfl) rfl #[.string a0,.slice Ao22 t1082.length co22,.string a2,.int .i64 a3,.int .i64 a4,.int .i64 a5] rfl (by (try simp only [δd,δe,δf]);rfl) ?_;(with_reducible refine (impl_AddPool.calls k a0 _ _ t1082 a2 a3 a4 a5 t1085 t1086 _ ?side1 ?side2 (HT0.out.below (by exact HB.out)) A15.out).mono ?_);(case side1=>repeat (exact (ζg HO1084.out).2.2));(case side2=>exact (ζg HO1084.out).2.1);rintro e w23 ⟨v1087,rfl,ho0,hb⟩;refine ⟨_,rfl,?_⟩;have HO1088:=ζa (Kd.R_lower (Kd.R_new' (Kd.R_new' (Kd.R_new' ho0 (Kd.R_lt (by exact HO1077.out))) (Kd.R_lt (by exact HO1081.out))) (Kd.R_lt (by exact HO1084.out))) (δs (by exact HB.out)));replace HO1077:=ζa (Kd.R_elder' (by exact HO1077.out) (Kd.R_base ho0) hb);replace HO1081:=ζa (Kd.R_elder' (by exact HO1081.out) (Kd.R_base ho0) hb);replace HO1084:=ζa (Kd.R_elder' (by exact HO1084.out) (Kd.R_base ho0) hb);replace HB:=ζa (δr (by exact HB.out) hb);(try clear hb);(try clear hb2);(try clear hk);(try clear hi);(try clear ho0)))
    (try simp only [ζl,δa,δb,δc])
    go_cut [66] (fun v66 wc => ∃ (kq:Nat) (x66_15:Bool),v66 = .bool x66_15∧Aside0 (laws_FnExactAddPool.j0 kq a0 l1 a2 a3 a4 a5 t1078 t1079 t1082 t1085 t1086 x66_15=some r)∧Aside0 (kq≤k)∧Aside0 (Kd.R k51 51 wc w.heap.size (fun k_=>some k_≠((.slice Ao22 t1082.length co22):Value).ownBlock∧some k_≠(v1087:Value).ownBlock) v1080 t1078)∧Aside0 (Kd.R k51 51 wc w.heap.size (fun k_=>some k_≠(v1080:Value).ownBlock∧some k_≠(v1087:Value).ownBlock) (.slice Ao22 t1082.length co22) t1082)∧Aside0 (Kd.R k51 51 wc w.heap.size (fun k_=>some k_≠(v1080:Value).ownBlock∧some k_≠((.slice Ao22 t1082.length co22):Value).ownBlock) v1087 t1085)∧Aside0 (Below w.heap.size w wc))
    case first =>
     have H:=HC16.out
     clear HC16
     replace H:=Option.bind_eq_some_iff.mp H
     obtain ⟨t1089,A240,H⟩:=H
     replace H:(if t1089=τ then (laws_FnExactAddPool.j0 k a0 l1 a2 a3 a4 a5 t1078 t1079 t1082 t1085 t1086 (t1086 != t1079)) else (laws_FnExactAddPool.j0 k a0 l1 a2 a3 a4 a5 t1078 t1079 t1082 t1085 t1086 τ))=some r:=H
     have A24:=ζa A240
     clear A240
     by_cases c25:t1089=τ
     ·
      subst c25
      have H1:(laws_FnExactAddPool.j0 k a0 l1 a2 a3 a4 a5 t1078 t1079 t1082 t1085 t1086 (t1086 != t1079))=some r:=by rw [if_pos rfl] at H;exact H
      clear H
      have H:=H1
      clear H1
      have H':=ζa H
      clear H
      obtain ⟨Ao26,co26,eo26⟩:=Kd.R_slice HO1088.out
      subst eo26
      obtain ⟨Ao27,co27,eo27⟩:=Kd.R_slice HO1081.out
      subst eo27
      go_wp2_with (((with_reducible refine δv (f:=18) rfl ?_);refine goesL_ (some 60) rfl rfl Tryz.func18 (by kernel_rfl) rfl #[.slice Ao26 t1085.length co26,.slice Ao27 t1078.length co27] rfl (by (try simp only [δd,δe,δf]);rfl) ?_;(with_reducible refine (laws_eqPairS.calls k _ _ t1085 _ _ t1078 τ _ ?side1 ?side2 ?side3 ?side4 A24.out).mono ?_);(case side1=>repeat (exact (ζg HO1088.out).2.2));(case side2=>exact (ζg HO1088.out).2.1);(case side3=>repeat (exact (ζg HO1081.out).2.2));(case side4=>exact (ζg HO1081.out).2.1);rintro e w28 ⟨rfl,hb⟩;refine ⟨_,rfl,?_⟩;replace HO1077:=ζa (ζh (by exact HO1077.out) hb);replace HO1081:=ζa (ζh (by exact HO1081.out) hb);replace HO1084:=ζa (ζh (by exact HO1084.out) hb);replace HO1088:=ζa (ζh (by exact HO1088.out) hb);replace HB:=ζa (δr (by exact HB.out) hb);(try clear hb);(try clear hb2);(try clear hk);(try clear hi)))
      go_meet
      case rel=>exact ⟨_,((t1086 != t1079)),(by rfl),H',⟨by omega⟩,⟨by exact Kd.R_mono HO1081.out (fun _ hk=>⟨hk.1.2,hk.2⟩)⟩,⟨by exact Kd.R_mono HO1084.out (fun _ hk=>⟨hk.1.2,hk.2⟩)⟩,⟨by exact Kd.R_mono HO1088.out (fun _ hk=>⟨hk.1.2,hk.2⟩)⟩,⟨by repeat ((with_reducible exact HB.out))⟩⟩
     ·
      replace c25:=Bool.eq_false_iff.mpr c25
      subst c25
      have H1:(laws_FnExactAddPool.j0 k a0 l1 a2 a3 a4 a5 t1078 t1079 t1082 t1085 t1086 τ)=some r:=by rw [if_neg (show ¬ (φ=τ) by decide)] at H;exact H
      clear H
      have H:=H1
      clear H1
      have H':=ζa H
      clear H
      obtain ⟨Ao29,co29,eo29⟩:=Kd.R_slice HO1088.out
      subst eo29
      obtain ⟨Ao30,co30,eo30⟩:=Kd.R_slice HO1081.out
      subst eo30
      go_wp2_with (((with_reducible refine δv (f:=18) rfl ?_);refine goesL_ (some 60) rfl rfl Tryz.func18 (by kernel_rfl) rfl #[.slice Ao29 t1085.length co29,.slice Ao30 t1078.length co30] rfl (by (try simp only [δd,δe,δf]);rfl) ?_;(with_reducible refine (laws_eqPairS.calls k _ _ t1085 _ _ t1078 φ _ ?side1 ?side2 ?side3 ?side4 A24.out).mono ?_);(case side1=>repeat (exact (ζg HO1088.out).2.2));(case side2=>exact (ζg HO1088.out).2.1);(case side3=>repeat (exact (ζg HO1081.out).2.2));(case side4=>exact (ζg HO1081.out).2.1);rintro e w31 ⟨rfl,hb⟩;refine ⟨_,rfl,?_⟩;replace HO1077:=ζa (ζh (by exact HO1077.out) hb);replace HO1081:=ζa (ζh (by exact HO1081.out) hb);replace HO1084:=ζa (ζh (by exact HO1084.out) hb);replace HO1088:=ζa (ζh (by exact HO1088.out) hb);replace HB:=ζa (δr (by exact HB.out) hb);(try clear hb);(try clear hb2);(try clear hk);(try clear hi)))
      go_meet
      case rel=>exact ⟨_,(τ),(by rfl),H',⟨by omega⟩,⟨by exact Kd.R_mono HO1081.out (fun _ hk=>⟨hk.1.2,hk.2⟩)⟩,⟨by exact Kd.R_mono HO1084.out (fun _ hk=>⟨hk.1.2,hk.2⟩)⟩,⟨by exact Kd.R_mono HO1088.out (fun _ hk=>⟨hk.1.2,hk.2⟩)⟩,⟨by repeat ((with_reducible exact HB.out))⟩⟩
    case rest =>
     clear HC16
     try clear c1
     try clear c2
     try clear p2
     try clear c3
     try clear c4
     try clear c7
     try clear c7b0
     try clear c7b1
     try clear c8
     try clear c8b0
     try clear c8b1
     try clear c10
     try clear c10b0
     try clear c13
     try clear c14
     try clear c16
     try clear c18
     try clear c25
     obtain ⟨kq,x66_15,rfl,HA,HJ15,HO_14,HO_16,HO_17,HB⟩:=hcut
     cases kq with
     | zero=>exact absurd HA.out (by simp [laws_FnExactAddPool.j0])
     | succ kj15 =>
      have H:=HA.out
      clear HA
      simp only [laws_FnExactAddPool.j0] at H
      by_cases c32:x66_15=τ
      ·
       subst c32
       have H1:(some φ)=some r:=by rw [if_pos rfl] at H;exact H
       clear H
       have H:=H1
       clear H1
       obtain rfl:=Option.some.inj H
       go_wp2
       go_ret
       exact ⟨by rfl,by repeat ((with_reducible exact HB.out))⟩
      ·
       replace c32:=Bool.eq_false_iff.mpr c32
       subst c32
       have H1:((laws_toPairS.f kj15 l1).bind fun t1090=>((laws_eqPairS.f kj15 t1082 t1090).bind fun t1093=>(if t1093=τ then ((laws_markPairS.f kj15 t1082 1).bind fun bt1094=>(if bt1094.1<0 then (laws_FnExactAddPool.j1 kj15 a0 l1 a2 a3 a4 a5 t1078 t1079 t1085 τ) else ((laws_eqPairS.f kj15 t1085 t1078).bind fun t1096=>(if t1096=τ then (laws_FnExactAddPool.j1 kj15 a0 l1 a2 a3 a4 a5 t1078 t1079 t1085 (t1086 != t1079)) else (laws_FnExactAddPool.j1 kj15 a0 l1 a2 a3 a4 a5 t1078 t1079 t1085 τ))))) else (some φ))))=some r:=by rw [if_neg (show ¬ (φ=τ) by decide)] at H;exact H
       clear H
       have H:=H1
       clear H1
       replace H:=Option.bind_eq_some_iff.mp H
       obtain ⟨t1090,A330,H⟩:=H
       replace H:((laws_eqPairS.f kj15 t1082 t1090).bind fun t1093=>(if t1093=τ then ((laws_markPairS.f kj15 t1082 1).bind fun bt1094=>(if bt1094.1<0 then (laws_FnExactAddPool.j1 kj15 a0 l1 a2 a3 a4 a5 t1078 t1079 t1085 τ) else ((laws_eqPairS.f kj15 t1085 t1078).bind fun t1096=>(if t1096=τ then (laws_FnExactAddPool.j1 kj15 a0 l1 a2 a3 a4 a5 t1078 t1079 t1085 (t1086 != t1079)) else (laws_FnExactAddPool.j1 kj15 a0 l1 a2 a3 a4 a5 t1078 t1079 t1085 τ))))) else (some φ)))=some r:=H
       have A33:=ζa A330
       clear A330
       replace H:=Option.bind_eq_some_iff.mp H
       obtain ⟨t1093,A340,H⟩:=H
       replace H:(if t1093=τ then ((laws_markPairS.f kj15 t1082 1).bind fun bt1094=>(if bt1094.1<0 then (laws_FnExactAddPool.j1 kj15 a0 l1 a2 a3 a4 a5 t1078 t1079 t1085 τ) else ((laws_eqPairS.f kj15 t1085 t1078).bind fun t1096=>(if t1096=τ then (laws_FnExactAddPool.j1 kj15 a0 l1 a2 a3 a4 a5 t1078 t1079 t1085 (t1086 != t1079)) else (laws_FnExactAddPool.j1 kj15 a0 l1 a2 a3 a4 a5 t1078 t1079 t1085 τ))))) else (some φ))=some r:=H
       have A34:=ζa A340
       clear A340
       by_cases c35:t1093=τ
       ·
        subst c35
        have H1:((laws_markPairS.f kj15 t1082 1).bind fun bt1094=>(if bt1094.1<0 then (laws_FnExactAddPool.j1 kj15 a0 l1 a2 a3 a4 a5 t1078 t1079 t1085 τ) else ((laws_eqPairS.f kj15 t1085 t1078).bind fun t1096=>(if t1096=τ then (laws_FnExactAddPool.j1 kj15 a0 l1 a2 a3 a4 a5 t1078 t1079 t1085 (t1086 != t1079)) else (laws_FnExactAddPool.j1 kj15 a0 l1 a2 a3 a4 a5 t1078 t1079 t1085 τ)))))=some r:=by rw [if_pos rfl] at H;exact H
        clear H
        have H:=H1
        clear H1
        replace H:=Option.bind_eq_some_iff.mp H
        obtain ⟨⟨t1094,t1095⟩,A360,H⟩:=H
        replace H:(if t1094<0 then (laws_FnExactAddPool.j1 kj15 a0 l1 a2 a3 a4 a5 t1078 t1079 t1085 τ) else ((laws_eqPairS.f kj15 t1085 t1078).bind fun t1096=>(if t1096=τ then (laws_FnExactAddPool.j1 kj15 a0 l1 a2 a3 a4 a5 t1078 t1079 t1085 (t1086 != t1079)) else (laws_FnExactAddPool.j1 kj15 a0 l1 a2 a3 a4 a5 t1078 t1079 t1085 τ))))=some r:=H
        have A36:=ζa A360
        clear A360
        have HC37:=ζa H
        clear H
        go_upto_region 18 with (first|((with_reducible refine δv (f:=16) rfl ?_);refine goesL_ (some 69) rfl rfl Tryz.func16 (by kernel_rfl) rfl #[.slice A1 l1.length c1] rfl (by (try simp only [δd,δe,δf]);rfl) ?_;(with_reducible refine (laws_toPairS.calls kj15 _ _ l1 t1090 _ ?side1 ?side2 A33.out).mono ?_);(case side1=>repeat (exact (Kd.C_below HR1.out HB.out)));(case side2=>exact HC1.out);rintro e w38 ⟨v1091,rfl,ho0,hb⟩;refine ⟨_,rfl,?_⟩;have HO1092:=ζa (Kd.R_lower (Kd.R_new' (Kd.R_new' (Kd.R_new' ho0 (Kd.R_lt (by exact HO_14.out))) (Kd.R_lt (by exact HO_16.out))) (Kd.R_lt (by exact HO_17.out))) (δs (by exact HB.out)));replace HO_14:=ζa (Kd.R_elder' (by exact HO_14.out) (Kd.R_base ho0) hb);replace HO_16:=ζa (Kd.R_elder' (by exact HO_16.out) (Kd.R_base ho0) hb);replace HO_17:=ζa (Kd.R_elder' (by exact HO_17.out) (Kd.R_base ho0) hb);replace HB:=ζa (δr (by exact HB.out) hb);(try clear hb);(try clear hb2);(try clear hk);(try clear hi);(try clear ho0);obtain ⟨Ao39,co39,eo39⟩:=Kd.R_slice HO1092.out;subst eo39)|((with_reducible refine δv (f:=18) rfl ?_);refine goesL_ (some 70) rfl rfl Tryz.func18 (by kernel_rfl) rfl #[.slice Ao22 t1082.length co22,.slice Ao39 t1090.length co39] rfl (by (try simp only [δd,δe,δf]);rfl) ?_;(with_reducible refine (laws_eqPairS.calls kj15 _ _ t1082 _ _ t1090 τ _ ?side1 ?side2 ?side3 ?side4 A34.out).mono ?_);(case side1=>repeat (exact (ζg HO_16.out).2.2));(case side2=>exact (ζg HO_16.out).2.1);(case side3=>repeat (exact (ζg HO1092.out).2.2));(case side4=>exact (ζg HO1092.out).2.1);rintro e w40 ⟨rfl,hb⟩;refine ⟨_,rfl,?_⟩;replace HO_14:=ζa (ζh (by exact HO_14.out) hb);replace HO_16:=ζa (ζh (by exact HO_16.out) hb);replace HO_17:=ζa (ζh (by exact HO_17.out) hb);replace HO1092:=ζa (ζh (by exact HO1092.out) hb);replace HB:=ζa (δr (by exact HB.out) hb);(try clear hb);(try clear hb2);(try clear hk);(try clear hi))|((with_reducible refine δv (f:=19) rfl ?_);refine goesL_ (some 74) rfl rfl Tryz.func19 (by kernel_rfl) rfl #[.slice Ao22 t1082.length co22,.int .i64 1] rfl (by (try simp only [δd,δe,δf]);rfl) ?_;(with_reducible refine (laws_markPairS.calls kj15 (fun k_=>some k_=(.slice Ao22 t1082.length co22:Value).ownBlock) (.slice Ao22 t1082.length co22) t1082 1 t1094 t1095 w _ ?side1 ?side2 A36.out).mono ?_);(case side1=>repeat ((with_reducible exact HB.out)));(case side2=>exact Kd.R_tight rfl HO_16.out);rintro e w41 ⟨rfl,hy0,hb,hkp⟩;refine ⟨_,rfl,?_⟩;replace HO_14:=ζa (Kd.R_mono (ok':=fun k_=>some k_≠(.slice Ao22 t1082.length co22:Value).ownBlock∧some k_≠(v1087:Value).ownBlock∧some k_≠(.slice Ao39 t1090.length co39:Value).ownBlock) (Kd.R_keptB (HO_14.out) hkp (fun k_ hk_ hs_=>(hk_.1.1) hs_)) (fun k_ hk_=>⟨hk_.1.1.1,hk_.1.1.2,hk_.1.2⟩));replace HO_16:=ζa (Kd.R_reok rfl hy0 (fun k_ e_=>HO_16.out.1 k_ e_));replace HO_17:=ζa (Kd.R_mono (ok':=fun k_=>some k_≠(v1080:Value).ownBlock∧some k_≠(.slice Ao22 t1082.length co22:Value).ownBlock∧some k_≠(.slice Ao39 t1090.length co39:Value).ownBlock) (Kd.R_keptB (HO_17.out) hkp (fun k_ hk_ hs_=>(hk_.1.2) hs_)) (fun k_ hk_=>⟨hk_.1.1.1,hk_.1.1.2,hk_.1.2⟩));replace HO1092:=ζa (Kd.R_mono (ok':=fun k_=>some k_≠(v1080:Value).ownBlock∧some k_≠(.slice Ao22 t1082.length co22:Value).ownBlock∧some k_≠(v1087:Value).ownBlock) (Kd.R_keptB (HO1092.out) hkp (fun k_ hk_ hs_=>(hk_.1.2) hs_)) (fun k_ hk_=>⟨hk_.1.1.1.2,hk_.1.1.2,hk_.1.2⟩));replace HB:=ζa (hb);(try clear hb);(try clear hkp);(try clear hy0)))
        (try simp only [ζl,δa,δb,δc])
        go_cut [87] (fun v87 wc => ∃ (kq:Nat) (x87_36:Bool),v87 = .bool x87_36∧Aside0 (laws_FnExactAddPool.j1 kq a0 l1 a2 a3 a4 a5 t1078 t1079 t1085 x87_36=some r)∧Aside0 (kq≤kj15)∧Aside0 (Kd.R k51 51 wc w.heap.size (fun k_=>some k_≠(v1087:Value).ownBlock) v1080 t1078)∧Aside0 (Kd.R k51 51 wc w.heap.size (fun k_=>some k_≠(v1080:Value).ownBlock) v1087 t1085)∧Aside0 (Below w.heap.size w wc))
        case first =>
         have H:=HC37.out
         clear HC37
         by_cases c42:t1094<0
         ·
          rw [if_pos c42] at H
          have c42b0:decide (t1094<0)=τ:=decide_eq_true c42
          clear c42
          (skip)
          have H':=ζa H
          clear H
          go_wp2
          go_meet
          case rel=>exact ⟨_,(τ),(by rfl),H',⟨by have:=HJ15.out;omega⟩,⟨by exact Kd.R_mono HO_14.out (fun _ hk=>hk.2.1)⟩,⟨by exact Kd.R_mono HO_17.out (fun _ hk=>hk.1)⟩,⟨by repeat ((with_reducible exact HB.out))⟩⟩
         ·
          rw [if_neg c42] at H
          have c42b0:decide (t1094<0)=φ:=decide_eq_false c42
          clear c42
          (skip)
          replace H:=Option.bind_eq_some_iff.mp H
          obtain ⟨t1096,A430,H⟩:=H
          replace H:(if t1096=τ then (laws_FnExactAddPool.j1 kj15 a0 l1 a2 a3 a4 a5 t1078 t1079 t1085 (t1086 != t1079)) else (laws_FnExactAddPool.j1 kj15 a0 l1 a2 a3 a4 a5 t1078 t1079 t1085 τ))=some r:=H
          have A43:=ζa A430
          clear A430
          by_cases c44:t1096=τ
          ·
           subst c44
           have H1:(laws_FnExactAddPool.j1 kj15 a0 l1 a2 a3 a4 a5 t1078 t1079 t1085 (t1086 != t1079))=some r:=by rw [if_pos rfl] at H;exact H
           clear H
           have H:=H1
           clear H1
           have H':=ζa H
           clear H
           obtain ⟨Ao45,co45,eo45⟩:=Kd.R_slice HO_17.out
           subst eo45
           obtain ⟨Ao46,co46,eo46⟩:=Kd.R_slice HO_14.out
           subst eo46
           go_wp2_with ((go_at_call 18;(with_reducible refine (laws_eqPairS.calls kj15 _ _ t1085 _ _ t1078 τ _ ?side1 ?side2 ?side3 ?side4 A43.out).mono ?_);(case side1=>repeat (exact (ζg HO_17.out).2.2));(case side2=>exact (ζg HO_17.out).2.1);(case side3=>repeat (exact (ζg HO_14.out).2.2));(case side4=>exact (ζg HO_14.out).2.1);rintro e w47 ⟨rfl,hb⟩;replace HO_14:=ζa (ζh (by exact HO_14.out) hb);replace HO_16:=ζa (ζh (by exact HO_16.out) hb);replace HO_17:=ζa (ζh (by exact HO_17.out) hb);replace HO1092:=ζa (ζh (by exact HO1092.out) hb);replace HB:=ζa (δr (by exact HB.out) hb);(try clear hb);(try clear hb2);(try clear hk);(try clear hi)))
           go_meet
           case rel=>exact ⟨_,((t1086 != t1079)),(by rfl),H',⟨by have:=HJ15.out;omega⟩,⟨by exact Kd.R_mono HO_14.out (fun _ hk=>hk.2.1)⟩,⟨by exact Kd.R_mono HO_17.out (fun _ hk=>hk.1)⟩,⟨by repeat ((with_reducible exact HB.out))⟩⟩
          ·
           replace c44:=Bool.eq_false_iff.mpr c44
           subst c44
           have H1:(laws_FnExactAddPool.j1 kj15 a0 l1 a2 a3 a4 a5 t1078 t1079 t1085 τ)=some r:=by rw [if_neg (show ¬ (φ=τ) by decide)] at H;exact H
           clear H
           have H:=H1
           clear H1
           have H':=ζa H
           clear H
           obtain ⟨Ao48,co48,eo48⟩:=Kd.R_slice HO_17.out
           subst eo48
           obtain ⟨Ao49,co49,eo49⟩:=Kd.R_slice HO_14.out
           subst eo49
           go_wp2_with ((go_at_call 18;(with_reducible refine (laws_eqPairS.calls kj15 _ _ t1085 _ _ t1078 φ _ ?side1 ?side2 ?side3 ?side4 A43.out).mono ?_);(case side1=>repeat (exact (ζg HO_17.out).2.2));(case side2=>exact (ζg HO_17.out).2.1);(case side3=>repeat (exact (ζg HO_14.out).2.2));(case side4=>exact (ζg HO_14.out).2.1);rintro e w50 ⟨rfl,hb⟩;replace HO_14:=ζa (ζh (by exact HO_14.out) hb);replace HO_16:=ζa (ζh (by exact HO_16.out) hb);replace HO_17:=ζa (ζh (by exact HO_17.out) hb);replace HO1092:=ζa (ζh (by exact HO1092.out) hb);replace HB:=ζa (δr (by exact HB.out) hb);(try clear hb);(try clear hb2);(try clear hk);(try clear hi)))
           go_meet
           case rel=>exact ⟨_,(τ),(by rfl),H',⟨by have:=HJ15.out;omega⟩,⟨by exact Kd.R_mono HO_14.out (fun _ hk=>hk.2.1)⟩,⟨by exact Kd.R_mono HO_17.out (fun _ hk=>hk.1)⟩,⟨by repeat ((with_reducible exact HB.out))⟩⟩
        case rest =>
         clear HC37
         try clear c1
         try clear c2
         try clear p2
         try clear c3
         try clear c4
         try clear c7
         try clear c7b0
         try clear c7b1
         try clear c8
         try clear c8b0
         try clear c8b1
         try clear c10
         try clear c10b0
         try clear c13
         try clear c14
         try clear c16
         try clear c18
         try clear c19
         try clear c25
         try clear c32
         try clear c35
         try clear c39
         try clear c40
         try clear c42
         try clear c42b0
         try clear c44
         try clear p2
         obtain ⟨kq,x87_36,rfl,HA,HJ36,HO_14,HO_17,HB⟩:=hcut
         cases kq with
         | zero=>exact absurd HA.out (by simp [laws_FnExactAddPool.j1])
         | succ kj36 =>
          have H:=HA.out
          clear HA
          simp only [laws_FnExactAddPool.j1] at H
          by_cases c51:x87_36=τ
          ·
           subst c51
           have H1:(some φ)=some r:=by rw [if_pos rfl] at H;exact H
           clear H
           have H:=H1
           clear H1
           obtain rfl:=Option.some.inj H
           go_wp2
           go_ret
           exact ⟨by rfl,by repeat ((with_reducible exact HB.out))⟩
          ·
           replace c51:=Bool.eq_false_iff.mpr c51
           subst c51
           have H1:((laws_markPairS.f kj36 t1085 1).bind fun bt1097=>((laws_heldPairS.f kj36 bt1097.2 1).bind fun t1099=>(if t1099<0 then (some φ) else (if t1099=bt1097.1 then ((laws_toPairS.f kj36 l1).bind fun t1100=>((impl_AddPool.f kj36 a0 t1100 a2 a3 a4 a5).bind fun bt1103=>((laws_eqPairS.f kj36 bt1103.1 t1078).bind fun t1107=>(if t1107=τ then (laws_FnExactAddPool.j2 kj36 bt1097.2 bt1097.1 (bt1103.2 != t1079)) else (laws_FnExactAddPool.j2 kj36 bt1097.2 bt1097.1 τ))))) else (some φ)))))=some r:=by rw [if_neg (show ¬ (φ=τ) by decide)] at H;exact H
           clear H
           have H:=H1
           clear H1
           replace H:=Option.bind_eq_some_iff.mp H
           obtain ⟨⟨t1097,t1098⟩,A520,H⟩:=H
           replace H:((laws_heldPairS.f kj36 t1098 1).bind fun t1099=>(if t1099<0 then (some φ) else (if t1099=t1097 then ((laws_toPairS.f kj36 l1).bind fun t1100=>((impl_AddPool.f kj36 a0 t1100 a2 a3 a4 a5).bind fun bt1103=>((laws_eqPairS.f kj36 bt1103.1 t1078).bind fun t1107=>(if t1107=τ then (laws_FnExactAddPool.j2 kj36 t1098 t1097 (bt1103.2 != t1079)) else (laws_FnExactAddPool.j2 kj36 t1098 t1097 τ))))) else (some φ))))=some r:=H
           have A52:=ζa A520
           clear A520
           replace H:=Option.bind_eq_some_iff.mp H
           obtain ⟨t1099,A530,H⟩:=H
           replace H:(if t1099<0 then (some φ) else (if t1099=t1097 then ((laws_toPairS.f kj36 l1).bind fun t1100=>((impl_AddPool.f kj36 a0 t1100 a2 a3 a4 a5).bind fun bt1103=>((laws_eqPairS.f kj36 bt1103.1 t1078).bind fun t1107=>(if t1107=τ then (laws_FnExactAddPool.j2 kj36 t1098 t1097 (bt1103.2 != t1079)) else (laws_FnExactAddPool.j2 kj36 t1098 t1097 τ))))) else (some φ)))=some r:=H
           have A53:=ζa A530
           clear A530
           by_cases c54:t1099<0
           ·
            rw [if_pos c54] at H
            have c54b0:decide (t1099<0)=τ:=decide_eq_true c54
            clear c54
            obtain rfl:=Option.some.inj H
            obtain ⟨Ao55,co55,eo55⟩:=Kd.R_slice HO_17.out
            subst eo55
            go_wp2_with (first|((with_reducible refine δv (f:=19) rfl ?_);refine goesL_ (some 90) rfl rfl Tryz.func19 (by kernel_rfl) rfl #[.slice Ao55 t1085.length co55,.int .i64 1] rfl (by (try simp only [δd,δe,δf]);rfl) ?_;(with_reducible refine (laws_markPairS.calls kj36 (fun k_=>some k_=(.slice Ao55 t1085.length co55:Value).ownBlock) (.slice Ao55 t1085.length co55) t1085 1 t1097 t1098 w _ ?side1 ?side2 A52.out).mono ?_);(case side1=>repeat ((with_reducible exact HB.out)));(case side2=>exact Kd.R_tight rfl HO_17.out);rintro e w56 ⟨rfl,hy0,hb,hkp⟩;refine ⟨_,rfl,?_⟩;replace HO_14:=ζa (Kd.R_mono (ok':=fun k_=>some k_≠(.slice Ao55 t1085.length co55:Value).ownBlock) (Kd.R_keptB (HO_14.out) hkp (fun k_ hk_ hs_=>(hk_) hs_)) (fun k_ hk_=>hk_.1));replace HO_17:=ζa (Kd.R_reok rfl hy0 (fun k_ e_=>HO_17.out.1 k_ e_));replace HB:=ζa (hb);(try clear hb);(try clear hkp);(try clear hy0))|((with_reducible refine δv (f:=20) rfl ?_);refine goesL_ (some 93) rfl rfl Tryz.func20 (by kernel_rfl) rfl #[.slice Ao55 t1098.length co55,.int .i64 1] rfl (by (try simp only [δd,δe,δf]);first|(rw [show t1098.length=t1085.length from (ζg HO_17.out).1.symm] <;> rfl)) ?_;(with_reducible refine (laws_heldPairS.calls kj36 _ _ t1098 1 t1099 _ ?side1 ?side2 A53.out).mono ?_);(case side1=>repeat (exact (ζg HO_17.out).2.2));(case side2=>rw [show t1098.length=t1085.length from (ζg HO_17.out).1.symm];exact (ζg HO_17.out).2.1);rintro e w57 ⟨rfl,hb⟩;refine ⟨_,rfl,?_⟩;replace HO_14:=ζa (ζh (by exact HO_14.out) hb);replace HO_17:=ζa (ζh (by exact HO_17.out) hb);replace HB:=ζa (δr (by exact HB.out) hb);(try clear hb);(try clear hb2);(try clear hk);(try clear hi)))
            go_ret
            exact ⟨by rfl,by repeat ((with_reducible exact HB.out))⟩
           ·
            rw [if_neg c54] at H
            have c54b0:decide (t1099<0)=φ:=decide_eq_false c54
            clear c54
            by_cases c58:t1099=t1097
            ·
             rw [if_pos c58] at H
             have c58b0:(t1099 == t1097)=τ:=beq_iff_eq.mpr c58
             have c58b1:(t1099 != t1097)=φ:=bne_eq_false_iff_eq.mpr c58
             clear c58
             replace H:=Option.bind_eq_some_iff.mp H
             obtain ⟨t1100,A590,H⟩:=H
             replace H:((impl_AddPool.f kj36 a0 t1100 a2 a3 a4 a5).bind fun bt1103=>((laws_eqPairS.f kj36 bt1103.1 t1078).bind fun t1107=>(if t1107=τ then (laws_FnExactAddPool.j2 kj36 t1098 t1097 (bt1103.2 != t1079)) else (laws_FnExactAddPool.j2 kj36 t1098 t1097 τ))))=some r:=H
             have A59:=ζa A590
             clear A590
             replace H:=Option.bind_eq_some_iff.mp H
             obtain ⟨⟨t1103,t1104⟩,A600,H⟩:=H
             replace H:((laws_eqPairS.f kj36 t1103 t1078).bind fun t1107=>(if t1107=τ then (laws_FnExactAddPool.j2 kj36 t1098 t1097 (t1104 != t1079)) else (laws_FnExactAddPool.j2 kj36 t1098 t1097 τ)))=some r:=H
             have A60:=ζa A600
             clear A600
             have HC61:=ζa H
             clear H
             obtain ⟨Ao62,co62,eo62⟩:=Kd.R_slice HO_17.out
             subst eo62
             go_upto_region 29 with (first|((with_reducible refine δv (f:=19) rfl ?_);refine goesL_ (some 90) rfl rfl Tryz.func19 (by kernel_rfl) rfl #[.slice Ao62 t1085.length co62,.int .i64 1] rfl (by (try simp only [δd,δe,δf]);rfl) ?_;(with_reducible refine (laws_markPairS.calls kj36 (fun k_=>some k_=(.slice Ao62 t1085.length co62:Value).ownBlock) (.slice Ao62 t1085.length co62) t1085 1 t1097 t1098 w _ ?side1 ?side2 A52.out).mono ?_);(case side1=>repeat ((with_reducible exact HB.out)));(case side2=>exact Kd.R_tight rfl HO_17.out);rintro e w63 ⟨rfl,hy0,hb,hkp⟩;refine ⟨_,rfl,?_⟩;replace HO_14:=ζa (Kd.R_mono (ok':=fun k_=>some k_≠(.slice Ao62 t1085.length co62:Value).ownBlock) (Kd.R_keptB (HO_14.out) hkp (fun k_ hk_ hs_=>(hk_) hs_)) (fun k_ hk_=>hk_.1));replace HO_17:=ζa (Kd.R_reok rfl hy0 (fun k_ e_=>HO_17.out.1 k_ e_));replace HB:=ζa (hb);(try clear hb);(try clear hkp);(try clear hy0))|((with_reducible refine δv (f:=20) rfl ?_);refine goesL_ (some 93) rfl rfl Tryz.func20 (by kernel_rfl) rfl #[.slice Ao62 t1098.length co62,.int .i64 1] rfl (by (try simp only [δd,δe,δf]);first|(rw [show t1098.length=t1085.length from (ζg HO_17.out).1.symm] <;> rfl)) ?_;(with_reducible refine (laws_heldPairS.calls kj36 _ _ t1098 1 t1099 _ ?side1 ?side2 A53.out).mono ?_);(case side1=>repeat (exact (ζg HO_17.out).2.2));(case side2=>rw [show t1098.length=t1085.length from (ζg HO_17.out).1.symm];exact (ζg HO_17.out).2.1);rintro e w64 ⟨rfl,hb⟩;refine ⟨_,rfl,?_⟩;replace HO_14:=ζa (ζh (by exact HO_14.out) hb);replace HO_17:=ζa (ζh (by exact HO_17.out) hb);replace HB:=ζa (δr (by exact HB.out) hb);(try clear hb);(try clear hb2);(try clear hk);(try clear hi))|((with_reducible refine δv (f:=16) rfl ?_);refine goesL_ (some 102) rfl rfl Tryz.func16 (by kernel_rfl) rfl #[.slice A1 l1.length c1] rfl (by (try simp only [δd,δe,δf]);rfl) ?_;(with_reducible refine (laws_toPairS.calls kj36 _ _ l1 t1100 _ ?side1 ?side2 A59.out).mono ?_);(case side1=>repeat (exact (Kd.C_below HR1.out HB.out)));(case side2=>exact HC1.out);rintro e w65 ⟨v1101,rfl,ho0,hb⟩;refine ⟨_,rfl,?_⟩;have HO1102:=ζa (Kd.R_lower (Kd.R_new' (Kd.R_new' ho0 (Kd.R_lt (by exact HO_14.out))) (Kd.R_lt (by exact HO_17.out))) (δs (by exact HB.out)));replace HO_14:=ζa (Kd.R_elder' (by exact HO_14.out) (Kd.R_base ho0) hb);replace HO_17:=ζa (Kd.R_elder' (by exact HO_17.out) (Kd.R_base ho0) hb);replace HB:=ζa (δr (by exact HB.out) hb);(try clear hb);(try clear hb2);(try clear hk);(try clear hi);(try clear ho0);obtain ⟨Ao66,co66,eo66⟩:=Kd.R_slice HO1102.out;subst eo66)|((with_reducible refine δv (f:=40) rfl ?_);refine goesL_ (some 107) rfl rfl Tryz.func40 (by kernel_rfl) rfl #[.string a0,.slice Ao66 t1100.length co66,.string a2,.int .i64 a3,.int .i64 a4,.int .i64 a5] rfl (by (try simp only [δd,δe,δf]);rfl) ?_;(with_reducible refine (impl_AddPool.calls kj36 a0 _ _ t1100 a2 a3 a4 a5 t1103 t1104 _ ?side1 ?side2 (HT0.out.below (by exact HB.out)) A60.out).mono ?_);(case side1=>repeat (exact (ζg HO1102.out).2.2));(case side2=>exact (ζg HO1102.out).2.1);rintro e w67 ⟨v1105,rfl,ho0,hb⟩;refine ⟨_,rfl,?_⟩;have HO1106:=ζa (Kd.R_lower (Kd.R_new' (Kd.R_new' (Kd.R_new' ho0 (Kd.R_lt (by exact HO_14.out))) (Kd.R_lt (by exact HO_17.out))) (Kd.R_lt (by exact HO1102.out))) (δs (by exact HB.out)));replace HO_14:=ζa (Kd.R_elder' (by exact HO_14.out) (Kd.R_base ho0) hb);replace HO_17:=ζa (Kd.R_elder' (by exact HO_17.out) (Kd.R_base ho0) hb);replace HO1102:=ζa (Kd.R_elder' (by exact HO1102.out) (Kd.R_base ho0) hb);replace HB:=ζa (δr (by exact HB.out) hb);(try clear hb);(try clear hb2);(try clear hk);(try clear hi);(try clear ho0)))
             (try simp only [ζl,δa,δb,δc])
             go_cut [118] (fun v118 wc => ∃ (kq:Nat) (x118_60:Bool),v118 = .bool x118_60∧Aside0 (laws_FnExactAddPool.j2 kq t1098 t1097 x118_60=some r)∧Aside0 (kq≤kj36)∧Aside0 (Kd.R k51 51 wc w.heap.size (fun _=>True) (.slice Ao62 t1085.length co62) t1098)∧Aside0 (Below w.heap.size w wc))
             case first =>
              have H:=HC61.out
              clear HC61
              replace H:=Option.bind_eq_some_iff.mp H
              obtain ⟨t1107,A680,H⟩:=H
              replace H:(if t1107=τ then (laws_FnExactAddPool.j2 kj36 t1098 t1097 (t1104 != t1079)) else (laws_FnExactAddPool.j2 kj36 t1098 t1097 τ))=some r:=H
              have A68:=ζa A680
              clear A680
              by_cases c69:t1107=τ
              ·
               subst c69
               have H1:(laws_FnExactAddPool.j2 kj36 t1098 t1097 (t1104 != t1079))=some r:=by rw [if_pos rfl] at H;exact H
               clear H
               have H:=H1
               clear H1
               have H':=ζa H
               clear H
               obtain ⟨Ao70,co70,eo70⟩:=Kd.R_slice HO1106.out
               subst eo70
               obtain ⟨Ao71,co71,eo71⟩:=Kd.R_slice HO_14.out
               subst eo71
               go_wp2_with (((with_reducible refine δv (f:=18) rfl ?_);refine goesL_ (some 112) rfl rfl Tryz.func18 (by kernel_rfl) rfl #[.slice Ao70 t1103.length co70,.slice Ao71 t1078.length co71] rfl (by (try simp only [δd,δe,δf]);rfl) ?_;(with_reducible refine (laws_eqPairS.calls kj36 _ _ t1103 _ _ t1078 τ _ ?side1 ?side2 ?side3 ?side4 A68.out).mono ?_);(case side1=>repeat (exact (ζg HO1106.out).2.2));(case side2=>exact (ζg HO1106.out).2.1);(case side3=>repeat (exact (ζg HO_14.out).2.2));(case side4=>exact (ζg HO_14.out).2.1);rintro e w72 ⟨rfl,hb⟩;refine ⟨_,rfl,?_⟩;replace HO_14:=ζa (ζh (by exact HO_14.out) hb);replace HO_17:=ζa (ζh (by exact HO_17.out) hb);replace HO1102:=ζa (ζh (by exact HO1102.out) hb);replace HO1106:=ζa (ζh (by exact HO1106.out) hb);replace HB:=ζa (δr (by exact HB.out) hb);(try clear hb);(try clear hb2);(try clear hk);(try clear hi)))
               go_meet
               case rel=>exact ⟨_,((t1104 != t1079)),(by rfl),H',⟨by have:=HJ15.out;have:=HJ36.out;omega⟩,⟨by exact Kd.R_mono HO_17.out (fun _ hk=>trivial)⟩,⟨by repeat ((with_reducible exact HB.out))⟩⟩
              ·
               replace c69:=Bool.eq_false_iff.mpr c69
               subst c69
               have H1:(laws_FnExactAddPool.j2 kj36 t1098 t1097 τ)=some r:=by rw [if_neg (show ¬ (φ=τ) by decide)] at H;exact H
               clear H
               have H:=H1
               clear H1
               have H':=ζa H
               clear H
               obtain ⟨Ao73,co73,eo73⟩:=Kd.R_slice HO1106.out
               subst eo73
               obtain ⟨Ao74,co74,eo74⟩:=Kd.R_slice HO_14.out
               subst eo74
               go_wp2_with (((with_reducible refine δv (f:=18) rfl ?_);refine goesL_ (some 112) rfl rfl Tryz.func18 (by kernel_rfl) rfl #[.slice Ao73 t1103.length co73,.slice Ao74 t1078.length co74] rfl (by (try simp only [δd,δe,δf]);rfl) ?_;(with_reducible refine (laws_eqPairS.calls kj36 _ _ t1103 _ _ t1078 φ _ ?side1 ?side2 ?side3 ?side4 A68.out).mono ?_);(case side1=>repeat (exact (ζg HO1106.out).2.2));(case side2=>exact (ζg HO1106.out).2.1);(case side3=>repeat (exact (ζg HO_14.out).2.2));(case side4=>exact (ζg HO_14.out).2.1);rintro e w75 ⟨rfl,hb⟩;refine ⟨_,rfl,?_⟩;replace HO_14:=ζa (ζh (by exact HO_14.out) hb);replace HO_17:=ζa (ζh (by exact HO_17.out) hb);replace HO1102:=ζa (ζh (by exact HO1102.out) hb);replace HO1106:=ζa (ζh (by exact HO1106.out) hb);replace HB:=ζa (δr (by exact HB.out) hb);(try clear hb);(try clear hb2);(try clear hk);(try clear hi)))
               go_meet
               case rel=>exact ⟨_,(τ),(by rfl),H',⟨by have:=HJ15.out;have:=HJ36.out;omega⟩,⟨by exact Kd.R_mono HO_17.out (fun _ hk=>trivial)⟩,⟨by repeat ((with_reducible exact HB.out))⟩⟩
             case rest =>
              clear HC61
              try clear c1
              try clear c2
              try clear p2
              try clear c3
              try clear c4
              try clear c5
              try clear c6
              try clear c7
              try clear c7b0
              try clear c7b1
              try clear c8
              try clear c8b0
              try clear c8b1
              try clear c10
              try clear c10b0
              try clear c13
              try clear c14
              try clear c16
              try clear c18
              try clear c19
              try clear c20
              try clear c25
              try clear c32
              try clear c35
              try clear c39
              try clear c40
              try clear c42
              try clear c42b0
              try clear c44
              try clear c51
              try clear c54
              try clear c54b0
              try clear c58
              try clear c58b0
              try clear c58b1
              try clear c69
              try clear p2
              obtain ⟨kq,x118_60,rfl,HA,HJ60,HO_17,HB⟩:=hcut
              have hl17_60:=(ζg HO_17.out).1
              rw [hl17_60] at HO_17
              (try simp only [hl17_60])
              cases kq with
              | zero=>exact absurd HA.out (by simp [laws_FnExactAddPool.j2])
              | succ kj60 =>
               have H:=HA.out
               clear HA
               simp only [laws_FnExactAddPool.j2] at H
               by_cases c76:x118_60=τ
               ·
                subst c76
                have H1:(some φ)=some r:=by rw [if_pos rfl] at H;exact H
                clear H
                have H:=H1
                clear H1
                obtain rfl:=Option.some.inj H
                go_wp2
                go_ret
                exact ⟨by rfl,by repeat ((with_reducible exact HB.out))⟩
               ·
                replace c76:=Bool.eq_false_iff.mpr c76
                subst c76
                have H1:((laws_heldPairS.f kj60 t1098 1).bind fun t1108=>(if t1108<0 then (some φ) else (if t1108=t1097 then (some τ) else (some φ))))=some r:=by rw [if_neg (show ¬ (φ=τ) by decide)] at H;exact H
                clear H
                have H:=H1
                clear H1
                replace H:=Option.bind_eq_some_iff.mp H
                obtain ⟨t1108,A770,H⟩:=H
                replace H:(if t1108<0 then (some φ) else (if t1108=t1097 then (some τ) else (some φ)))=some r:=H
                have A77:=ζa A770
                clear A770
                by_cases c78:t1108<0
                ·
                 rw [if_pos c78] at H
                 have c78b0:decide (t1108<0)=τ:=decide_eq_true c78
                 clear c78
                 obtain rfl:=Option.some.inj H
                 go_wp2_with (((with_reducible refine δv (f:=20) rfl ?_);refine goesL_ (some 121) rfl rfl Tryz.func20 (by kernel_rfl) rfl #[.slice Ao62 t1098.length co62,.int .i64 1] rfl (by (try simp only [δd,δe,δf]);rfl) ?_;(with_reducible refine (laws_heldPairS.calls kj60 _ _ t1098 1 t1108 _ ?side1 ?side2 A77.out).mono ?_);(case side1=>repeat (exact (ζg HO_17.out).2.2));(case side2=>exact (ζg HO_17.out).2.1);rintro e w79 ⟨rfl,hb⟩;refine ⟨_,rfl,?_⟩;replace HO_17:=ζa (ζh (by exact HO_17.out) hb);replace HB:=ζa (δr (by exact HB.out) hb);(try clear hb);(try clear hb2);(try clear hk);(try clear hi)))
                 go_ret
                 exact ⟨by rfl,by repeat ((with_reducible exact HB.out))⟩
                ·
                 rw [if_neg c78] at H
                 have c78b0:decide (t1108<0)=φ:=decide_eq_false c78
                 clear c78
                 by_cases c80:t1108=t1097
                 ·
                  rw [if_pos c80] at H
                  have c80b0:(t1108 == t1097)=τ:=beq_iff_eq.mpr c80
                  have c80b1:(t1108 != t1097)=φ:=bne_eq_false_iff_eq.mpr c80
                  clear c80
                  obtain rfl:=Option.some.inj H
                  go_wp2_with (((with_reducible refine δv (f:=20) rfl ?_);refine goesL_ (some 121) rfl rfl Tryz.func20 (by kernel_rfl) rfl #[.slice Ao62 t1098.length co62,.int .i64 1] rfl (by (try simp only [δd,δe,δf]);rfl) ?_;(with_reducible refine (laws_heldPairS.calls kj60 _ _ t1098 1 t1108 _ ?side1 ?side2 A77.out).mono ?_);(case side1=>repeat (exact (ζg HO_17.out).2.2));(case side2=>exact (ζg HO_17.out).2.1);rintro e w81 ⟨rfl,hb⟩;refine ⟨_,rfl,?_⟩;replace HO_17:=ζa (ζh (by exact HO_17.out) hb);replace HB:=ζa (δr (by exact HB.out) hb);(try clear hb);(try clear hb2);(try clear hk);(try clear hi)))
                  go_ret
                  exact ⟨by rfl,by repeat ((with_reducible exact HB.out))⟩
                 ·
                  rw [if_neg c80] at H
                  have c80b0:(t1108 == t1097)=φ:=beq_eq_false_iff_ne.mpr c80
                  have c80b1:(t1108 != t1097)=τ:=bne_iff_ne.mpr c80
                  obtain rfl:=Option.some.inj H
                  go_wp2_with (((with_reducible refine δv (f:=20) rfl ?_);refine goesL_ (some 121) rfl rfl Tryz.func20 (by kernel_rfl) rfl #[.slice Ao62 t1098.length co62,.int .i64 1] rfl (by (try simp only [δd,δe,δf]);rfl) ?_;(with_reducible refine (laws_heldPairS.calls kj60 _ _ t1098 1 t1108 _ ?side1 ?side2 A77.out).mono ?_);(case side1=>repeat (exact (ζg HO_17.out).2.2));(case side2=>exact (ζg HO_17.out).2.1);rintro e w82 ⟨rfl,hb⟩;refine ⟨_,rfl,?_⟩;replace HO_17:=ζa (ζh (by exact HO_17.out) hb);replace HB:=ζa (δr (by exact HB.out) hb);(try clear hb);(try clear hb2);(try clear hk);(try clear hi)))
                  go_ret
                  exact ⟨by rfl,by repeat ((with_reducible exact HB.out))⟩
            ·
             rw [if_neg c58] at H
             have c58b0:(t1099 == t1097)=φ:=beq_eq_false_iff_ne.mpr c58
             have c58b1:(t1099 != t1097)=τ:=bne_iff_ne.mpr c58
             obtain rfl:=Option.some.inj H
             obtain ⟨Ao83,co83,eo83⟩:=Kd.R_slice HO_17.out
             subst eo83
             go_wp2_with (first|((with_reducible refine δv (f:=19) rfl ?_);refine goesL_ (some 90) rfl rfl Tryz.func19 (by kernel_rfl) rfl #[.slice Ao83 t1085.length co83,.int .i64 1] rfl (by (try simp only [δd,δe,δf]);rfl) ?_;(with_reducible refine (laws_markPairS.calls kj36 (fun k_=>some k_=(.slice Ao83 t1085.length co83:Value).ownBlock) (.slice Ao83 t1085.length co83) t1085 1 t1097 t1098 w _ ?side1 ?side2 A52.out).mono ?_);(case side1=>repeat ((with_reducible exact HB.out)));(case side2=>exact Kd.R_tight rfl HO_17.out);rintro e w84 ⟨rfl,hy0,hb,hkp⟩;refine ⟨_,rfl,?_⟩;replace HO_14:=ζa (Kd.R_mono (ok':=fun k_=>some k_≠(.slice Ao83 t1085.length co83:Value).ownBlock) (Kd.R_keptB (HO_14.out) hkp (fun k_ hk_ hs_=>(hk_) hs_)) (fun k_ hk_=>hk_.1));replace HO_17:=ζa (Kd.R_reok rfl hy0 (fun k_ e_=>HO_17.out.1 k_ e_));replace HB:=ζa (hb);(try clear hb);(try clear hkp);(try clear hy0))|((with_reducible refine δv (f:=20) rfl ?_);refine goesL_ (some 93) rfl rfl Tryz.func20 (by kernel_rfl) rfl #[.slice Ao83 t1098.length co83,.int .i64 1] rfl (by (try simp only [δd,δe,δf]);first|(rw [show t1098.length=t1085.length from (ζg HO_17.out).1.symm] <;> rfl)) ?_;(with_reducible refine (laws_heldPairS.calls kj36 _ _ t1098 1 t1099 _ ?side1 ?side2 A53.out).mono ?_);(case side1=>repeat (exact (ζg HO_17.out).2.2));(case side2=>rw [show t1098.length=t1085.length from (ζg HO_17.out).1.symm];exact (ζg HO_17.out).2.1);rintro e w85 ⟨rfl,hb⟩;refine ⟨_,rfl,?_⟩;replace HO_14:=ζa (ζh (by exact HO_14.out) hb);replace HO_17:=ζa (ζh (by exact HO_17.out) hb);replace HB:=ζa (δr (by exact HB.out) hb);(try clear hb);(try clear hb2);(try clear hk);(try clear hi)))
             go_ret
             exact ⟨by rfl,by repeat ((with_reducible exact HB.out))⟩
       ·
        replace c35:=Bool.eq_false_iff.mpr c35
        subst c35
        have H1:(some φ)=some r:=by rw [if_neg (show ¬ (φ=τ) by decide)] at H;exact H
        clear H
        have H:=H1
        clear H1
        obtain rfl:=Option.some.inj H
        go_wp2_with (first|((with_reducible refine δv (f:=16) rfl ?_);refine goesL_ (some 69) rfl rfl Tryz.func16 (by kernel_rfl) rfl #[.slice A1 l1.length c1] rfl (by (try simp only [δd,δe,δf]);rfl) ?_;(with_reducible refine (laws_toPairS.calls kj15 _ _ l1 t1090 _ ?side1 ?side2 A33.out).mono ?_);(case side1=>repeat (exact (Kd.C_below HR1.out HB.out)));(case side2=>exact HC1.out);rintro e w86 ⟨v1091,rfl,ho0,hb⟩;refine ⟨_,rfl,?_⟩;have HO1092:=ζa (Kd.R_lower (Kd.R_new' (Kd.R_new' (Kd.R_new' ho0 (Kd.R_lt (by exact HO_14.out))) (Kd.R_lt (by exact HO_16.out))) (Kd.R_lt (by exact HO_17.out))) (δs (by exact HB.out)));replace HO_14:=ζa (Kd.R_elder' (by exact HO_14.out) (Kd.R_base ho0) hb);replace HO_16:=ζa (Kd.R_elder' (by exact HO_16.out) (Kd.R_base ho0) hb);replace HO_17:=ζa (Kd.R_elder' (by exact HO_17.out) (Kd.R_base ho0) hb);replace HB:=ζa (δr (by exact HB.out) hb);(try clear hb);(try clear hb2);(try clear hk);(try clear hi);(try clear ho0);obtain ⟨Ao87,co87,eo87⟩:=Kd.R_slice HO1092.out;subst eo87)|((with_reducible refine δv (f:=18) rfl ?_);refine goesL_ (some 70) rfl rfl Tryz.func18 (by kernel_rfl) rfl #[.slice Ao22 t1082.length co22,.slice Ao87 t1090.length co87] rfl (by (try simp only [δd,δe,δf]);rfl) ?_;(with_reducible refine (laws_eqPairS.calls kj15 _ _ t1082 _ _ t1090 φ _ ?side1 ?side2 ?side3 ?side4 A34.out).mono ?_);(case side1=>repeat (exact (ζg HO_16.out).2.2));(case side2=>exact (ζg HO_16.out).2.1);(case side3=>repeat (exact (ζg HO1092.out).2.2));(case side4=>exact (ζg HO1092.out).2.1);rintro e w88 ⟨rfl,hb⟩;refine ⟨_,rfl,?_⟩;replace HO_14:=ζa (ζh (by exact HO_14.out) hb);replace HO_16:=ζa (ζh (by exact HO_16.out) hb);replace HO_17:=ζa (ζh (by exact HO_17.out) hb);replace HO1092:=ζa (ζh (by exact HO1092.out) hb);replace HB:=ζa (δr (by exact HB.out) hb);(try clear hb);(try clear hb2);(try clear hk);(try clear hi)))
        go_ret
        exact ⟨by rfl,by repeat ((with_reducible exact HB.out))⟩


open Go.Proofs.YtabmfhnhmoiljaaGreatDoorW.PrintWords renaming below_drew1 → δj, pw_below_drewN → δi, below_step → δr

/-! ### impl_burn_1_1: function 154 -/
set_option maxHeartbeats 2000000 in
set_option maxRecDepth 100000 in
theorem impl_burn_1_1.calls (k:Nat) (A0:Option Addr) (c0:Nat) (l0:List S51) (pd pa pn_:Addr) (d a:ByteArray) (n_:Int) (r1:List S51) (r2:Int) (w:World) (hr0:Kd.C k51 w A0 l0.length l0) (hc0:l0.length≤c0) (hT0:TabsOK w) (hd:w.cell? pd=some (.string d)) (ha:w.cell? pa=some (.string a)) (hn_:w.cell? pn_=some (.int .i64 n_))
  (h:((impl_balanceKey.f d a).bind fun key=>impl_fewer.f k l0 key n_)=some (r1,r2)) :
  Calls Tryz.prog 154 #[.slice A0 l0.length c0,.pointer (some pd),.pointer (some pa),.pointer (some pn_)] w fun e w' => ∃ v0_:Value,e = .returned (.tuple #[v0_,.int .i64 r2])∧(r2=0→Kd.R k51 51 w' w.heap.size (fun _=>True) v0_ r1)∧Below w.heap.size w w':=by
 obtain ⟨key,hk,h⟩:=Option.bind_eq_some_iff.mp h
 have HK:=ζa hk
 have HF:=ζa h
 have HR0:=ζa hr0
 have HC0:=ζa hc0
 have HT0:=ζa hT0
 have HB0:=ζa (Below.refl w.heap.size w)
 have Hd:=ζa hd
 have Ha:=ζa ha
 have Hn_:=ζa hn_
 clear hk h hr0 hc0 hT0
 go_enter Tryz.func154,Tryz.ntmps154
 go_wp2_with fail
 go_region_held3 (fun w'=>w'.cell? pd=some (.string d)∧w'.cell? pa=some (.string a)∧w'.cell? pn_=some (.int .i64 n_)) (first|go_keep|exact ⟨cell_keep HB3.out Hd.out,cell_keep HB3.out Ha.out,cell_keep HB3.out Hn_.out⟩)
  (first
   | (go_at_call 143;refine (impl_balanceKey.calls d a key _ HK.out).mono ?_;rintro e w' ⟨rfl,⟨q',rfl⟩⟩)
   | (go_at_call 142;refine (impl_fewer.calls k A0 c0 l0 key n_ r1 r2 _ (by repeat (first|exact HR0.out|apply Kd.C_drew|apply Kd.C_drewN)) HC0.out (by first|exact HT0.out|exact HT0.out.below (by repeat (first|exact HB0.out|apply δj|apply δi))) HF.out).mono ?_;rintro e w3 ⟨v3,rfl,ho,hb⟩;have HO3:=ζa ho;have HB3:Aside0 (Below w.heap.size w w3):=⟨δr (by repeat (first|exact HB0.out|apply δj|apply δi)) hb⟩;clear ho hb))
 all_goals go_wp2
 all_goals (go_ret2;exact ⟨_,rfl,fun h0=>HO3.out h0,HB3.out⟩)



/-! ### impl_burn_1_2: function 155 -/
set_option maxHeartbeats 2000000 in
set_option maxRecDepth 100000 in
theorem impl_burn_1_2.calls (k:Nat) (A0:Option Addr) (c0:Nat) (l0:List S51) (pd pn_:Addr) (d:ByteArray) (n_:Int) (r1:List S51) (r2:Int) (w:World) (hr0:Kd.C k51 w A0 l0.length l0) (hc0:l0.length≤c0) (hT0:TabsOK w) (hd:w.cell? pd=some (.string d)) (hn_:w.cell? pn_=some (.int .i64 n_))
  (h:((impl_supplyKey.f d).bind fun key=>impl_fewer.f k l0 key n_)=some (r1,r2)) :
  Calls Tryz.prog 155 #[.slice A0 l0.length c0,.pointer (some pd),.pointer (some pn_)] w fun e w' => ∃ v0_:Value,e = .returned (.tuple #[v0_,.int .i64 r2])∧(r2=0→Kd.R k51 51 w' w.heap.size (fun _=>True) v0_ r1)∧Below w.heap.size w w':=by
 obtain ⟨key,hk,h⟩:=Option.bind_eq_some_iff.mp h
 have HK:=ζa hk
 have HF:=ζa h
 have HR0:=ζa hr0
 have HC0:=ζa hc0
 have HT0:=ζa hT0
 have HB0:=ζa (Below.refl w.heap.size w)
 have Hd:=ζa hd
 have Hn_:=ζa hn_
 clear hk h hr0 hc0 hT0
 go_enter Tryz.func155,Tryz.ntmps155
 go_wp2_with fail
 go_region_held3 (fun w'=>w'.cell? pd=some (.string d)∧w'.cell? pn_=some (.int .i64 n_)) (first|go_keep|exact ⟨cell_keep HB3.out Hd.out,cell_keep HB3.out Hn_.out⟩)
  (first
   | (go_at_call 156;refine (impl_supplyKey.calls d key _ HK.out).mono ?_;rintro e w' ⟨rfl,⟨q',rfl⟩⟩)
   | (go_at_call 142;refine (impl_fewer.calls k A0 c0 l0 key n_ r1 r2 _ (by repeat (first|exact HR0.out|apply Kd.C_drew|apply Kd.C_drewN)) HC0.out (by first|exact HT0.out|exact HT0.out.below (by repeat (first|exact HB0.out|apply δj|apply δi))) HF.out).mono ?_;rintro e w3 ⟨v3,rfl,ho,hb⟩;have HO3:=ζa ho;have HB3:Aside0 (Below w.heap.size w w3):=⟨δr (by repeat (first|exact HB0.out|apply δj|apply δi)) hb⟩;clear ho hb))
 all_goals go_wp2
 all_goals (go_ret2;exact ⟨_,rfl,fun h0=>HO3.out h0,HB3.out⟩)


open Go.Proofs.YtabmfhnhmoiljaaGreatDoorW.PrintWords renaming below_alloc → δk, below_step → δr

/-! ### impl_burn_1: function 153 -/
def impl_burn.F (k:Nat) (a d:ByteArray) (n_:Int):List S51→Option (List S51 × Int):=fun l0=>impl_all.f k l0 [(fun l=>(impl_balanceKey.f d a).bind fun key=>impl_fewer.f k l key n_),(fun l=>(impl_supplyKey.f d).bind fun key=>impl_fewer.f k l key n_)]
set_option maxHeartbeats 2000000 in
set_option maxRecDepth 100000 in
theorem impl_burn_1.calls (k:Nat) (A0:Option Addr) (c0:Nat) (l0:List S51) (pa pd pn_:Addr) (a d:ByteArray) (n_:Int) (r1:List S51) (r2:Int) (w:World) (hr0:Kd.C k51 w A0 l0.length l0) (hc0:l0.length≤c0) (hT0:TabsOK w) (ha:w.cell? pa=some (.string a)) (hd:w.cell? pd=some (.string d)) (hn_:w.cell? pn_=some (.int .i64 n_)) (h:impl_burn.F k a d n_ l0=some (r1,r2)) :
  Calls Tryz.prog 153 #[.slice A0 l0.length c0,.pointer (some pd),.pointer (some pa),.pointer (some pn_)] w fun e w' => ∃ v0_:Value,e = .returned (.tuple #[v0_,.int .i64 r2])∧Kd.R k51 51 w' w.heap.size (fun _=>True) v0_ r1∧Below w.heap.size w w':=by
 have HH:=ζa h
 have HR0:=ζa hr0
 have HC0:=ζa hc0
 have HT0:=ζa hT0
 have Ha:=ζa ha
 have Hd:=ζa hd
 have Hn_:=ζa hn_
 have HB:=ζa (Below.refl w.heap.size w)
 clear h hr0 hc0 hT0 ha hd hn_
 go_enter Tryz.func153,Tryz.ntmps153
 go_wp2_with fail
 have HB1:Aside0 (Below w.heap.size w (w.alloc (.cells ([((154,#[.pointer (some pd),.pointer (some pa),.pointer (some pn_)]):FV),(155,#[.pointer (some pd),.pointer (some pn_)])].map encF).toArray 79))):=⟨δk HB.out _⟩
 refine (impl_all.calls k A0 c0 l0 _ _ [(154,#[.pointer (some pd),.pointer (some pa),.pointer (some pn_)]),(155,#[.pointer (some pd),.pointer (some pn_)])] [(fun l=>(impl_balanceKey.f d a).bind fun key=>impl_fewer.f k l key n_),(fun l=>(impl_supplyKey.f d).bind fun key=>impl_fewer.f k l key n_)] r1 r2 _ (Kd.C_alloc HR0.out _) HC0.out (rowF _ (show 2≤1000 by decide) (heap_alloc_new _ _)) rfl ?_ HH.out).mono ?_
 ·
  intro i x F hx hF
  rcases i with _|_|i
  ·
   simp only [List.getElem?_cons_zero,Option.some.injEq] at hx hF
   subst hx hF
   exact ⟨enters_of Tryz.func154 (by kernel_rfl) rfl,fun W A c l r code hb hr hc hF=>impl_burn_1_1.calls k A c l pd pa pn_ d a n_ r code W hr hc ((HT0.out.below HB1.out).below hb) (cell_keep hb (cell_keep HB1.out Hd.out)) (cell_keep hb (cell_keep HB1.out Ha.out)) (cell_keep hb (cell_keep HB1.out Hn_.out)) hF⟩
  ·
   simp only [List.getElem?_cons_succ,List.getElem?_cons_zero,Option.some.injEq] at hx hF
   subst hx hF
   exact ⟨enters_of Tryz.func155 (by kernel_rfl) rfl,fun W A c l r code hb hr hc hF=>impl_burn_1_2.calls k A c l pd pn_ d n_ r code W hr hc ((HT0.out.below HB1.out).below hb) (cell_keep hb (cell_keep HB1.out Hd.out)) (cell_keep hb (cell_keep HB1.out Hn_.out)) hF⟩
  · simp at hx
 rintro e w3 ⟨v3,rfl,ho,hb⟩
 have HO3:=ζa (Kd.R_lower ho HB1.out.size)
 have HB3:=ζa (δr HB1.out hb)
 clear ho hb
 go_wp2
 go_ret2
 exact ⟨_,rfl,HO3.out,HB3.out⟩


open Go.Proofs.YtabmfhnhmoiljaaGreatDoorW.PrintWords renaming gate_dst → δx, box_event → δz, below_step → δr, below_alloc → δk, pw_below_drewN → δi, below_drew1 → δj, blk_cell → δl

/-! ### impl_burn: function 95 -/
set_option maxHeartbeats 2000000 in
set_option maxRecDepth 100000 in
theorem impl_burn.calls (k:Nat) (a d:ByteArray) (n_:Int) (w:World) (hT0:TabsOK w) :
  Calls Tryz.prog 95 #[.string a,.string d,.int .i64 n_] w fun e w' => ∃ (g:Nat) (lb:Array Value),e = .returned (.func (.func g) #[] lb)∧ChgR w' (g,lb) (impl_burn.F k a d n_)∧Below w.heap.size w w':=by
 have HT0:=ζa hT0
 have HB:=ζa (Below.refl w.heap.size w)
 clear hT0
 go_enter Tryz.func95,Tryz.ntmps95
 go_wp2_with (first
  | ((with_reducible refine δx (N:=3) rfl ?_);refine δz ?hg (N:=3) ?hd (cs:=#[(.string a)]) (t:=9) ?hr ?_;(case hd=>rfl);(case hg=>rfl);(case hr=>first|(go_simp;done)|(go_simp;rfl));intro gba hg wa hbox hb;replace HB:=ζa (δr (by repeat (first|exact HB.out|apply δk|apply δi|apply δj)) hb);have BKa:=ζa hbox;clear hb hbox hg)
  | ((with_reducible refine δx (N:=4) rfl ?_);refine δz ?hg (N:=4) ?hd (cs:=#[(.string d)]) (t:=9) ?hr ?_;(case hd=>rfl);(case hg=>rfl);(case hr=>first|(go_simp;done)|(go_simp;rfl));intro gbd hg wd hbox hb;replace HB:=ζa (δr (by repeat (first|exact HB.out|apply δk|apply δi|apply δj)) hb);have BKd:=ζa hbox;have ma:=ζa (blk_below BKa.out hb);clear BKa;have BKa:=ma;clear ma;clear hb hbox hg)
  | ((with_reducible refine δx (N:=5) rfl ?_);refine δz ?hg (N:=5) ?hd (cs:=#[(.int .i64 n_)]) (t:=3) ?hr ?_;(case hd=>rfl);(case hg=>rfl);(case hr=>first|(go_simp;done)|(go_simp;rfl));intro gbn_ hg wn_ hbox hb;replace HB:=ζa (δr (by repeat (first|exact HB.out|apply δk|apply δi|apply δj)) hb);have BKn_:=ζa hbox;have ma:=ζa (blk_below BKa.out hb);clear BKa;have BKa:=ma;clear ma;have md:=ζa (blk_below BKd.out hb);clear BKd;have BKd:=md;clear md;clear hb hbox hg))
 go_ret
 refine ⟨_,_,rfl,⟨enters_of Tryz.func153 (by kernel_rfl) rfl,fun W A c l r code hb hr hc hF => ?_⟩,HB.out⟩
 exact (impl_burn_1.calls k A c l _ _ _ a d n_ r code W hr hc ((HT0.out.below HB.out).below hb) ((δl (blk_below BKa.out hb) 0).trans rfl) ((δl (blk_below BKd.out hb) 0).trans rfl) ((δl (blk_below BKn_.out hb) 0).trans rfl) hF)

end Go.Proofs.YtabmfhnhmoiljaaGreatDoor.Q

/- Plain arithmetic: products of two amounts in halves of nine digits; long division digit by digit. No program. -/
namespace Go.Proofs.YtabmfhnhmoiljaaGreatDoor.U
open Go Go.RowKit
set_option linter.unusedVariables false
set_option linter.unusedSimpArgs false

theorem wid {n : Int} (h0 : -9223372036854775808 ≤ n) (h1 : n ≤ 9223372036854775807) : wrap64 n = n := IntWalk.wrap64_in n ⟨h0, h1⟩
theorem tdiv_nn {a b : Int} (h : 0 ≤ a) : Int.tdiv a b = a / b := Int.tdiv_eq_ediv_of_nonneg h
theorem tmod_nn {a b : Int} (h : 0 ≤ a) : Int.tmod a b = a % b := Int.tmod_eq_emod_of_nonneg h
theorem u64w (n : Int) : IntKind.u64.wrap n = n % 18446744073709551616 := by simp [IntKind.wrap, IntKind.bits, IntKind.signed]
theorem u64id {n : Int} (h0 : 0 ≤ n) (h1 : n < 18446744073709551616) : IntKind.u64.wrap n = n := by rw [u64w]; exact Int.emod_eq_of_lt h0 h1

theorem mul_bd {x y X Y : Int} (hx : 0 ≤ x) (hx' : x ≤ X) (hy : 0 ≤ y) (hy' : y ≤ Y) : 0 ≤ x * y ∧ x * y ≤ X * Y :=
  ⟨Int.mul_nonneg hx hy, Int.mul_le_mul hx' hy' hy (Int.le_trans hx hx')⟩

theorem wide_eq (a b : Int) (ha : 0 ≤ a) (ha' : a ≤ 1000000000000000000) (hb : 0 ≤ b) (hb' : b ≤ 1000000000000000000) :
    a * b = (a / 1000000000) * (b / 1000000000) * 1000000000000000000 + ((a / 1000000000) * (b % 1000000000) + (a % 1000000000) * (b / 1000000000)) * 1000000000 + (a % 1000000000) * (b % 1000000000) := by
  have e1 : a = (a / 1000000000) * 1000000000 + a % 1000000000 := by omega
  have e2 : b = (b / 1000000000) * 1000000000 + b % 1000000000 := by omega
  generalize a / 1000000000 = x at *
  generalize a % 1000000000 = y at *
  generalize b / 1000000000 = z at *
  generalize b % 1000000000 = u at *
  subst e1 e2
  grind

/-- One digit more of a long division. -/
theorem digit_step (c T out rest low : Int) (hc : 1 ≤ c) (hT : 1 ≤ T) (hr : 0 ≤ rest) (hl : 0 ≤ low) :
    (out * 10 + (10 * rest + low / T % 10) / c) * T + ((10 * rest + low / T % 10) % c * T + low % T) / c = out * (10 * T) + (rest * (10 * T) + low % (10 * T)) / c := by
  have e1 : low % (10 * T) = low / T % 10 * T + low % T := by
    have h1 : low / (10 * T) = low / T / 10 := by rw [Int.mul_comm, Int.ediv_ediv_of_nonneg (by omega)]
    have h2 := Int.mul_ediv_add_emod low (10 * T)
    have h3 := Int.mul_ediv_add_emod low T
    have h4 := Int.mul_ediv_add_emod (low / T) 10
    rw [h1] at h2
    generalize low / T / 10 = p at *
    generalize low / T % 10 = d at *
    generalize low / T = m at *
    subst h4
    generalize low % T = e at *
    generalize low % (10 * T) = f at *
    grind
  have h5 := Int.mul_ediv_add_emod (10 * rest + low / T % 10) c
  generalize low / T % 10 = d at *
  generalize (10 * rest + d) / c = q at *
  generalize (10 * rest + d) % c = s at *
  have e2 : rest * (10 * T) + low % (10 * T) = c * (q * T) + (s * T + low % T) := by
    rw [e1]
    generalize low % T = e at *
    grind
  rw [e2, Int.mul_add_ediv_left _ _ (by omega)]
  grind

/-- Knuth's step: a digit that is guessed too great is told by the lower half. -/
theorem knuth_lower (Y yn1 yn0 u v q : Int) (hY : Y = yn1 * 4294967296 + yn0) (h0 : 0 ≤ yn0) (hv : 0 ≤ v) (hv' : v < 4294967296) (hq : 0 ≤ q) (h : q * Y ≤ u * 4294967296 + v) : q * yn1 ≤ u := by
  have h1 : q * Y = q * yn1 * 4294967296 + q * yn0 := by subst hY; grind
  have h2 : 0 ≤ q * yn0 := Int.mul_nonneg hq h0
  omega

end Go.Proofs.YtabmfhnhmoiljaaGreatDoor.U

/- A number's digits: the reference's are the library's. -/
namespace Go.Proofs.YtabmfhnhmoiljaaGreatDoor.U
open Go Go.RowKit Go.Proofs.YtabmfhnhmoiljaaGreatDoor.Q Go.Proofs.YtabmfhnhmoiljaaGreatDoorW.PrintWords Go.Proofs.YtabmfhnhmoiljaaGreatDoorW.PrintLast Go.Proofs.YtabmfhnhmoiljaaGreatDoorW.PrintMore
set_option linter.unusedVariables false
set_option linter.unusedSimpArgs false

def digV (u : Nat) : ByteArray := ⟨(Lib.decDigits u).toArray⟩
theorem one_digit (u : Nat) (h : u < 10) : strOfNums [(wrap64 (48 + (u : Int))) % 256] = ⟨#[UInt8.ofNat (48 + u)]⟩ := by
  rw [wid (by omega) (by omega)]
  have : ((48 + (u : Int)) % 256) = ((48 + u : Nat) : Int) := by omega
  rw [this]
  rfl
theorem digits_ev (u : Nat) (hu : u ≤ 1000000000000000000) : Ev (fun k => spec_l00Digits.f k (u : Int)) (digV u) := by
  induction u using Nat.strongRecOn with
  | _ u ih =>
    by_cases h : u < 10
    · refine Ev.step (fun k => ?_) (Ev.now _)
      rw [spec_l00Digits.f, if_neg (by omega), if_neg (by omega), if_pos (by omega), one_digit u h, digV, Lib.decDigits_one h]
    · have e1 : wrap64 (Int.tdiv (u : Int) 10) = ((u / 10 : Nat) : Int) := by rw [tdiv_nn (by omega), wid (by omega) (by omega)]; omega
      have e2 : Int.tmod (u : Int) 10 = ((u % 10 : Nat) : Int) := by rw [tmod_nn (by omega)]; omega
      have hs : (digV (u / 10)).size ≤ u := by
        show (Lib.decDigits (u / 10)).toArray.size ≤ u
        rw [List.size_toArray, Lib.decDigits_length]
        have hn : ∀ v : Nat, 1 ≤ v → Lib.nDigits v ≤ v := by
          intro v
          induction v using Nat.strongRecOn with
          | _ v ihv =>
            intro h1
            rw [Lib.nDigits]
            split
            · exact h1
            · have := ihv (v / 10) (by omega) (by omega); omega
        have := hn (u / 10) (by omega)
        omega
      refine Ev.step (f := fun k => (spec_l00Digits.f k ((u / 10 : Nat) : Int)).bind fun t => if t.size + 1 ≤ 9223372036854775807 then some (t ++ (⟨#[UInt8.ofNat (48 + u % 10)]⟩ : ByteArray)) else none) (fun k => ?_) ?_
      · rw [spec_l00Digits.f, if_neg (by omega), if_neg (by omega), if_neg (by omega), e1, e2]
        simp only [Option.bind_some, one_digit (u % 10) (by omega)]
        rfl
      · refine Ev.bind (ih (u / 10) (by omega) (by omega)) ?_
        simp only [if_pos (show (digV (u / 10)).size + 1 ≤ 9223372036854775807 by omega)]
        have : digV (u / 10) ++ (⟨#[UInt8.ofNat (48 + u % 10)]⟩ : ByteArray) = digV u := by
          unfold digV
          conv => rhs; rw [Lib.decDigits, dif_neg h]
          apply ByteArray.ext
          simp
        rw [this]
        exact Ev.now _
theorem itoa_eq (n : Int) (h : 0 ≤ n) : (⟨(Lib.itoa n).toArray⟩ : ByteArray) = digV n.toNat := by
  unfold Lib.itoa digV
  rw [if_neg (by omega)]
end Go.Proofs.YtabmfhnhmoiljaaGreatDoor.U

/- Amounts: the number that a text tells, as the program and as the reference read it. -/
namespace Go.Proofs.YtabmfhnhmoiljaaGreatDoor.U
open Go Go.RowKit Go.Proofs.YtabmfhnhmoiljaaGreatDoor.Q Go.Proofs.YtabmfhnhmoiljaaGreatDoorW.PrintWords Go.Proofs.YtabmfhnhmoiljaaGreatDoorW.PrintLast Go.Proofs.YtabmfhnhmoiljaaGreatDoorW.PrintMore
set_option linter.unusedVariables false
set_option linter.unusedSimpArgs false

theorem nd_small (j v : Nat) (h : v < 10 ^ (j + 1)) : Lib.nDigits v ≤ j + 1 := by
  induction j generalizing v with
  | zero => rw [Lib.nDigits, dif_pos (by simpa using h)]; omega
  | succ j ih =>
    rw [Lib.nDigits]
    split
    · omega
    · have := ih (v / 10) (by rw [Nat.pow_succ] at h; omega); omega
theorem digV_size (v : Nat) (h : v ≤ 1000000000000000000) : (digV v).size ≤ 19 := by
  show (Lib.decDigits v).toArray.size ≤ 19
  rw [List.size_toArray, Lib.decDigits_length]
  exact nd_small 18 v (by omega)
theorem dec_big {v : Nat} (h : ¬ v < 10) : Lib.decDigits v = Lib.decDigits (v / 10) ++ [UInt8.ofNat (48 + v % 10)] := by
  conv => lhs; rw [Lib.decDigits, dif_neg h]
theorem chr_nat (d : Nat) (h : d < 10) : (UInt8.ofNat (48 + d)).toNat = 48 + d := by
  rw [UInt8.toNat_ofNat']; omega

/-- Digits, one behind the other, onto what those ahead tell. -/
def telD (x : Nat) : List UInt8 → Option Nat
  | [] => some x
  | c :: r => if c.toNat < 48 ∨ 57 < c.toNat then none else if (1000000000000000000 - (c.toNat - 48)) / 10 < x then none else telD (x * 10 + (c.toNat - 48)) r
theorem telD_append (l r : List UInt8) : ∀ x, telD x (l ++ r) = (telD x l).bind fun y => telD y r := by
  induction l with
  | nil => intro x; rfl
  | cons c l ih =>
    intro x
    simp only [List.cons_append, telD]
    split
    · rfl
    · split
      · rfl
      · exact ih _
theorem telD_one (x d : Nat) (hd : d < 10) (h : x * 10 + d ≤ 1000000000000000000) : telD x [UInt8.ofNat (48 + d)] = some (x * 10 + d) := by
  simp only [telD, chr_nat d hd]
  rw [if_neg (by omega), if_neg (by omega)]
  congr 1; omega
theorem telD_dec (v : Nat) (h : v ≤ 1000000000000000000) : telD 0 (Lib.decDigits v) = some v := by
  induction v using Nat.strongRecOn with
  | _ v ih =>
    by_cases hv : v < 10
    · rw [Lib.decDigits_one hv, telD_one 0 v hv (by omega)]; congr 1; omega
    · rw [dec_big hv, telD_append, ih (v / 10) (by omega) (by omega)]
      show telD (v / 10) _ = _
      rw [telD_one _ _ (by omega) (by omega)]; congr 1; omega
/-- No needless naught ahead. -/
def plainB (l : List UInt8) : Bool := decide (l ≠ []) && (decide (l.length = 1) || decide (l.head? ≠ some 48))
theorem snoc_cases {α : Type} (l : List α) : l = [] ∨ ∃ (i : List α) (c : α), l = i ++ [c] := by
  rcases List.eq_nil_or_concat l with h | ⟨i, c, h⟩
  · exact .inl h
  · exact .inr ⟨i, c, by rw [h, List.concat_eq_append]⟩
theorem telD_snoc {l : List UInt8} {c : UInt8} {n : Nat} (h : telD 0 (l ++ [c]) = some n) :
    ∃ m, telD 0 l = some m ∧ 48 ≤ c.toNat ∧ c.toNat ≤ 57 ∧ n = m * 10 + (c.toNat - 48) ∧ n ≤ 1000000000000000000 := by
  rw [telD_append] at h
  obtain ⟨m, h1, h2⟩ := Option.bind_eq_some_iff.mp h
  refine ⟨m, h1, ?_⟩
  simp only [telD] at h2
  split at h2
  · cases h2
  · split at h2
    · cases h2
    · injection h2 with h2
      omega
theorem dec_of_telD (k : Nat) : ∀ (l : List UInt8) (n : Nat), l.length = k → plainB l = true → telD 0 l = some n → l = Lib.decDigits n ∧ n ≤ 1000000000000000000 := by
  induction k with
  | zero =>
    intro l n hl hp h
    have : l = [] := List.length_eq_zero_iff.1 hl
    subst this
    simp [plainB] at hp
  | succ k ih =>
    intro l n hl hp h
    rcases snoc_cases l with rfl | ⟨i, c, rfl⟩
    · simp at hl
    obtain ⟨m, h1, h2, h3, h4, h5⟩ := telD_snoc h
    refine ⟨?_, h5⟩
    by_cases hi : i = []
    · subst hi
      simp only [telD, Option.some.injEq] at h1
      subst h1
      rw [Lib.decDigits_one (by omega), h4]
      simp only [List.nil_append, List.cons.injEq, and_true]
      apply UInt8.toNat_inj.1
      rw [chr_nat _ (by omega)]; omega
    · have hne : i.head? ≠ some 48 := by
        simp only [plainB, Bool.and_eq_true, Bool.or_eq_true, decide_eq_true_iff] at hp
        rcases hp.2 with hp | hp
        · rw [List.length_append, List.length_singleton] at hp
          exact absurd (List.length_eq_zero_iff.1 (by omega)) hi
        · cases i with
          | nil => exact absurd rfl hi
          | cons a i => simpa using hp
      obtain ⟨e, _⟩ := ih i m (by rw [List.length_append, List.length_singleton] at hl; omega) (by simp only [plainB, Bool.and_eq_true, Bool.or_eq_true, decide_eq_true_iff]; exact ⟨hi, .inr hne⟩) h1
      have hm : m ≠ 0 := by
        rintro rfl
        rw [e, Lib.decDigits_one (by omega)] at hne
        exact hne rfl
      rw [dec_big (v := n) (by omega)]
      have e1 : n / 10 = m := by omega
      have e2 : n % 10 = c.toNat - 48 := by omega
      rw [e1, e2, ← e]
      congr 2
      apply UInt8.toNat_inj.1
      rw [chr_nat _ (by omega)]; omega
theorem dec_head (v : Nat) : ∃ d r, d < 10 ∧ Lib.decDigits v = UInt8.ofNat (48 + d) :: r := by
  induction v using Nat.strongRecOn with
  | _ v ih =>
    by_cases hv : v < 10
    · exact ⟨v, [], hv, Lib.decDigits_one hv⟩
    · obtain ⟨d, r, hd, e⟩ := ih (v / 10) (by omega)
      exact ⟨d, r ++ [UInt8.ofNat (48 + v % 10)], hd, by rw [dec_big hv, e]; rfl⟩
theorem dec_plain (v : Nat) : plainB (Lib.decDigits v) = true := by
  have hne : Lib.decDigits v ≠ [] := fun e => by
    have h := Lib.decDigits_length v
    rw [e] at h
    have := Lib.nDigits_pos v
    simp at h; omega
  have hd : Lib.nDigits v = 1 ∨ (Lib.decDigits v).head? ≠ some 48 := by
    induction v using Nat.strongRecOn with
    | _ v ih =>
      by_cases hv : v < 10
      · exact .inl (Lib.nDigits_small hv)
      · right
        obtain ⟨d, r, hd, e⟩ := dec_head (v / 10)
        by_cases hv2 : v / 10 < 10
        · rw [dec_big hv, Lib.decDigits_one hv2]
          simp only [List.cons_append, List.head?_cons, ne_eq, Option.some.injEq]
          intro e
          have := congrArg UInt8.toNat e
          rw [chr_nat _ hv2] at this
          have e48 : (48 : UInt8).toNat = 48 := rfl
          omega
        · rcases ih (v / 10) (by omega) (by rw [e]; simp) with h | h
          · rw [Lib.nDigits_big hv2] at h
            have := Lib.nDigits_pos (v / 10 / 10)
            omega
          · rw [e] at h
            rw [dec_big hv, e]
            exact h
  simp only [plainB, Bool.and_eq_true, Bool.or_eq_true, decide_eq_true_iff]
  refine ⟨hne, ?_⟩
  rcases hd with h | h
  · left; rw [Lib.decDigits_length, h]
  · exact .inr h
/-- The amount of a text, where it tells one. -/
def amtO (a : ByteArray) : Option Nat := if plainB a.data.toList = true then telD 0 a.data.toList else none
theorem amtO_iff (a : ByteArray) (n : Nat) : amtO a = some n ↔ a = digV n ∧ n ≤ 1000000000000000000 := by
  unfold amtO
  constructor
  · intro h
    split at h
    · rename_i hp
      obtain ⟨e, hn⟩ := dec_of_telD _ _ n rfl hp h
      refine ⟨?_, hn⟩
      apply ByteArray.ext
      apply Array.toList_inj.mp
      rw [e]
      rfl
    · cases h
  · rintro ⟨rfl, hn⟩
    have e : (digV n).data.toList = Lib.decDigits n := rfl
    rw [e, if_pos (dec_plain n)]
    exact telD_dec n hn
def amtV (a : ByteArray) : Int := match amtO a with | some n => (n : Int) | none => -1
theorem amtV_digV (n : Nat) (h : n ≤ 1000000000000000000) : amtV (digV n) = n := by
  unfold amtV
  rw [(amtO_iff _ n).2 ⟨rfl, h⟩]
theorem amtV_eq {a : ByteArray} (h : 0 ≤ amtV a) : a = digV (amtV a).toNat ∧ amtV a ≤ 1000000000000000000 := by
  unfold amtV at *
  cases e : amtO a with
  | none => rw [e] at h; simp at h
  | some n =>
    obtain ⟨h1, h2⟩ := (amtO_iff a n).1 e
    exact ⟨by simpa using h1, by simp only; omega⟩
theorem amtV_low (a : ByteArray) : -1 ≤ amtV a := by
  unfold amtV
  split <;> omega

/-! ### the program's -/
theorem parse_append (l r : List UInt8) : ∀ x, Lib.parseUint10 x (l ++ r) = match Lib.parseUint10 x l with | .ok u => Lib.parseUint10 u r | .syntax => .syntax | .range => .range := by
  induction l with
  | nil => intro x; rfl
  | cons c l ih =>
    intro x
    simp only [List.cons_append, Lib.parseUint10]
    split
    · split
      · rfl
      · split
        · rfl
        · exact ih _
    · rfl
theorem parse_one (x d : Nat) (hd : d < 10) (h : x * 10 + d < 9223372036854775808) : Lib.parseUint10 x [UInt8.ofNat (48 + d)] = .ok (x * 10 + d) := by
  simp only [Lib.parseUint10, chr_nat d hd]
  rw [if_pos (by omega), if_neg (by omega), if_neg (by omega)]
  congr 1; omega
theorem parse_dec (v : Nat) (h : v < 9223372036854775808) : Lib.parseUint10 0 (Lib.decDigits v) = .ok v := by
  induction v using Nat.strongRecOn with
  | _ v ih =>
    by_cases hv : v < 10
    · rw [Lib.decDigits_one hv, parse_one 0 v hv (by omega)]; congr 1; omega
    · rw [dec_big hv, parse_append, ih (v / 10) (by omega) (by omega)]
      show Lib.parseUint10 (v / 10) _ = _
      rw [parse_one _ _ (by omega) (by omega)]; congr 1; omega
theorem atoi_dec (v : Nat) (h : v < 9223372036854775808) : Lib.atoiAll (Lib.decDigits v) = .ok (v : Int) := by
  obtain ⟨d, r, hd, e⟩ := dec_head v
  have h1 := parse_dec v h
  rw [e] at h1 ⊢
  rw [Lib.atoiAll_plain _ _ (by rw [chr_nat d hd]; omega) (by rw [chr_nat d hd]; omega)]
  unfold Lib.parseMag
  rw [if_neg (by simp), h1]
  simp only [Lib.signless]
  rw [if_neg (by omega)]
theorem toList_eq_iff (a b : ByteArray) : a.toList = b.toList ↔ a = b := by
  constructor
  · intro h
    rw [ByteArray.toList_eq, ByteArray.toList_eq] at h
    exact ByteArray.ext (Array.toList_inj.mp h)
  · rintro rfl; rfl
theorem readAmount_eq (a : ByteArray) (hs : a.size ≤ 281474976710656) : impl_readAmount.f a = some (if 0 ≤ amtV a then (amtV a, true) else (0, false)) := by
  unfold impl_readAmount.f
  rw [if_pos hs]
  by_cases h : 0 ≤ amtV a
  · obtain ⟨e, hn⟩ := amtV_eq h
    rw [if_pos h]
    generalize amtV a = n at *
    have e1 : Lib.atoiAll a.data.toList = .ok n := by
      have := atoi_dec n.toNat (by omega)
      rw [e]
      rw [show ((n.toNat : Nat) : Int) = n by omega] at this
      exact this
    rw [e1]
    simp only [if_pos h, if_pos hn]
    rw [itoa_eq n h, ← e, if_pos rfl]
  · rw [if_neg h]
    cases hh : Lib.atoiAll a.data.toList with
    | «syntax» => rfl
    | range => rfl
    | ok v =>
      simp only
      by_cases h0 : 0 ≤ v
      · rw [if_pos h0]
        by_cases h1 : v ≤ 1000000000000000000
        · rw [if_pos h1, itoa_eq v h0]
          by_cases h2 : (digV v.toNat).toList = a.toList
          · exfalso
            have e := (toList_eq_iff _ _).1 h2
            apply h
            rw [← e, amtV_digV _ (by omega)]
            omega
          · rw [if_neg h2]
        · rw [if_neg h1]
      · rw [if_neg h0]

/-! ### the reference's -/
theorem bt_get (a : ByteArray) (i : Nat) (h : i < a.size) : bt a (i : Int) = ((a.data.toList[i]'(by rw [Array.length_toList]; exact h)).toNat : Int) := by
  unfold bt
  rw [dif_pos (by simpa using h)]
  simp
  rfl
def telI (x : Nat) (l : List UInt8) : Int := match telD x l with | some n => (n : Int) | none => -1
theorem l02Of_go (a : ByteArray) (hs : a.size ≤ 19) : ∀ (d i x : Nat), i + d = a.size → x ≤ 1000000000000000000 → Ev (fun k => spec_l02Of.l0 k a (x : Int) (i : Int)) (telI x (a.data.toList.drop i)) := by
  intro d
  induction d with
  | zero =>
    intro i x hi hx
    refine Ev.step (fun k => ?_) (Ev.now _)
    rw [spec_l02Of.l0, if_neg (by omega), List.drop_of_length_le (by rw [Array.length_toList]; show a.size ≤ i; omega)]
    rfl
  | succ d ih =>
    intro i x hi hx
    have hlt : i < a.size := by omega
    have hb := bt_get a i hlt
    have hl : i < a.data.toList.length := by rw [Array.length_toList]; exact hlt
    rw [List.drop_eq_getElem_cons hl]
    generalize a.data.toList[i] = c at *
    have hc := UInt8.toNat_lt c
    unfold telI
    simp only [telD]
    by_cases h1 : c.toNat < 48 ∨ 57 < c.toNat
    · rw [if_pos h1]
      refine Ev.step (f := fun k => spec_l02Of.j2 k a (x : Int) (i : Int) true) (fun k => ?_) (Ev.step (fun k => by rw [spec_l02Of.j2, if_pos rfl]) (Ev.now _))
      rw [spec_l02Of.l0, if_pos (by omega), if_pos (by omega), hb]
      by_cases h2 : c.toNat < 48
      · rw [if_pos (by omega)]
      · rw [if_neg (by omega), decide_eq_true (by omega)]
    · rw [if_neg h1]
      refine Ev.step (f := fun k => spec_l02Of.j2 k a (x : Int) (i : Int) false) (fun k => ?_) ?_
      · rw [spec_l02Of.l0, if_pos (by omega), if_pos (by omega), hb, if_neg (by omega), decide_eq_false (by omega)]
      · have e1 : ((c.toNat : Int) - 48) % 256 = ((c.toNat - 48 : Nat) : Int) := by omega
        by_cases h3 : (1000000000000000000 - (c.toNat - 48)) / 10 < x
        · rw [if_pos h3]
          refine Ev.step (fun k => ?_) (Ev.now _)
          rw [spec_l02Of.j2, if_neg (by decide), if_pos (by omega), if_pos (by omega), hb, e1, if_pos (by omega)]
        · rw [if_neg h3]
          have := ih (i + 1) (x * 10 + (c.toNat - 48)) (by omega) (by omega)
          refine Ev.step (fun k => ?_) this
          rw [spec_l02Of.j2, if_neg (by decide), if_pos (by omega), if_pos (by omega), hb, e1, if_neg (by omega), wid (n := (x : Int) * 10) (by omega) (by omega), wid (n := (x : Int) * 10 + _) (by omega) (by omega), wid (n := (i : Int) + 1) (by omega) (by omega)]
          rfl
theorem l02Of_ev (a : ByteArray) (hs : a.size ≤ 9223372036854775807) : Ev (fun k => spec_l02Of.f k a) (amtV a) := by
  have hbad : amtV a = -1 → Ev (fun k => spec_l02Of.j0 k a true) (amtV a) := fun e => by
    rw [e]; exact Ev.step (fun k => by rw [spec_l02Of.j0, if_pos rfl]) (Ev.now _)
  have hln : a.data.toList.length = a.size := by rw [Array.length_toList]; rfl
  have hbig : 19 < a.size → amtV a = -1 := fun h => by
    by_cases h0 : 0 ≤ amtV a
    · obtain ⟨e, hn⟩ := amtV_eq h0
      have := digV_size (amtV a).toNat (by omega)
      rw [← e] at this
      omega
    · have := amtV_low a; omega
  have hgo : Ev (fun k => spec_l02Of.l0 k a 0 0) (telI 0 a.data.toList) ∨ 19 < a.size := by
    by_cases h : 19 < a.size
    · exact .inr h
    · exact .inl (by have := l02Of_go a (by omega) a.size 0 0 (by omega) (by omega); simpa using this)
  unfold spec_l02Of.f spec_l01In.f
  by_cases h1 : (a.size : Int) ≥ 1
  · simp only [if_pos h1, Option.bind_some]
    by_cases h2 : (a.size : Int) ≤ 19
    · simp only [decide_eq_true h2, if_true]
      have hg : Ev (fun k => spec_l02Of.l0 k a 0 0) (telI 0 a.data.toList) := by
        rcases hgo with h | h
        · exact h
        · omega
      by_cases h3 : (a.size : Int) > 1
      · simp only [if_pos h3, if_pos (show (0 : Int) < (a.size : Int) by omega)]
        have hb := bt_get a 0 (by omega)
        have hh : a.data.toList.head? = some (a.data.toList[0]'(by omega)) := by rw [List.head?_eq_getElem?, List.getElem?_eq_getElem]
        by_cases h4 : a.data.toList[0]'(by omega) = 48
        · have e : (bt a 0 == 48) = true := by rw [beq_iff_eq]; have := hb; rw [h4] at this; exact this
          simp only [e]
          refine hbad ?_
          unfold amtV amtO
          rw [if_neg]
          simp only [plainB, Bool.and_eq_true, Bool.or_eq_true, decide_eq_true_iff, hh, h4]
          rintro ⟨_, h | h⟩
          · omega
          · exact h rfl
        · have e : (bt a 0 == 48) = false := by
            rw [beq_eq_false_iff_ne]
            intro h5
            apply h4
            apply UInt8.toNat_inj.1
            have e48 : (48 : UInt8).toNat = 48 := rfl
            have := hb.symm.trans h5
            omega
          simp only [e]
          refine Ev.step (fun k => by rw [spec_l02Of.j0, if_neg (by decide)]) ?_
          have e2 : amtV a = telI 0 a.data.toList := by
            unfold amtV amtO telI
            rw [if_pos]
            simp only [plainB, Bool.and_eq_true, Bool.or_eq_true, decide_eq_true_iff, hh]
            refine ⟨fun e0 => ?_, .inr (fun e0 => h4 (Option.some.inj e0))⟩
            rw [e0] at hln; simp at hln; omega
          rw [e2]
          exact hg
      · simp only [if_neg h3]
        refine Ev.step (fun k => by rw [spec_l02Of.j0, if_neg (by decide)]) ?_
        have e2 : amtV a = telI 0 a.data.toList := by
          unfold amtV amtO telI
          rw [if_pos]
          simp only [plainB, Bool.and_eq_true, Bool.or_eq_true, decide_eq_true_iff]
          refine ⟨fun e0 => ?_, .inl (by omega)⟩
          rw [e0] at hln; simp at hln; omega
        rw [e2]
        exact hg
    · simp only [decide_eq_false h2, Bool.false_eq_true, if_false]
      exact hbad (hbig (by omega))
  · simp only [if_neg h1, Option.bind_some, Bool.false_eq_true, if_false]
    refine hbad ?_
    unfold amtV amtO
    have : a.data.toList = [] := List.length_eq_zero_iff.1 (by omega)
    rw [this]
    rfl
end Go.Proofs.YtabmfhnhmoiljaaGreatDoor.U

/- Fields: how the program writes texts in line. -/
namespace Go.Proofs.YtabmfhnhmoiljaaGreatDoor.U
open Go Go.RowKit Go.Proofs.YtabmfhnhmoiljaaGreatDoor.Q Go.Proofs.YtabmfhnhmoiljaaGreatDoorW.PrintWords Go.Proofs.YtabmfhnhmoiljaaGreatDoorW.PrintLast Go.Proofs.YtabmfhnhmoiljaaGreatDoorW.PrintMore
set_option linter.unusedVariables false
set_option linter.unusedSimpArgs false

theorem w00 : wrap64 (0 - 1) = -1 := by rw [wid (n := 0 - 1) (by decide) (by decide)]; rfl
theorem w10 : wrap64 (1 - 1) = 0 := by rw [wid (n := 1 - 1) (by decide) (by decide)]; rfl
theorem w21 : wrap64 (2 - 1) = 1 := by rw [wid (n := 2 - 1) (by decide) (by decide)]; rfl
theorem number_end (n : Int) (l : List Int) : Ev (fun k => impl_number.l0 k n l (-1)) (strOfNums l) := Ev.step (fun k => by rw [impl_number.l0, if_neg (by decide)]) (Ev.now _)
theorem number1_ev (n : Int) : Ev (fun k => impl_number.f k n 1) (strOfNums [n % 256]) := by
  unfold impl_number.f
  simp only [if_pos (show (0 : Int) ≤ 1 by omega), if_pos (show (1 : Int).toNat ≤ 281474976710656 by decide), w10, show List.replicate (1 : Int).toNat (0 : Int) = [0] from rfl]
  refine Ev.step (fun k => ?_) (number_end (n / 256) [n % 256])
  rw [impl_number.l0, if_pos (by decide), if_pos (by decide), if_pos (by decide), w00]
  rfl
theorem number2_ev (n : Int) : Ev (fun k => impl_number.f k n 2) (strOfNums [n / 256 % 256, n % 256]) := by
  unfold impl_number.f
  simp only [if_pos (show (0 : Int) ≤ 2 by omega), if_pos (show (2 : Int).toNat ≤ 281474976710656 by decide), w21, show List.replicate (2 : Int).toNat (0 : Int) = [0, 0] from rfl]
  refine Ev.step (f := fun k => impl_number.l0 k (n / 256) [0, n % 256] 0) (fun k => ?_) (Ev.step (fun k => ?_) (number_end (n / 256 / 256) [n / 256 % 256, n % 256]))
  · rw [impl_number.l0, if_pos (by decide), if_pos (by decide), if_pos (by decide), w10]
    rfl
  · rw [impl_number.l0, if_pos (by decide), if_pos (by decide), if_pos (by simp), w00]
    rfl
/-- One text behind its length. -/
def fieldV (t : ByteArray) : ByteArray := strOfNums [(t.size : Int) / 256 % 256, (t.size : Int) % 256] ++ t
def restV : List ByteArray → ByteArray
  | [] => ByteArray.empty
  | t :: ts => fieldV t ++ restV ts
def fieldsV (l : List ByteArray) : ByteArray := strOfNums [(l.length : Int) % 256] ++ restV l
theorem nums_size (l : List Int) : (strOfNums l).size = l.length := by simp [strOfNums, ByteArray.size]
theorem fields_go (l : List ByteArray) (M : Nat) (hl : l.length ≤ 1000) (hM : M ≤ 4611686018427387904) (hx : ∀ x ∈ l, x.size ≤ 1048576) : ∀ (d i : Nat) (o : ByteArray), i + d = l.length → o.size ≤ i * 1048580 + 1048580 →
    Ev (fun k => impl_fields.l0 k o l (l.length : Int) (i : Int)) (o ++ restV (l.drop i)) := by
  intro d
  induction d with
  | zero =>
    intro i o hi ho
    refine Ev.step (fun k => ?_) (Ev.now _)
    rw [impl_fields.l0, if_neg (by omega), List.drop_of_length_le (by omega)]
    simp [restV]
  | succ d ih =>
    intro i o hi ho
    have hlt : i < l.length := by omega
    have hr : rdOf ByteArray.empty l (i : Int) = l[i] := by simp [rdOf, List.getD_eq_getElem?_getD, List.getElem?_eq_getElem hlt]
    have hs := hx _ (List.getElem_mem hlt)
    refine Ev.step (f := fun k => (impl_number.f k (l[i].size : Int) 2).bind fun t => if t.size + l[i].size ≤ 9223372036854775807 then (if o.size + (t ++ l[i]).size ≤ 9223372036854775807 then impl_fields.l0 k (o ++ (t ++ l[i])) l (l.length : Int) ((i + 1 : Nat) : Int) else none) else none) (fun k => ?_) ?_
    · rw [impl_fields.l0, if_pos (by omega), if_pos (by omega), if_pos (by omega), hr, wid (n := (i : Int) + 1) (by omega) (by omega)]
      rfl
    · refine Ev.bind (number2_ev _) ?_
      have h1 : (strOfNums [(l[i].size : Int) / 256 % 256, (l[i].size : Int) % 256]).size = 2 := by rw [nums_size]; rfl
      have h2 : (strOfNums [(l[i].size : Int) / 256 % 256, (l[i].size : Int) % 256] ++ l[i]).size = 2 + l[i].size := by rw [ByteArray.size_append, h1]
      simp only [h1, h2, if_pos (show 2 + l[i].size ≤ 9223372036854775807 by omega), if_pos (show o.size + (2 + l[i].size) ≤ 9223372036854775807 by omega)]
      have h3 := ih (i + 1) (o ++ fieldV l[i]) (by omega) (by rw [ByteArray.size_append]; show o.size + (fieldV l[i]).size ≤ _; unfold fieldV; rw [h2]; omega)
      rw [List.drop_eq_getElem_cons hlt, restV]
      rw [ByteArray.append_assoc] at h3
      exact h3
theorem fields_ev (l : List ByteArray) (hl : l.length ≤ 1000) (hx : ∀ x ∈ l, x.size ≤ 1048576) : Ev (fun k => impl_fields.f k l) (fieldsV l) := by
  unfold impl_fields.f fieldsV
  refine Ev.bind (number1_ev _) ?_
  have := fields_go l 0 hl (by omega) hx l.length 0 (strOfNums [(l.length : Int) % 256]) (by omega) (by rw [nums_size]; simp)
  simpa using this
end Go.Proofs.YtabmfhnhmoiljaaGreatDoor.U

/- Fields that are read back from a text: as the program and as the reference read them. -/
namespace Go.Proofs.YtabmfhnhmoiljaaGreatDoor.U
open Go Go.RowKit Go.Proofs.YtabmfhnhmoiljaaGreatDoor.Q Go.Proofs.YtabmfhnhmoiljaaGreatDoorW.PrintWords Go.Proofs.YtabmfhnhmoiljaaGreatDoorW.PrintLast Go.Proofs.YtabmfhnhmoiljaaGreatDoorW.PrintMore
set_option linter.unusedVariables false
set_option linter.unusedSimpArgs false

theorem size_data (a : ByteArray) : a.data.toList.length = a.size := by rw [Array.length_toList]; rfl
theorem ext_list {a b : ByteArray} (h : a.data.toList = b.data.toList) : a = b := ByteArray.ext (Array.toList_inj.mp h)
theorem extract_list (a : ByteArray) (i j : Nat) : (a.extract i j).data.toList = (a.data.toList.take j).drop i := by
  rw [ByteArray.data_extract, Array.toList_extract]
  simp [List.extract_eq_take_drop, List.drop_take]
theorem bt_list (a : ByteArray) (i : Nat) (h : i < a.size) : bt a (i : Int) = ((a.data.toList.getD i 0).toNat : Int) := by
  unfold bt
  rw [dif_pos (by simpa using h), List.getD_eq_getElem?_getD, List.getElem?_eq_getElem (by rw [size_data]; exact h)]
  simp
  rfl
theorem size_ext (a : ByteArray) (i j : Nat) : (a.extract i j).size = min j a.size - i := by
  rw [← size_data, extract_list, List.length_drop, List.length_take, size_data]
theorem ext_ext (a : ByteArray) (p i j : Nat) : (a.extract p a.size).extract i j = a.extract (p + i) (p + j) := by
  apply ext_list
  rw [extract_list, extract_list, extract_list, List.take_of_length_le (i := a.size) (by rw [size_data]; exact Nat.le_refl _)]
  rw [List.take_drop, List.drop_drop]
theorem ext_cap (a : ByteArray) (i j : Nat) (h : a.size ≤ j) : a.extract i j = a.extract i a.size := by
  apply ext_list
  rw [extract_list, extract_list, List.take_of_length_le (by rw [size_data]; exact h), List.take_of_length_le (by rw [size_data]; exact Nat.le_refl _)]
theorem bt_ext (a : ByteArray) (p j i : Nat) (h : p + i < min j a.size) : bt (a.extract p j) (i : Int) = bt a ((p + i : Nat) : Int) := by
  rw [bt_list _ _ (by rw [size_ext]; omega), bt_list _ _ (by omega), extract_list]
  congr 2
  rw [List.getD_eq_getElem?_getD, List.getD_eq_getElem?_getD, List.getElem?_drop, List.getElem?_take, if_pos (by omega)]

/-- The first two bytes' number. -/
def hd2 (s : ByteArray) : Nat := (bt s 0 * 256 + bt s 1).toNat
def readN : Nat → ByteArray → Option (List ByteArray)
  | 0, s => if s.size = 0 then some [] else none
  | n + 1, s => if s.size < 2 then none else if 1000 < hd2 s then none else if s.size < 2 + hd2 s then none else (readN n (s.extract (2 + hd2 s) s.size)).map (s.extract 2 (2 + hd2 s) :: ·)
def readV (a : ByteArray) : Option (List ByteArray) := if a.size = 0 then none else if 40 < bt a 0 then none else readN (bt a 0).toNat (a.extract 1 a.size)
/-- What a reader answers. -/
def readR (x : List ByteArray) (out : List ByteArray) : Option (List ByteArray) → List ByteArray × Bool
  | some l => (out ++ l, true)
  | none => (x, false)

theorem hd2_bd (s : ByteArray) : hd2 s ≤ 65535 ∧ ((hd2 s : Nat) : Int) = bt s 0 * 256 + bt s 1 := by
  have h0 := bt_range s 0
  have h1 := bt_range s 1
  unfold hd2
  omega
theorem numberOf_ev (s : ByteArray) (h : s.size = 2) : Ev (fun k => impl_numberOf.f k s) (hd2 s : Int) := by
  have h0 := bt_range s 0
  have h1 := bt_range s 1
  rw [(hd2_bd s).2]
  unfold impl_numberOf.f
  rw [show ((s.size : Nat) : Int) = 2 by omega]
  refine Ev.step (f := fun k => impl_numberOf.l0 k s (bt s 0) 2 1) (fun k => ?_) (Ev.step (f := fun k => impl_numberOf.l0 k s (bt s 0 * 256 + bt s 1) 2 2) (fun k => ?_) (Ev.step (fun k => ?_) (Ev.now _)))
  · rw [impl_numberOf.l0, if_pos (by decide), if_pos (by decide), if_pos (by omega)]
    rw [wid (n := 0 * 256) (by decide) (by decide), wid (n := bt s 0) (by omega) (by omega), wid (by omega) (by omega), wid (n := 0 + 1) (by decide) (by decide)]
    congr 1; omega
  · rw [impl_numberOf.l0, if_pos (by decide), if_pos (by decide), if_pos (by omega)]
    rw [wid (n := bt s 0 * 256) (by omega) (by omega), wid (n := bt s 1) (by omega) (by omega), wid (by omega) (by omega), wid (n := 1 + 1) (by decide) (by decide)]
    rfl
  · rw [impl_numberOf.l0, if_neg (by decide)]
set_option maxHeartbeats 2000000 in
theorem readFields_go (N : Nat) (hN : N ≤ 40) : ∀ (d i : Nat) (out : List ByteArray) (s : ByteArray), i + d = N → out.length ≤ i → s.size ≤ 9223372036854000000 →
    ∃ x, Ev (fun k => impl_readFields.l0 k out s (N : Int) (i : Int)) (readR x out (readN d s)) := by
  intro d
  induction d with
  | zero =>
    intro i out s hi ho hs
    refine ⟨out, Ev.step (fun k => ?_) (Ev.now _)⟩
    rw [impl_readFields.l0, if_neg (by omega), readN]
    by_cases h : s.size = 0
    · have e : s.toList = [] := by rw [ByteArray.toList_eq]; exact List.length_eq_zero_iff.1 (by rw [size_data]; exact h)
      rw [if_pos h, e]
      simp [readR]
    · have e : (s.toList == []) = false := by
        rw [beq_eq_false_iff_ne]
        intro e
        rw [ByteArray.toList_eq] at e
        apply h
        rw [← size_data, e]; rfl
      rw [if_neg h, e]
      rfl
  | succ d ih =>
    intro i out s hi ho hs
    have hb := hd2_bd s
    rw [readN]
    by_cases h1 : s.size < 2
    · refine ⟨[], ?_⟩
      rw [if_pos h1]
      refine Ev.step (fun k => ?_) (Ev.now _)
      rw [impl_readFields.l0, if_pos (by omega), if_pos (by omega)]
      rfl
    rw [if_neg h1]
    have hz : (s.extract 0 2).size = 2 := by rw [size_ext]; omega
    have e2 : hd2 (s.extract 0 2) = hd2 s := by
      unfold hd2
      have a0 := bt_ext s 0 2 0 (by omega)
      have a1 := bt_ext s 0 2 1 (by omega)
      simp only [Nat.zero_add] at a0 a1
      rw [show ((0 : Nat) : Int) = 0 from rfl] at a0
      rw [show ((1 : Nat) : Int) = 1 from rfl] at a1
      rw [a0, a1]
    have hn := numberOf_ev (s.extract 0 2) hz
    rw [e2] at hn
    clear e2 hz
    generalize hd2 s = m at *
    have key : ∀ (x : List ByteArray) (r : List ByteArray × Bool), Ev (fun k => if (m : Int) > 1000 then (some (([] : List ByteArray), false)) else (if (s.size : Int) < 2 + (m : Int) then (some (([] : List ByteArray), false)) else impl_readFields.l0 k (out ++ [s.extract 2 (2 + m)]) (s.extract (2 + m) s.size) (N : Int) ((i + 1 : Nat) : Int))) r →
        Ev (fun k => impl_readFields.l0 k out s (N : Int) (i : Int)) r := by
      intro x r hr
      refine Ev.step (f := fun k => (impl_numberOf.f k (s.extract 0 2)).bind fun t => if t > 1000 then (some (([] : List ByteArray), false)) else (if (s.size : Int) < (wrap64 (2 + t)) then (some (([] : List ByteArray), false)) else (if 2 ≤ (wrap64 (2 + t)) then (if (wrap64 (2 + t)) ≤ (s.size : Int) then (if out.length < 8796093022208 then (if 0 ≤ (wrap64 (2 + t)) then (impl_readFields.l0 k (out ++ [s.extract 2 ((wrap64 (2 + t)) : Int).toNat]) (s.extract ((wrap64 (2 + t)) : Int).toNat s.size) (N : Int) (wrap64 ((i : Int) + 1))) else (none)) else (none)) else (none)) else (none)))) (fun k => ?_) (Ev.bind hn ?_)
      · rw [impl_readFields.l0, if_pos (by omega), if_neg (by omega), if_pos (by decide), if_pos (by omega)]
      · have ew : wrap64 (2 + (m : Int)) = 2 + (m : Int) := wid (by omega) (by omega)
        have ei : wrap64 ((i : Int) + 1) = ((i + 1 : Nat) : Int) := by rw [wid (by omega) (by omega)]; rfl
        rw [ew, ei]
        refine Ev.congr (fun k => ?_) hr
        by_cases c1 : (m : Int) > 1000
        · rw [if_pos c1, if_pos c1]
        rw [if_neg c1, if_neg c1]
        by_cases c2 : (s.size : Int) < 2 + (m : Int)
        · rw [if_pos c2, if_pos c2]
        rw [if_neg c2, if_neg c2, if_pos (by omega), if_pos (by omega), if_pos (by omega), if_pos (by omega)]
        rw [show (2 + (m : Int)).toNat = 2 + m by omega]
    by_cases h2 : 1000 < m
    · rw [if_pos h2]
      exact ⟨[], key [] _ (by simp only [if_pos (show (m : Int) > 1000 by omega)]; exact Ev.now _)⟩
    rw [if_neg h2]
    by_cases h3 : s.size < 2 + m
    · rw [if_pos h3]
      exact ⟨[], key [] _ (by simp only [if_neg (show ¬ (m : Int) > 1000 by omega), if_pos (show (s.size : Int) < 2 + (m : Int) by omega)]; exact Ev.now _)⟩
    rw [if_neg h3]
    obtain ⟨x, hx⟩ := ih (i + 1) (out ++ [s.extract 2 (2 + m)]) (s.extract (2 + m) s.size) (by omega) (by rw [List.length_append, List.length_singleton]; omega) (by rw [size_ext]; omega)
    refine ⟨x, key x _ ?_⟩
    simp only [if_neg (show ¬ (m : Int) > 1000 by omega), if_neg (show ¬ (s.size : Int) < 2 + (m : Int) by omega)]
    have e : readR x (out ++ [s.extract 2 (2 + m)]) (readN d (s.extract (2 + m) s.size)) = readR x out ((readN d (s.extract (2 + m) s.size)).map (s.extract 2 (2 + m) :: ·)) := by
      cases readN d (s.extract (2 + m) s.size) with
      | none => rfl
      | some l => simp [readR]
    rw [← e]
    exact hx
theorem toList_nil_iff (a : ByteArray) : a.toList = ([] : List UInt8) ↔ a.size = 0 := by
  rw [ByteArray.toList_eq]
  constructor
  · intro h; rw [← size_data, h]; rfl
  · intro h; exact List.length_eq_zero_iff.1 (by rw [size_data]; exact h)
theorem readFields_ev (a : ByteArray) (hs : a.size ≤ 9223372036854000000) : ∃ x, Ev (fun k => impl_readFields.f k a) (readR x [] (readV a)) := by
  have h0 := bt_range a 0
  unfold impl_readFields.f readV
  by_cases h1 : a.size = 0
  · refine ⟨[], ?_⟩
    simp only [if_pos ((toList_nil_iff a).2 h1), if_pos h1]
    exact Ev.step (fun k => by rw [impl_readFields.j0, if_pos rfl]; rfl) (Ev.now _)
  simp only [if_neg (mt (toList_nil_iff a).1 h1), if_neg h1, if_pos (show (0 : Int) < (a.size : Int) by omega)]
  by_cases h2 : 40 < bt a 0
  · refine ⟨[], ?_⟩
    simp only [if_pos h2, decide_eq_true (show bt a 0 > 40 from h2)]
    exact Ev.step (fun k => by rw [impl_readFields.j0, if_pos rfl]; rfl) (Ev.now _)
  simp only [if_neg h2, decide_eq_false (show ¬ bt a 0 > 40 from h2)]
  obtain ⟨x, hx⟩ := readFields_go (bt a 0).toNat (by omega) (bt a 0).toNat 0 [] (a.extract 1 a.size) (by omega) (by simp) (by rw [size_ext]; omega)
  refine ⟨x, Ev.step (fun k => ?_) hx⟩
  rw [impl_readFields.j0, if_neg (by decide), if_pos (by omega), if_pos (by omega), wid (n := bt a 0) (by omega) (by omega), show (((bt a 0).toNat : Nat) : Int) = bt a 0 by omega]
  rfl

set_option maxHeartbeats 2000000 in
theorem l02Read_go (a : ByteArray) (hs : a.size ≤ 9223372036854000000) : ∀ (d p : Nat) (out : List ByteArray), d ≤ 40 → out.length + d ≤ 40 → p ≤ a.size →
    ∃ x, Ev (fun k => spec_l02Read.l0 k a out (p : Int) (d : Int)) (readR x out (readN d (a.extract p a.size))) := by
  intro d
  induction d with
  | zero =>
    intro p out hd ho hp
    rw [readN, size_ext]
    by_cases h : p = a.size
    · rw [if_pos (by omega)]
      refine ⟨[], Ev.step (fun k => ?_) (Ev.now _)⟩
      rw [spec_l02Read.l0, if_neg (by decide), if_pos (by omega)]
      simp [readR]
    · rw [if_neg (by omega)]
      refine ⟨[], Ev.step (fun k => ?_) (Ev.now _)⟩
      rw [spec_l02Read.l0, if_neg (by decide), if_neg (by omega)]
      rfl
  | succ d ih =>
    intro p out hd ho hp
    have hsz : (a.extract p a.size).size = a.size - p := by rw [size_ext]; omega
    rw [readN, hsz]
    by_cases h1 : a.size - p < 2
    · rw [if_pos h1]
      refine ⟨[], Ev.step (fun k => ?_) (Ev.now _)⟩
      rw [spec_l02Read.l0, if_pos (by omega), wid (n := (p : Int) + 2) (by omega) (by omega), if_pos (by omega)]
      rfl
    rw [if_neg h1]
    have hb := hd2_bd (a.extract p a.size)
    have b0 := bt_ext a p a.size 0 (by omega)
    have b1 := bt_ext a p a.size 1 (by omega)
    have r0 := bt_range a (p : Int)
    have r1 := bt_range a ((p + 1 : Nat) : Int)
    have em : bt a (p : Int) * 256 + bt a ((p + 1 : Nat) : Int) = (hd2 (a.extract p a.size) : Int) := by
      rw [hb.2]
      have e0 : bt (a.extract p a.size) 0 = bt a (p : Int) := b0
      have e1 : bt (a.extract p a.size) 1 = bt a ((p + 1 : Nat) : Int) := b1
      rw [e0, e1]
    generalize hm : hd2 (a.extract p a.size) = m at *
    have ep1 : (p : Int) + 1 = ((p + 1 : Nat) : Int) := by omega
    have key : ∀ k, spec_l02Read.l0 (k + 1) a out (p : Int) ((d + 1 : Nat) : Int) = if 1000 < m then some (([] : List ByteArray), false) else if a.size < p + 2 + m then some (([] : List ByteArray), false) else spec_l02Read.l0 k a (out ++ [a.extract (p + 2) (p + 2 + m)]) ((p + 2 + m : Nat) : Int) (d : Int) := by
      intro k
      rw [spec_l02Read.l0, if_pos (by omega), wid (n := (p : Int) + 2) (by omega) (by omega), if_neg (by omega), if_pos (by omega), if_pos (by omega), wid (n := (p : Int) + 1) (by omega) (by omega), if_pos (by omega), if_pos (by omega),
        wid (n := bt a (p : Int)) (by omega) (by omega), ep1, wid (n := bt a ((p + 1 : Nat) : Int)) (by omega) (by omega), wid (n := bt a (p : Int) * 256) (by omega) (by omega), em, wid (n := (m : Int)) (by omega) (by omega)]
      by_cases c1 : 1000 < m
      · rw [if_pos (by omega), if_pos c1]
      rw [if_neg (by omega), if_neg c1, wid (n := (p : Int) + 2 + (m : Int)) (by omega) (by omega)]
      by_cases c2 : a.size < p + 2 + m
      · rw [if_pos (by omega), if_pos c2]
      rw [if_neg (by omega), if_neg c2, if_pos (by omega), if_pos (by omega), if_pos (by omega), if_pos (by omega), wid (n := 2 + (m : Int)) (by omega) (by omega), wid (n := (p : Int) + (2 + (m : Int))) (by omega) (by omega), wid (by omega) (by omega)]
      rw [show ((p : Int) + 2).toNat = p + 2 by omega, show ((p : Int) + 2 + (m : Int)).toNat = p + 2 + m by omega, show (p : Int) + (2 + (m : Int)) = ((p + 2 + m : Nat) : Int) by omega, show (((d + 1 : Nat) : Int) - 1) = (d : Int) by omega]
    by_cases h2 : 1000 < m
    · rw [if_pos h2]
      exact ⟨[], Ev.step (fun k => by rw [key k, if_pos h2]; rfl) (Ev.now _)⟩
    rw [if_neg h2]
    by_cases h3 : a.size - p < 2 + m
    · rw [if_pos h3]
      exact ⟨[], Ev.step (fun k => by rw [key k, if_neg h2, if_pos (by omega)]; rfl) (Ev.now _)⟩
    rw [if_neg h3]
    obtain ⟨x, hx⟩ := ih (p + 2 + m) (out ++ [a.extract (p + 2) (p + 2 + m)]) (by omega) (by rw [List.length_append, List.length_singleton]; omega) (by omega)
    refine ⟨x, Ev.step (f := fun k => spec_l02Read.l0 k a (out ++ [a.extract (p + 2) (p + 2 + m)]) ((p + 2 + m : Nat) : Int) (d : Int)) (fun k => by rw [key k, if_neg h2, if_neg (by omega)]) ?_⟩
    have ea : (a.extract p a.size).extract 2 (2 + m) = a.extract (p + 2) (p + 2 + m) := by rw [ext_ext, Nat.add_assoc]
    have eb : (a.extract p a.size).extract (2 + m) (a.size - p) = a.extract (p + 2 + m) a.size := by rw [ext_ext, show p + (a.size - p) = a.size by omega, Nat.add_assoc]
    rw [ea, eb]
    have e : readR x (out ++ [a.extract (p + 2) (p + 2 + m)]) (readN d (a.extract (p + 2 + m) a.size)) = readR x out ((readN d (a.extract (p + 2 + m) a.size)).map (a.extract (p + 2) (p + 2 + m) :: ·)) := by
      cases readN d (a.extract (p + 2 + m) a.size) with
      | none => rfl
      | some l => simp [readR]
    rw [← e]
    exact hx
theorem l02Read_ev (a : ByteArray) (hs : a.size ≤ 9223372036854000000) : ∃ x, Ev (fun k => spec_l02Read.f k a) (readR x [] (readV a)) := by
  have h0 := bt_range a 0
  unfold spec_l02Read.f readV
  simp only [Option.bind_some]
  by_cases h1 : a.size = 0
  · refine ⟨[], ?_⟩
    simp only [if_pos ((toList_nil_iff a).2 h1), if_pos h1]
    exact Ev.step (fun k => by rw [spec_l02Read.j0, if_pos rfl]; rfl) (Ev.now _)
  simp only [if_neg (mt (toList_nil_iff a).1 h1), if_neg h1, if_pos (show (0 : Int) < (a.size : Int) by omega)]
  by_cases h2 : 40 < bt a 0
  · refine ⟨[], ?_⟩
    simp only [if_pos h2, decide_eq_true (show bt a 0 > 40 from h2)]
    exact Ev.step (fun k => by rw [spec_l02Read.j0, if_pos rfl]; rfl) (Ev.now _)
  simp only [if_neg h2, decide_eq_false (show ¬ bt a 0 > 40 from h2)]
  obtain ⟨x, hx⟩ := l02Read_go a hs (bt a 0).toNat 1 [] (by omega) (by simp; omega) (by omega)
  refine ⟨x, Ev.step (fun k => ?_) hx⟩
  rw [spec_l02Read.j0, if_neg (by decide), if_pos (by omega), wid (n := bt a 0) (by omega) (by omega), show (((bt a 0).toNat : Nat) : Int) = bt a 0 by omega]
  rfl

/-! ### what is read is written so -/
theorem ofNat_nat (c : UInt8) (n : Int) (h : n = (c.toNat : Int)) : UInt8.ofNat n.toNat = c := by
  subst h
  simp
theorem restV_of (n : Nat) : ∀ (s : ByteArray) (l : List ByteArray), readN n s = some l → s = restV l ∧ l.length = n ∧ ∀ x ∈ l, x.size ≤ 1000 := by
  induction n with
  | zero =>
    intro s l h
    rw [readN] at h
    split at h
    · rename_i h0
      injection h with h
      subst h
      exact ⟨ext_list (List.length_eq_zero_iff.1 (by rw [size_data]; exact h0)), rfl, by simp⟩
    · cases h
  | succ n ih =>
    intro s l h
    rw [readN] at h
    split at h
    · cases h
    rename_i h1
    split at h
    · cases h
    rename_i h2
    split at h
    · cases h
    rename_i h3
    obtain ⟨l', h4, rfl⟩ := Option.map_eq_some_iff.1 h
    obtain ⟨e1, e2, e3⟩ := ih _ _ h4
    have hsz : (s.extract 2 (2 + hd2 s)).size = hd2 s := by rw [size_ext]; omega
    refine ⟨?_, by rw [List.length_cons, e2], ?_⟩
    · rw [restV, ← e1]
      have hb := hd2_bd s
      have r0 := bt_range s 0
      have r1 := bt_range s 1
      have b0 := bt_list s 0 (by omega)
      have b1 := bt_list s 1 (by omega)
      apply ext_list
      rw [ByteArray.data_append, Array.toList_append]
      unfold fieldV
      rw [ByteArray.data_append, Array.toList_append, extract_list, extract_list, hsz, List.take_of_length_le (i := s.size) (by rw [size_data]; exact Nat.le_refl _)]
      have hl := size_data s
      match hd : s.data.toList with
      | [] => rw [hd] at hl; simp at hl; omega
      | [_] => rw [hd] at hl; simp at hl; omega
      | c0 :: c1 :: r =>
        rw [hd] at b0 b1
        simp only [List.getD_cons_zero, List.getD_cons_succ] at b0 b1
        have c0b := UInt8.toNat_lt c0
        have c1b := UInt8.toNat_lt c1
        have f0 : bt s 0 = (c0.toNat : Int) := b0
        have f1 : bt s 1 = (c1.toNat : Int) := b1
        have g0 : (hd2 s : Int) / 256 % 256 = (c0.toNat : Int) := by rw [hb.2, f0, f1]; omega
        have g1 : (hd2 s : Int) % 256 = (c1.toNat : Int) := by rw [hb.2, f0, f1]; omega
        rw [g0, g1]
        have hr : (strOfNums [(c0.toNat : Int), (c1.toNat : Int)]).data.toList = [c0, c1] := by simp [strOfNums]
        rw [hr]
        rw [show 2 + hd2 s = hd2 s + 1 + 1 by omega]
        simp
    · intro x hx
      rcases List.mem_cons.1 hx with rfl | hx
      · rw [hsz]; omega
      · exact e3 x hx
theorem readV_of {a : ByteArray} {l : List ByteArray} (h : readV a = some l) : a = fieldsV l ∧ l.length ≤ 40 ∧ ∀ x ∈ l, x.size ≤ 1000 := by
  unfold readV at h
  split at h
  · cases h
  rename_i h1
  split at h
  · cases h
  rename_i h2
  obtain ⟨e1, e2, e3⟩ := restV_of _ _ _ h
  have r0 := bt_range a 0
  have b0 := bt_list a 0 (by omega)
  refine ⟨?_, by omega, e3⟩
  unfold fieldsV
  rw [← e1, e2]
  apply ext_list
  rw [ByteArray.data_append, Array.toList_append, extract_list, List.take_of_length_le (i := a.size) (by rw [size_data]; exact Nat.le_refl _)]
  have hl := size_data a
  match hd : a.data.toList with
  | [] => rw [hd] at hl; simp at hl; omega
  | c0 :: r =>
    rw [hd] at b0
    simp only [List.getD_cons_zero] at b0
    have c0b := UInt8.toNat_lt c0
    have f0 : bt a 0 = (c0.toNat : Int) := b0
    have g0 : (((bt a 0).toNat : Nat) : Int) % 256 = (c0.toNat : Int) := by rw [f0]; omega
    rw [g0]
    have hr : (strOfNums [(c0.toNat : Int)]).data.toList = [c0] := by simp [strOfNums]
    rw [hr]
    simp
end Go.Proofs.YtabmfhnhmoiljaaGreatDoor.U

namespace Go.Proofs.YtabmfhnhmoiljaaGreatDoor.Q
open Go.RowKit Go.Proofs.YtabmfhnhmoiljaaGreatDoorW.PrintWords Go.Proofs.YtabmfhnhmoiljaaGreatDoorW.PrintLast Go.Proofs.YtabmfhnhmoiljaaGreatDoorW.PrintMore
open Go.Proofs.YtabmfhnhmoiljaaGreatDoorW.PrintWords.Aside0 renaming mk → ζa
open Go.Proofs.YtabmfhnhmoiljaaGreatDoorW.PrintWords renaming gate_callee → δv, pw_below_drewN → δi, below_step → δr
open List renaming map_toArray → δd, map_cons → δe, map_nil → δf
open Bool renaming true → τ, false → φ
attribute [local go_sem] max2_int min2_int max_two min_two max_three min_three max_four min_four   -- for this text's walks alone
set_option linter.unusedVariables false
set_option linter.unusedSimpArgs false

/-! ### impl_storeCode: function 62 -/
def impl_storeCode.j0:Nat→List (S51)→Bool→Option (Int)
 | 0,_,_=>none
 | k+1,x0,x5=>if x5=τ then (some 2) else ((impl_StoreOK.f k x0).bind fun t720=>(if t720=τ then (some 0) else (some 1)))
def impl_storeCode.f (k:Nat) (l0:List (S51)) (l1:List ByteArray):Option (Int):=(impl_isList_impl_Pair.f l0).bind fun t718=>(if t718=τ then ((impl_isText.f l1).bind fun t719=>(impl_storeCode.j0 k l0 (!t719))) else (impl_storeCode.j0 k l0 τ))
set_option maxHeartbeats 8000000 in
set_option maxRecDepth 100000 in
theorem impl_storeCode.calls (k:Nat) (A0:Option Addr) (c0:Nat) (l0:List (S51)) (A1:Option Addr) (c1:Nat) (l1:List ByteArray) (r:Int) (w:World) (hr0:Kd.C k51 w A0 l0.length l0) (hc0:l0.length≤c0) (hr1:Kd.C Kd.string w A1 l1.length l1) (hc1:l1.length≤c1) (h:impl_storeCode.f k l0 l1=some r) :
  Calls Tryz.prog 62 #[.slice A0 l0.length c0,.slice A1 l1.length c1] w fun e w'=>e = .returned (.int .i64 r)∧Below w.heap.size w w':=by
 have HR0:=ζa hr0
 have HC0:=ζa hc0
 clear hr0 hc0
 have HR1:=ζa hr1
 have HC1:=ζa hc1
 clear hr1 hc1
 have HB:=ζa (Below.refl w.heap.size w)
 have H:((impl_isList_impl_Pair.f l0).bind fun t718=>(if t718=τ then ((impl_isText.f l1).bind fun t719=>(impl_storeCode.j0 k l0 (!t719))) else (impl_storeCode.j0 k l0 τ)))=some r:=h
 clear h
 have HC3:=ζa H
 clear H
 go_enter Tryz.func62,Tryz.ntmps62
 go_upto_region 1 with (fail)
 go_cut [5] (fun v5 wc => ∃ (kq:Nat) (x5_2:Bool),v5 = .bool x5_2∧Aside0 (impl_storeCode.j0 kq l0 x5_2=some r)∧Aside0 (kq≤k)∧Aside0 (Below w.heap.size w wc))
 case first =>
  have H:=HC3.out
  clear HC3
  replace H:=Option.bind_eq_some_iff.mp H
  obtain ⟨t718,A40,H⟩:=H
  replace H:(if t718=τ then ((impl_isText.f l1).bind fun t719=>(impl_storeCode.j0 k l0 (!t719))) else (impl_storeCode.j0 k l0 τ))=some r:=H
  have A4:=ζa A40
  clear A40
  by_cases c5:t718=τ
  ·
   subst c5
   have H1:((impl_isText.f l1).bind fun t719=>(impl_storeCode.j0 k l0 (!t719)))=some r:=by rw [if_pos rfl] at H;exact H
   clear H
   have H:=H1
   clear H1
   replace H:=Option.bind_eq_some_iff.mp H
   obtain ⟨t719,A60,H⟩:=H
   replace H:(impl_storeCode.j0 k l0 (!t719))=some r:=H
   have A6:=ζa A60
   clear A60
   have H':=ζa H
   clear H
   go_wp2_with (first|((with_reducible refine δv (f:=80) rfl ?_);refine goesL_ (some 7) rfl rfl Tryz.func80 (by kernel_rfl) rfl #[.slice A0 l0.length c0] rfl (by (try simp only [δd,δe,δf]);rfl) ?_;(with_reducible refine (impl_isList_impl_Pair.calls _ _ l0 τ _ ?side1 ?side2 A4.out).mono ?_);(case side1=>repeat (exact (Kd.C_below HR0.out HB.out)));(case side2=>exact HC0.out);rintro e w' ⟨rfl,⟨nd,rfl⟩⟩;refine ⟨_,rfl,?_⟩)|(go_at_call 61;(with_reducible refine (impl_isText.calls _ _ l1 t719 _ ?side1 ?side2 A6.out).mono ?_);(case side1=>repeat (exact (Kd.C_below HR1.out (by repeat ((with_reducible first|exact HB.out|apply δi))))));(case side2=>exact HC1.out);rintro e w' ⟨rfl,⟨nd,rfl⟩⟩))
   go_meet
   case rel=>exact ⟨_,(!t719),(by rfl),H',⟨by omega⟩,⟨by repeat ((with_reducible first|exact HB.out|apply δi))⟩⟩
  ·
   replace c5:=Bool.eq_false_iff.mpr c5
   subst c5
   have H1:(impl_storeCode.j0 k l0 τ)=some r:=by rw [if_neg (show ¬ (φ=τ) by decide)] at H;exact H
   clear H
   have H:=H1
   clear H1
   have H':=ζa H
   clear H
   go_wp2_with (((with_reducible refine δv (f:=80) rfl ?_);refine goesL_ (some 7) rfl rfl Tryz.func80 (by kernel_rfl) rfl #[.slice A0 l0.length c0] rfl (by (try simp only [δd,δe,δf]);rfl) ?_;(with_reducible refine (impl_isList_impl_Pair.calls _ _ l0 φ _ ?side1 ?side2 A4.out).mono ?_);(case side1=>repeat (exact (Kd.C_below HR0.out HB.out)));(case side2=>exact HC0.out);rintro e w' ⟨rfl,⟨nd,rfl⟩⟩;refine ⟨_,rfl,?_⟩))
   go_meet
   case rel=>exact ⟨_,(τ),(by rfl),H',⟨by omega⟩,⟨by repeat ((with_reducible first|exact HB.out|apply δi))⟩⟩
 case rest =>
  clear HC3
  try clear c1
  try clear p2
  try clear c5
  try clear c6
  obtain ⟨kq,x5_2,rfl,HA,HJ2,HB⟩:=hcut
  cases kq with
  | zero=>exact absurd HA.out (by simp [impl_storeCode.j0])
  | succ kj2 =>
   have H:=HA.out
   clear HA
   simp only [impl_storeCode.j0] at H
   by_cases c7:x5_2=τ
   ·
    subst c7
    have H1:(some 2)=some r:=by rw [if_pos rfl] at H;exact H
    clear H
    have H:=H1
    clear H1
    obtain rfl:=Option.some.inj H
    go_wp2
    go_ret
    exact ⟨by rfl,by repeat ((with_reducible exact HB.out))⟩
   ·
    replace c7:=Bool.eq_false_iff.mpr c7
    subst c7
    have H1:((impl_StoreOK.f kj2 l0).bind fun t720=>(if t720=τ then (some 0) else (some 1)))=some r:=by rw [if_neg (show ¬ (φ=τ) by decide)] at H;exact H
    clear H
    have H:=H1
    clear H1
    replace H:=Option.bind_eq_some_iff.mp H
    obtain ⟨t720,A80,H⟩:=H
    replace H:(if t720=τ then (some 0) else (some 1))=some r:=H
    have A8:=ζa A80
    clear A80
    by_cases c9:t720=τ
    ·
     subst c9
     have H1:(some 0)=some r:=by rw [if_pos rfl] at H;exact H
     clear H
     have H:=H1
     clear H1
     obtain rfl:=Option.some.inj H
     go_wp2_with (((with_reducible refine δv (f:=81) rfl ?_);refine goesL_ (some 16) rfl rfl Tryz.func81 (by kernel_rfl) rfl #[.slice A0 l0.length c0] rfl (by (try simp only [δd,δe,δf]);rfl) ?_;(with_reducible refine (impl_StoreOK.calls kj2 _ _ l0 τ _ ?side1 ?side2 A8.out).mono ?_);(case side1=>repeat (exact (Kd.C_below HR0.out HB.out)));(case side2=>exact HC0.out);rintro e w10 ⟨rfl,hb⟩;refine ⟨_,rfl,?_⟩;replace HB:=ζa (δr (by exact HB.out) hb);(try clear hb);(try clear hb2);(try clear hk);(try clear hi)))
     go_ret
     exact ⟨by rfl,by repeat ((with_reducible exact HB.out))⟩
    ·
     replace c9:=Bool.eq_false_iff.mpr c9
     subst c9
     have H1:(some 1)=some r:=by rw [if_neg (show ¬ (φ=τ) by decide)] at H;exact H
     clear H
     have H:=H1
     clear H1
     obtain rfl:=Option.some.inj H
     go_wp2_with (((with_reducible refine δv (f:=81) rfl ?_);refine goesL_ (some 16) rfl rfl Tryz.func81 (by kernel_rfl) rfl #[.slice A0 l0.length c0] rfl (by (try simp only [δd,δe,δf]);rfl) ?_;(with_reducible refine (impl_StoreOK.calls kj2 _ _ l0 φ _ ?side1 ?side2 A8.out).mono ?_);(case side1=>repeat (exact (Kd.C_below HR0.out HB.out)));(case side2=>exact HC0.out);rintro e w11 ⟨rfl,hb⟩;refine ⟨_,rfl,?_⟩;replace HB:=ζa (δr (by exact HB.out) hb);(try clear hb);(try clear hb2);(try clear hk);(try clear hi)))
     go_ret
     exact ⟨by rfl,by repeat ((with_reducible exact HB.out))⟩

end Go.Proofs.YtabmfhnhmoiljaaGreatDoor.Q

/- A store is a row of pairs: its size, its copy, whether it stands, and what is found in it. -/
namespace Go.Proofs.YtabmfhnhmoiljaaGreatDoor.U
open Go Go.RowKit Go.Proofs.YtabmfhnhmoiljaaGreatDoor.Q Go.Proofs.YtabmfhnhmoiljaaGreatDoorW.PrintWords Go.Proofs.YtabmfhnhmoiljaaGreatDoorW.PrintLast Go.Proofs.YtabmfhnhmoiljaaGreatDoorW.PrintMore
set_option linter.unusedVariables false
set_option linter.unusedSimpArgs false

abbrev LP := S49
abbrev IP := S51
def toP (x : LP) : IP := ⟨x.f0, x.f1⟩
theorem rdL (l : List LP) (i : Nat) (h : i < l.length) : rd_T49 l (i : Int) = l[i] := by simp [rd_T49, List.getD_eq_getElem?_getD, List.getElem?_eq_getElem h]
theorem rdI (l : List IP) (i : Nat) (h : i < l.length) : rd_T51 l (i : Int) = l[i] := by simp [rd_T51, List.getD_eq_getElem?_getD, List.getElem?_eq_getElem h]

theorem szPair_ok (a b : ByteArray) (n : Int) (ha : a.size ≤ 9223372036854775807) (hb : b.size ≤ 9223372036854775807) (h0 : 0 ≤ n) (h1 : n ≤ 1048576) :
    ∃ z, laws_szPair.f a b n = some z ∧ (z < 0 ∨ (0 ≤ z ∧ z ≤ n ∧ a.size ≤ 1048576 ∧ b.size ≤ 1048576)) := by
  unfold laws_szPair.f
  rw [wid (n := n - (a.size : Int)) (by omega) (by omega)]
  by_cases c1 : n - (a.size : Int) < 0
  · exact ⟨-1, by rw [if_pos c1], .inl (by decide)⟩
  rw [if_neg c1, wid (n := n - (a.size : Int) - (b.size : Int)) (by omega) (by omega)]
  by_cases c2 : n - (a.size : Int) - (b.size : Int) < 0
  · exact ⟨-1, by rw [if_pos c2], .inl (by decide)⟩
  exact ⟨_, by rw [if_neg c2], .inr (by omega)⟩
/-- All pairs are short. -/
def Short (l : List LP) : Prop := l.length ≤ 1048576 ∧ ∀ x ∈ l, x.f0.size ≤ 1048576 ∧ x.f1.size ≤ 1048576
theorem szPairS_go (l : List LP) (hl : l.length ≤ 1048576) (hx : ∀ x ∈ l, x.f0.size ≤ 9223372036854775807 ∧ x.f1.size ≤ 9223372036854775807) : ∀ (d i : Nat) (n : Int), i + d = l.length → 0 ≤ n → n ≤ 1048576 →
    ∃ z, Ev (fun k => laws_szPairS.l0 k l n (i : Int)) z ∧ (z < 0 ∨ (0 ≤ z ∧ z ≤ n ∧ ∀ x ∈ l.drop i, x.f0.size ≤ 1048576 ∧ x.f1.size ≤ 1048576)) := by
  intro d
  induction d with
  | zero =>
    intro i n hi h0 h1
    refine ⟨n, Ev.step (fun k => ?_) (Ev.now _), .inr ⟨h0, Int.le_refl _, ?_⟩⟩
    · rw [laws_szPairS.l0, if_neg (by omega)]
    · rw [List.drop_of_length_le (by omega)]; simp
  | succ d ih =>
    intro i n hi h0 h1
    have hlt : i < l.length := by omega
    obtain ⟨z1, e1, hz1⟩ := szPair_ok l[i].f0 l[i].f1 n (hx _ (List.getElem_mem hlt)).1 (hx _ (List.getElem_mem hlt)).2 h0 h1
    have hstep : ∀ k, laws_szPairS.l0 (k + 1) l n (i : Int) = if z1 < 0 then some (-1) else laws_szPairS.l0 k l z1 ((i + 1 : Nat) : Int) := by
      intro k
      rw [laws_szPairS.l0, if_pos (by omega), if_pos (by omega), rdL l i hlt, e1, wid (n := (i : Int) + 1) (by omega) (by omega)]
      rfl
    by_cases hn : z1 < 0
    · exact ⟨-1, Ev.step hstep (by simp only [if_pos hn]; exact Ev.now _), .inl (by decide)⟩
    rcases hz1 with hz1 | ⟨hz0, hzn, ha, hb⟩
    · exact absurd hz1 hn
    obtain ⟨z, e2, hz⟩ := ih (i + 1) z1 (by omega) hz0 (by omega)
    refine ⟨z, Ev.step hstep (by simp only [if_neg hn]; exact e2), ?_⟩
    rcases hz with hz | ⟨hz1, hz2, hz3⟩
    · exact .inl hz
    refine .inr ⟨hz1, by omega, ?_⟩
    rw [List.drop_eq_getElem_cons hlt]
    intro x hxm
    rcases List.mem_cons.1 hxm with rfl | hxm
    · exact ⟨ha, hb⟩
    · exact hz3 x hxm
theorem szPairS_ev (l : List LP) (n : Int) (hl : l.length ≤ 9223372036854775807) (hx : ∀ x ∈ l, x.f0.size ≤ 9223372036854775807 ∧ x.f1.size ≤ 9223372036854775807) (h0 : 0 ≤ n) (h1 : n ≤ 1048576) :
    ∃ z, Ev (fun k => laws_szPairS.f k l n) z ∧ (z < 0 ∨ (0 ≤ z ∧ z ≤ n ∧ Short l)) := by
  unfold laws_szPairS.f
  rw [wid (n := n - (l.length : Int)) (by omega) (by omega)]
  by_cases c1 : n - (l.length : Int) < 0
  · exact ⟨-1, by simp only [if_pos c1]; exact Ev.now _, .inl (by decide)⟩
  simp only [if_neg c1]
  obtain ⟨z, e, hz⟩ := szPairS_go l (by omega) hx l.length 0 (n - (l.length : Int)) (by omega) (by omega) (by omega)
  refine ⟨z, e, ?_⟩
  rcases hz with hz | ⟨hz1, hz2, hz3⟩
  · exact .inl hz
  · exact .inr ⟨hz1, by omega, by omega, by simpa using hz3⟩

theorem toPairS_go (l : List LP) (hl : l.length ≤ 1048576) : ∀ (d i : Nat) (o : List IP), i + d = l.length → o.length = l.length → (∀ j, j < i → o[j]? = (l.map toP)[j]?) →
    Ev (fun k => laws_toPairS.l0 k l o (i : Int)) (l.map toP) := by
  intro d
  induction d with
  | zero =>
    intro i o hi ho hj
    have e : o = l.map toP := by
      apply List.ext_getElem?
      intro j
      by_cases h : j < i
      · exact hj j h
      · rw [List.getElem?_eq_none (by omega), List.getElem?_eq_none (by simp; omega)]
    refine Ev.step (fun k => ?_) (Ev.now _)
    rw [laws_toPairS.l0, if_neg (by omega), e]
  | succ d ih =>
    intro i o hi ho hj
    have hlt : i < l.length := by omega
    refine Ev.step (f := fun k => laws_toPairS.l0 k l (o.set i (toP l[i])) ((i + 1 : Nat) : Int)) (fun k => ?_) (ih (i + 1) (o.set i (toP l[i])) (by omega) (by simpa using ho) ?_)
    · rw [laws_toPairS.l0, if_pos (by omega), if_pos (by omega), rdL l i hlt]
      simp only [laws_toPair.f, Option.bind_some]
      rw [if_pos (by omega), wid (n := (i : Int) + 1) (by omega) (by omega)]
      rfl
    · intro j hji
      rw [List.getElem?_set]
      by_cases h : i = j
      · subst h
        rw [if_pos rfl, if_pos (by omega)]
        simp [hlt]
      · rw [if_neg h]
        exact hj j (by omega)
theorem toPairS_ev (l : List LP) (hl : l.length ≤ 1048576) : Ev (fun k => laws_toPairS.f k l) (l.map toP) := by
  unfold laws_toPairS.f
  simp only [if_pos (show (0 : Int) ≤ (l.length : Int) by omega), if_pos (show (l.length : Int).toNat ≤ 8796093022208 by omega)]
  exact toPairS_go l hl l.length 0 _ (by omega) (by simp) (by simp)
theorem eqPair_self (a b : ByteArray) : laws_eqPair.f a b a b = some true := by unfold laws_eqPair.f; rw [if_pos rfl, if_pos rfl]
theorem eqPairS_go (l : List IP) (hl : l.length ≤ 1048576) : ∀ (d i : Nat), i + d = l.length → Ev (fun k => laws_eqPairS.l0 k l l (i : Int)) true := by
  intro d
  induction d with
  | zero =>
    intro i hi
    exact Ev.step (fun k => by rw [laws_eqPairS.l0, if_neg (by omega)]) (Ev.now _)
  | succ d ih =>
    intro i hi
    refine Ev.step (f := fun k => laws_eqPairS.l0 k l l ((i + 1 : Nat) : Int)) (fun k => ?_) (ih (i + 1) (by omega))
    rw [laws_eqPairS.l0, if_pos (by omega), if_pos (by omega), if_pos (by omega), eqPair_self, wid (n := (i : Int) + 1) (by omega) (by omega)]
    rfl
theorem eqPairS_ev (l : List IP) (hl : l.length ≤ 1048576) : Ev (fun k => laws_eqPairS.f k l l) true := by
  unfold laws_eqPairS.f
  simp only [if_true]
  exact eqPairS_go l hl l.length 0 (by omega)

/-! ### whether it stands -/
def keyB (x : ByteArray) : Bool := decide (1 ≤ x.size ∧ x.size ≤ 60)
def valueB (x : ByteArray) : Bool := decide (x.size ≤ 1000)
def lessB (l : List IP) (i : Nat) : Bool := decide (i = 0) || Op.bytesLess ((rd_T51 l ((i : Int) - 1)).f0).toList ((rd_T51 l (i : Int)).f0).toList
def pairB (l : List IP) (i : Nat) : Bool := keyB (rd_T51 l (i : Int)).f0 && (valueB (rd_T51 l (i : Int)).f1 && lessB l i)
def fromB (l : List IP) : Nat → Nat → Bool
  | 0, _ => true
  | d + 1, i => pairB l i && fromB l d (i + 1)
/-- The store stands: keys and values are in their bounds, keys rise, and there are at most 400. -/
def storeB (l : List IP) : Bool := fromB l l.length 0 && decide (l.length ≤ 400)
theorem implKey_eq (x : ByteArray) : impl_isKey.f x = some (keyB x) := by
  unfold impl_isKey.f impl_within.f keyB
  by_cases h : (x.size : Int) ≥ 1
  · simp only [if_pos h, Option.bind_some]; congr 1; rw [decide_eq_decide]; omega
  · simp only [if_neg h, Option.bind_some]; congr 1; rw [eq_comm, decide_eq_false_iff_not]; omega
theorem specKey_eq (x : ByteArray) : spec_l03Key.f x = some (keyB x) := by
  unfold spec_l03Key.f spec_l01In.f keyB
  by_cases h : (x.size : Int) ≥ 1
  · simp only [if_pos h, Option.bind_some]; congr 1; rw [decide_eq_decide]; omega
  · simp only [if_neg h, Option.bind_some]; congr 1; rw [eq_comm, decide_eq_false_iff_not]; omega
theorem implValue_eq (x : ByteArray) : impl_isValue.f x = some (valueB x) := by
  unfold impl_isValue.f valueB; congr 1; rw [decide_eq_decide]; omega
theorem specPair_eq (x y : ByteArray) : spec_l03Pair.f x y = some (keyB x && valueB y) := by
  unfold spec_l03Pair.f valueB
  rw [specKey_eq]
  simp only [Option.bind_some]
  cases keyB x with
  | false => rfl
  | true => simp only [if_true, Bool.true_and]; congr 1; rw [decide_eq_decide]; omega
theorem specStore_go (l : List IP) (hl : l.length ≤ 1048576) : ∀ (d i : Nat), i + d = l.length → Ev (fun k => spec_StoreOK.l0 k l (i : Int)) (fromB l d i) := by
  intro d
  induction d with
  | zero =>
    intro i hi
    exact Ev.step (fun k => by rw [spec_StoreOK.l0, if_neg (by omega)]; rfl) (Ev.now _)
  | succ d ih =>
    intro i hi
    have hstep : ∀ k, spec_StoreOK.l0 (k + 1) l (i : Int) = if pairB l i = true then spec_StoreOK.l0 k l ((i + 1 : Nat) : Int) else some false := by
      intro k
      rw [spec_StoreOK.l0, if_pos (by omega), if_pos (by omega), specPair_eq]
      simp only [Option.bind_some, pairB, lessB]
      rw [wid (n := (i : Int) + 1) (by omega) (by omega)]
      rcases Bool.eq_false_or_eq_true (keyB (rd_T51 l (i : Int)).f0) with hk | hk
      · rcases Bool.eq_false_or_eq_true (valueB (rd_T51 l (i : Int)).f1) with hv | hv
        · simp only [hk, hv, Bool.true_and, Bool.and_self, if_true]
          by_cases h0 : i = 0
          · subst h0; simp
          · rw [if_pos (show (i : Int) > 0 by omega), wid (n := (i : Int) - 1) (by omega) (by omega), if_pos (by omega), if_pos (by omega), decide_eq_false h0, Bool.false_or]
            rfl
        · simp only [hk, hv, Bool.true_and, Bool.and_false, Bool.false_and, Bool.false_eq_true, if_false, if_true]
      · simp only [hk, Bool.false_and, Bool.false_eq_true, if_false]
    have h2 := ih (i + 1) (by omega)
    refine Ev.step hstep ?_
    rw [fromB]
    cases pairB l i with
    | false => exact Ev.now _
    | true => simp only [if_true, Bool.true_and]; exact h2
theorem specStoreOK_ev (l : List IP) (hl : l.length ≤ 1048576) : Ev (fun k => spec_StoreOK.f k l) (storeB l) := by
  unfold spec_StoreOK.f storeB
  by_cases h1 : (l.length : Int) > 4096
  · simp only [if_pos h1, decide_eq_false (show ¬ l.length ≤ 400 by omega), Bool.and_false]; exact Ev.now _
  simp only [if_neg h1]
  by_cases h2 : (l.length : Int) > 400
  · simp only [if_pos h2, decide_eq_false (show ¬ l.length ≤ 400 by omega), Bool.and_false]; exact Ev.now _
  simp only [if_neg h2, decide_eq_true (show l.length ≤ 400 by omega), Bool.and_true]
  exact specStore_go l hl l.length 0 (by omega)
theorem implStore_go (l : List IP) (hl : l.length ≤ 1048576) : ∀ (d i : Nat), i + d = l.length → Ev (fun k => impl_StoreOK.l0 k l l (l.length : Int) (i : Int)) (fromB l d i && decide (l.length ≤ 400)) := by
  intro d
  induction d with
  | zero =>
    intro i hi
    refine Ev.step (fun k => ?_) (Ev.now _)
    rw [impl_StoreOK.l0, if_neg (by omega), fromB, Bool.true_and]
    congr 1; rw [decide_eq_decide]; omega
  | succ d ih =>
    intro i hi
    have hstep : ∀ k, impl_StoreOK.l0 (k + 1) l l (l.length : Int) (i : Int) = if pairB l i = true then impl_StoreOK.l0 k l l (l.length : Int) ((i + 1 : Nat) : Int) else some false := by
      intro k
      rw [impl_StoreOK.l0, if_pos (by omega), if_pos (by omega), if_pos (by omega), implKey_eq, implValue_eq]
      simp only [Option.bind_some, pairB, lessB]
      rw [wid (n := (i : Int) + 1) (by omega) (by omega)]
      rcases Bool.eq_false_or_eq_true (keyB (rd_T51 l (i : Int)).f0) with hk | hk
      · rcases Bool.eq_false_or_eq_true (valueB (rd_T51 l (i : Int)).f1) with hv | hv
        · simp only [hk, hv, Bool.true_and, Bool.and_self, if_true]
          by_cases h0 : i = 0
          · subst h0; simp
          · rw [if_pos (show (i : Int) > 0 by omega), wid (n := (i : Int) - 1) (by omega) (by omega), if_pos (by omega), if_pos (by omega), decide_eq_false h0, Bool.false_or]
            rfl
        · simp only [hk, hv, Bool.true_and, Bool.and_false, Bool.false_and, Bool.false_eq_true, if_false, if_true]
      · simp only [hk, Bool.false_and, Bool.false_eq_true, if_false]
    have h2 := ih (i + 1) (by omega)
    refine Ev.step hstep ?_
    rw [fromB]
    cases pairB l i with
    | false => exact Ev.now _
    | true => simp only [if_true, Bool.true_and]; exact h2
theorem implStoreOK_ev (l : List IP) (hl : l.length ≤ 1048576) : Ev (fun k => impl_StoreOK.f k l) (storeB l) := by
  unfold impl_StoreOK.f storeB
  exact implStore_go l hl l.length 0 (by omega)
/-- The code of a store, no texts being too long. -/
def storeV (l : List IP) : Int := if l.length ≤ 4096 then (if storeB l = true then 0 else 1) else 2
theorem storeCode_ev (l : List IP) (ts : List ByteArray) (hl : l.length ≤ 1048576) :
    Ev (fun k => impl_storeCode.f k l ts) (if l.length ≤ 4096 ∧ (ts.any fun t => decide ((t.size : Int) > 65536)) = false then (if storeB l = true then 0 else 1) else 2) := by
  unfold impl_storeCode.f impl_isList_impl_Pair.f impl_isText.f
  simp only [Option.bind_some]
  have hbad : Ev (fun k => impl_storeCode.j0 k l true) 2 := Ev.step (fun k => by rw [impl_storeCode.j0, if_pos rfl]) (Ev.now _)
  by_cases h1 : l.length ≤ 4096
  · rw [decide_eq_true (show (l.length : Int) ≤ 4096 by omega)]
    simp only [if_true]
    cases h2 : (ts.any fun t => decide ((t.size : Int) > 65536)) with
    | true => simp only [Bool.not_true, Bool.not_false, Bool.true_eq_false, and_false, if_false]; exact hbad
    | false =>
      simp only [Bool.not_false, Bool.not_true, h1, and_true, if_true]
      refine Ev.step (fun k => by rw [impl_storeCode.j0, if_neg (by decide)]) (Ev.bind (implStoreOK_ev l hl) ?_)
      cases storeB l with
      | false => exact Ev.now _
      | true => simp only [if_true]; exact Ev.now _
  · rw [decide_eq_false (show ¬ (l.length : Int) ≤ 4096 by omega), if_neg (by simp [h1])]
    exact hbad
end Go.Proofs.YtabmfhnhmoiljaaGreatDoor.U

/- What is found in a store: the reference's search and the program's take the same steps. -/
namespace Go.Proofs.YtabmfhnhmoiljaaGreatDoor.U
open Go Go.RowKit Go.Proofs.YtabmfhnhmoiljaaGreatDoor.Q Go.Proofs.YtabmfhnhmoiljaaGreatDoorW.PrintWords Go.Proofs.YtabmfhnhmoiljaaGreatDoorW.PrintLast Go.Proofs.YtabmfhnhmoiljaaGreatDoorW.PrintMore
set_option linter.unusedVariables false
set_option linter.unusedSimpArgs false

theorem cmp_neg : ∀ a b : List UInt8, Lib.compareBytes a b < 0 ↔ Op.bytesLess a b = true
  | [], [] => by simp [Lib.compareBytes, Op.bytesLess]
  | [], _ :: _ => by simp [Lib.compareBytes, Op.bytesLess]
  | _ :: _, [] => by simp [Lib.compareBytes, Op.bytesLess]
  | a :: x, b :: y => by
    rw [Lib.compareBytes, Op.bytesLess]
    by_cases h1 : a < b
    · simp [h1]
    · by_cases h2 : b < a
      · have h3 : ¬ a = b := fun e => by subst e; exact h1 h2
        simp [h1, h2, h3]
      · have h3 : a = b := UInt8.le_antisymm (UInt8.not_lt.1 h2) (UInt8.not_lt.1 h1)
        subst h3
        simp [h1, cmp_neg x y]
theorem cmp_zero : ∀ a b : List UInt8, Lib.compareBytes a b = 0 ↔ a = b
  | [], [] => by simp [Lib.compareBytes]
  | [], _ :: _ => by simp [Lib.compareBytes]
  | _ :: _, [] => by simp [Lib.compareBytes]
  | a :: x, b :: y => by
    rw [Lib.compareBytes]
    by_cases h1 : a < b
    · have h3 : ¬ a = b := fun e => by subst e; exact UInt8.lt_irrefl _ h1
      simp [h1, h3]
    · by_cases h2 : b < a
      · have h3 : ¬ a = b := fun e => by subst e; exact h1 h2
        simp [h1, h2, h3]
      · have h3 : a = b := UInt8.le_antisymm (UInt8.not_lt.1 h2) (UInt8.not_lt.1 h1)
        subst h3
        simp [h1, cmp_zero x y]
/-- Where a key's search ends. -/
def atV (l : List IP) (key : ByteArray) : Nat → Nat → Nat → Nat
  | 0, i, _ => i
  | f + 1, i, j => if i < j then (if Op.bytesLess ((rd_T51 l (((i + j) / 2 : Nat) : Int)).f0).toList key.toList = true then atV l key f ((i + j) / 2 + 1) j else atV l key f i ((i + j) / 2)) else i
theorem atV_bd (l : List IP) (key : ByteArray) : ∀ (f i j : Nat), i ≤ j → i ≤ atV l key f i j ∧ atV l key f i j ≤ j
  | 0, i, j, h => ⟨Nat.le_refl _, h⟩
  | f + 1, i, j, h => by
    rw [atV]
    by_cases h1 : i < j
    · rw [if_pos h1]
      split
      · have := atV_bd l key f ((i + j) / 2 + 1) j (by omega); omega
      · have := atV_bd l key f i ((i + j) / 2) (by omega); omega
    · rw [if_neg h1]; omega
theorem specAt_go (l : List IP) (key : ByteArray) (hl : l.length ≤ 1048576) : ∀ (f i j : Nat), j - i < f → i ≤ j → j ≤ l.length → Ev (fun k => spec_l03At.l0 k l key (i : Int) (j : Int)) (atV l key f i j : Int)
  | 0, i, j, h, _, _ => by omega
  | f + 1, i, j, h, hij, hj => by
    rw [atV]
    by_cases h1 : i < j
    · rw [if_pos h1]
      have e1 : wrap64 (Int.tdiv (wrap64 ((i : Int) + (j : Int))) 2) = (((i + j) / 2 : Nat) : Int) := by
        rw [wid (n := (i : Int) + (j : Int)) (by omega) (by omega), tdiv_nn (by omega), wid (by omega) (by omega)]; omega
      have hstep : ∀ k, spec_l03At.l0 (k + 1) l key (i : Int) (j : Int) = if Op.bytesLess ((rd_T51 l (((i + j) / 2 : Nat) : Int)).f0).toList key.toList = true then spec_l03At.l0 k l key (((i + j) / 2 + 1 : Nat) : Int) (j : Int) else spec_l03At.l0 k l key (i : Int) (((i + j) / 2 : Nat) : Int) := by
        intro k
        rw [spec_l03At.l0, if_pos (by omega), e1, if_pos (by omega), if_pos (by omega), wid (n := (((i + j) / 2 : Nat) : Int) + 1) (by omega) (by omega)]
        rfl
      refine Ev.step hstep ?_
      split
      · exact specAt_go l key hl f _ _ (by omega) (by omega) hj
      · exact specAt_go l key hl f _ _ (by omega) (by omega) (by omega)
    · rw [if_neg h1]
      exact Ev.step (fun k => by rw [spec_l03At.l0, if_neg (by omega)]) (Ev.now _)
theorem implAt_go (l : List IP) (key : ByteArray) (hl : l.length ≤ 1048576) : ∀ (f i j : Nat), j - i < f → i ≤ j → j ≤ l.length → Ev (fun k => impl_pairAt.l0 k l key (i : Int) (j : Int)) (atV l key f i j : Int)
  | 0, i, j, h, _, _ => by omega
  | f + 1, i, j, h, hij, hj => by
    rw [atV]
    by_cases h1 : i < j
    · rw [if_pos h1]
      have e1 : ((i : Int) + (j : Int)) / 2 = (((i + j) / 2 : Nat) : Int) := by omega
      have hstep : ∀ k, impl_pairAt.l0 (k + 1) l key (i : Int) (j : Int) = if Op.bytesLess ((rd_T51 l (((i + j) / 2 : Nat) : Int)).f0).toList key.toList = true then impl_pairAt.l0 k l key (((i + j) / 2 + 1 : Nat) : Int) (j : Int) else impl_pairAt.l0 k l key (i : Int) (((i + j) / 2 : Nat) : Int) := by
        intro k
        rw [impl_pairAt.l0, if_pos (by omega), e1, if_pos (by omega), if_pos (by omega), Lib.toList_data, Lib.toList_data]
        by_cases hb : Op.bytesLess ((rd_T51 l (((i + j) / 2 : Nat) : Int)).f0).data.toList key.data.toList = true
        · rw [if_pos hb, if_pos ((cmp_neg _ _).2 hb)]; rfl
        · rw [if_neg hb, if_neg (fun e => hb ((cmp_neg _ _).1 e))]
      refine Ev.step hstep ?_
      split
      · exact implAt_go l key hl f _ _ (by omega) (by omega) hj
      · exact implAt_go l key hl f _ _ (by omega) (by omega) (by omega)
    · rw [if_neg h1]
      exact Ev.step (fun k => by rw [impl_pairAt.l0, if_neg (by omega)]) (Ev.now _)
def atOf (l : List IP) (key : ByteArray) : Nat := atV l key (l.length + 1) 0 l.length
theorem atOf_le (l : List IP) (key : ByteArray) : atOf l key ≤ l.length := (atV_bd l key _ 0 l.length (by omega)).2
theorem specAt_ev (l : List IP) (key : ByteArray) (hl : l.length ≤ 1048576) : Ev (fun k => spec_l03At.f k l key) (atOf l key : Int) := specAt_go l key hl (l.length + 1) 0 l.length (by omega) (by omega) (by omega)
def hitB (l : List IP) (key : ByteArray) : Bool := decide (atOf l key < l.length) && (((rd_T51 l (atOf l key : Int)).f0).toList == key.toList)
theorem implAt_ev (l : List IP) (key : ByteArray) (hl : l.length ≤ 1048576) : Ev (fun k => impl_pairAt.f k l key) ((atOf l key : Int), hitB l key) := by
  unfold impl_pairAt.f
  refine Ev.bind (implAt_go l key hl (l.length + 1) 0 l.length (by omega) (by omega) (by omega)) ?_
  have hle := atOf_le l key
  have e : impl_pairAt.hit l key (atOf l key : Int) = hitB l key := by
    unfold impl_pairAt.hit hitB
    congr 1
    · rw [decide_eq_decide]; omega
    · rw [Lib.toList_data, Lib.toList_data, Bool.eq_iff_iff, beq_iff_eq, beq_iff_eq]
      exact cmp_zero _ _
  rw [show atV l key (l.length + 1) 0 l.length = atOf l key from rfl]
  simp only [if_pos (show (l.length : Int) < 1000000000000 by omega), if_pos (show (0 : Int) ≤ (atOf l key : Int) by omega), if_pos (show (atOf l key : Int) ≤ (l.length : Int) by omega), e]
  exact Ev.now _
/-- What is found, and whether. -/
def getV (l : List IP) (key : ByteArray) : ByteArray × Bool := if hitB l key = true then ((rd_T51 l (atOf l key : Int)).f1, true) else ((⟨#[]⟩ : ByteArray), false)
theorem specGet_ev (l : List IP) (key : ByteArray) (hl : l.length ≤ 1048576) : Ev (fun k => spec_l03Get.f k l key) (getV l key) := by
  unfold spec_l03Get.f getV hitB
  refine Ev.bind (specAt_ev l key hl) ?_
  by_cases h1 : atOf l key < l.length
  · simp only [if_pos (show (atOf l key : Int) < (l.length : Int) by omega), if_pos (show (0 : Int) ≤ (atOf l key : Int) by omega), decide_eq_true h1, Bool.true_and]
    by_cases h2 : ((rd_T51 l (atOf l key : Int)).f0).toList = key.toList
    · simp only [h2, beq_self_eq_true, if_true]; exact Ev.now _
    · simp only [if_neg h2, beq_eq_false_iff_ne.2 h2, Bool.false_eq_true, if_false]; exact Ev.now _
  · simp only [if_neg (show ¬ (atOf l key : Int) < (l.length : Int) by omega), decide_eq_false h1, Bool.false_and, Bool.false_eq_true, if_false]; exact Ev.now _
theorem implGet_ev (l : List IP) (key : ByteArray) (hl : l.length ≤ 1048576) : Ev (fun k => impl_get.f k l key) (getV l key) := by
  unfold impl_get.f getV
  refine Ev.bind (implAt_ev l key hl) ?_
  cases h : hitB l key with
  | false => simp only [Bool.false_eq_true, if_false]; exact Ev.now _
  | true =>
    have h1 : atOf l key < l.length := by
      unfold hitB at h
      rw [Bool.and_eq_true, decide_eq_true_iff] at h
      exact h.1
    simp only [if_true, if_pos (show (0 : Int) ≤ (atOf l key : Int) by omega), if_pos (show (atOf l key : Int) < (l.length : Int) by omega)]
    exact Ev.now _
end Go.Proofs.YtabmfhnhmoiljaaGreatDoor.U

/- Fields that are written are read back; amounts and bounds as both sides read them. -/
namespace Go.Proofs.YtabmfhnhmoiljaaGreatDoor.U
open Go Go.RowKit Go.Proofs.YtabmfhnhmoiljaaGreatDoor.Q Go.Proofs.YtabmfhnhmoiljaaGreatDoorW.PrintWords Go.Proofs.YtabmfhnhmoiljaaGreatDoorW.PrintLast Go.Proofs.YtabmfhnhmoiljaaGreatDoorW.PrintMore
set_option linter.unusedVariables false
set_option linter.unusedSimpArgs false

def someB (n : Int) : Bool := decide (1 ≤ n ∧ n ≤ 1000000000000000000)
def max0 (n : Int) : Int := if 0 ≤ n then n else 0
theorem within_eq (n a b : Int) : impl_within.f n a b = some (decide (a ≤ n ∧ n ≤ b)) := by
  unfold impl_within.f
  by_cases h : n ≥ a
  · rw [if_pos h]; congr 1; rw [decide_eq_decide]; omega
  · rw [if_neg h]; congr 1; rw [eq_comm, decide_eq_false_iff_not]; omega
theorem l01In_eq (n a b : Int) : spec_l01In.f n a b = some (decide (a ≤ n ∧ n ≤ b)) := by
  unfold spec_l01In.f
  by_cases h : n ≥ a
  · rw [if_pos h]; congr 1; rw [decide_eq_decide]; omega
  · rw [if_neg h]; congr 1; rw [eq_comm, decide_eq_false_iff_not]; omega
theorem isSome_eq (n : Int) : impl_isSome.f n = some (someB n) := by unfold impl_isSome.f; rw [within_eq]; rfl
theorem amountText_eq (n : Int) (h0 : 0 ≤ n) (h1 : n ≤ 9223372036854775807) : impl_amountText.f n = some (digV n.toNat) := by
  unfold impl_amountText.f strconv_Itoa.f
  rw [if_pos (by omega), if_pos h1, itoa_eq n h0]
  rfl
theorem readAmount_fst (a : ByteArray) (hs : a.size ≤ 281474976710656) : ∃ b, impl_readAmount.f a = some (max0 (amtV a), b) := by
  rw [readAmount_eq a hs]
  unfold max0
  by_cases h : 0 ≤ amtV a
  · rw [if_pos h, if_pos h]; exact ⟨_, rfl⟩
  · rw [if_neg h, if_neg h]; exact ⟨_, rfl⟩
theorem getV_size (l : List IP) (key : ByteArray) (B : Nat) (h : ∀ x ∈ l, x.f1.size ≤ B) : (getV l key).1.size ≤ B := by
  unfold getV
  split
  · rename_i hh
    unfold hitB at hh
    rw [Bool.and_eq_true, decide_eq_true_iff] at hh
    rw [rdI l _ hh.1]
    exact h _ (List.getElem_mem hh.1)
  · exact Nat.zero_le _
theorem getV_none (l : List IP) (key : ByteArray) (h : (getV l key).2 = false) : (getV l key).1 = ⟨#[]⟩ := by
  unfold getV at *
  split
  · rename_i hh; rw [if_pos hh] at h; cases h
  · rfl
theorem readV_empty : readV (⟨#[]⟩ : ByteArray) = none := by unfold readV; rw [if_pos (by rfl)]

/-! ### what is written is read back -/
theorem ofNums2 (n : Nat) (h : n ≤ 65535) : ∃ a b : UInt8, strOfNums [(n : Int) / 256 % 256, (n : Int) % 256] = ⟨#[a, b]⟩ ∧ (a.toNat : Int) * 256 + b.toNat = n := by
  refine ⟨UInt8.ofNat (n / 256), UInt8.ofNat (n % 256), ?_, ?_⟩
  · have e1 : ((n : Int) / 256 % 256).toNat = n / 256 := by omega
    have e2 : ((n : Int) % 256).toNat = n % 256 := by omega
    simp [strOfNums, e1, e2]
  · rw [UInt8.toNat_ofNat', UInt8.toNat_ofNat']; omega
theorem readN_restV : ∀ (l : List ByteArray), (∀ x ∈ l, x.size ≤ 1000) → readN l.length (restV l) = some l
  | [], _ => by rw [List.length_nil, readN]; rfl
  | x :: xs, h => by
    have hx := h x (by simp)
    obtain ⟨a, b, e, hab⟩ := ofNums2 x.size (by omega)
    have ih := readN_restV xs (fun y hy => h y (by simp [hy]))
    have hl : (restV (x :: xs)).data.toList = a :: b :: (x.data.toList ++ (restV xs).data.toList) := by
      rw [restV, fieldV, e]
      simp
    have hsz : (restV (x :: xs)).size = 2 + x.size + (restV xs).size := by
      rw [← size_data, hl, List.length_cons, List.length_cons, List.length_append, size_data, size_data]; omega
    generalize restV (x :: xs) = s at *
    have b0 := bt_list s 0 (by omega)
    have b1 := bt_list s 1 (by omega)
    rw [hl] at b0 b1
    simp only [List.getD_cons_zero, List.getD_cons_succ] at b0 b1
    have f0 : bt s 0 = (a.toNat : Int) := b0
    have f1 : bt s 1 = (b.toNat : Int) := b1
    have hh : hd2 s = x.size := by
      have := (hd2_bd s).2
      rw [f0, f1, hab] at this
      omega
    rw [List.length_cons, readN, hh, if_neg (by omega), if_neg (by omega), if_neg (by omega)]
    have e1 : s.extract 2 (2 + x.size) = x := by
      apply ext_list
      rw [extract_list, hl, show 2 + x.size = x.size + 1 + 1 by omega]
      simp only [List.take_succ_cons, List.drop_succ_cons, List.drop_zero]
      exact List.take_left' (size_data x)
    have e2 : s.extract (2 + x.size) s.size = restV xs := by
      apply ext_list
      rw [extract_list, List.take_of_length_le (by rw [size_data]; exact Nat.le_refl _), hl, show 2 + x.size = x.size + 1 + 1 by omega]
      simp only [List.drop_succ_cons]
      exact List.drop_left' (size_data x)
    rw [e1, e2, ih]
    rfl
theorem readV_fieldsV (l : List ByteArray) (hl : l.length ≤ 40) (hx : ∀ x ∈ l, x.size ≤ 1000) : readV (fieldsV l) = some l := by
  have hlist : (fieldsV l).data.toList = UInt8.ofNat l.length :: (restV l).data.toList := by
    unfold fieldsV
    have : ((l.length : Int) % 256).toNat = l.length := by omega
    simp [strOfNums, this]
  have hsz : (fieldsV l).size = 1 + (restV l).size := by rw [← size_data, hlist, List.length_cons, size_data]; omega
  have e2 : (fieldsV l).extract 1 (fieldsV l).size = restV l := by
    apply ext_list
    rw [extract_list, List.take_of_length_le (by rw [size_data]; exact Nat.le_refl _), hlist]
    rfl
  have b0 := bt_list (fieldsV l) 0 (by omega)
  rw [hlist] at b0
  simp only [List.getD_cons_zero] at b0
  have f0 : bt (fieldsV l) 0 = (l.length : Int) := by
    refine (show bt (fieldsV l) 0 = _ from b0).trans ?_
    rw [UInt8.toNat_ofNat']; omega
  unfold readV
  rw [if_neg (by omega), f0, if_neg (by omega), e2, Int.toNat_natCast]
  exact readN_restV l hx
theorem fieldsV_inj {l l' : List ByteArray} (hl : l.length ≤ 40) (hx : ∀ x ∈ l, x.size ≤ 1000) (hl' : l'.length ≤ 40) (hx' : ∀ x ∈ l', x.size ≤ 1000) (h : fieldsV l = fieldsV l') : l = l' := by
  have h1 := readV_fieldsV l hl hx
  have h2 := readV_fieldsV l' hl' hx'
  rw [h, h2] at h1
  exact (Option.some.inj h1).symm

end Go.Proofs.YtabmfhnhmoiljaaGreatDoor.U

/- A pool as it stands in a store: the program's reading is the reference's. -/
namespace Go.Proofs.YtabmfhnhmoiljaaGreatDoor.U
open Go Go.RowKit Go.Proofs.YtabmfhnhmoiljaaGreatDoor.Q Go.Proofs.YtabmfhnhmoiljaaGreatDoorW.PrintWords Go.Proofs.YtabmfhnhmoiljaaGreatDoorW.PrintLast Go.Proofs.YtabmfhnhmoiljaaGreatDoorW.PrintMore
set_option linter.unusedVariables false
set_option linter.unusedSimpArgs false

/-! ### pools -/
def poolB (a b c : Int) : Bool := (a == 0 && (b == 0 && c == 0)) || (someB a && (someB b && someB c))
def poolR (v : ByteArray) : Int × Int × Int :=
  match readV v with
  | some [x, y, z] => if poolB (amtV x) (amtV y) (amtV z) = true then (amtV x, amtV y, amtV z) else (0, 0, 0)
  | _ => (0, 0, 0)
theorem implPoolOK_eq (a b c : Int) : impl_PoolOK.f a b c = some (poolB a b c) := by
  unfold impl_PoolOK.f poolB
  simp only [isSome_eq, Option.bind_some]
  cases (a == 0 && (b == 0 && c == 0)) with
  | true => simp
  | false => cases someB a <;> cases someB b <;> simp
theorem specPoolOK_ev (a b c : Int) : Ev (fun k => spec_PoolOK.f k a b c) (poolB a b c) := by
  have key : ∀ z, Ev (fun k => spec_PoolOK.j0 k z a b c) (z || (someB a && (someB b && someB c))) := by
    intro z
    refine Ev.step (fun k => ?_) (Ev.now _)
    rw [spec_PoolOK.j0, l01In_eq, l01In_eq, l01In_eq]
    simp only [Option.bind_some]
    unfold someB
    cases z with
    | true => rfl
    | false =>
      simp only [Bool.false_eq_true, if_false, Bool.false_or]
      cases decide (1 ≤ a ∧ a ≤ 1000000000000000000) <;> cases decide (1 ≤ b ∧ b ≤ 1000000000000000000) <;> simp
  unfold spec_PoolOK.f poolB
  by_cases h1 : a = 0
  · simp only [if_pos h1, beq_iff_eq.2 h1, Bool.true_and]
    by_cases h2 : b = 0
    · simp only [if_pos h2, beq_iff_eq.2 h2, Bool.true_and]; exact key _
    · simp only [if_neg h2, beq_eq_false_iff_ne.2 h2, Bool.false_and]; exact key _
  · simp only [if_neg h1, beq_eq_false_iff_ne.2 h1, Bool.false_and]; exact key _
theorem three {α : Type} (l : List α) (h : l.length = 3) : ∃ x y z, l = [x, y, z] := by
  match l, h with
  | [x, y, z], _ => exact ⟨x, y, z, rfl⟩
theorem poolR_ne (v : ByteArray) (l : List ByteArray) (h : readV v = some l) (hl : l.length ≠ 3) : poolR v = (0, 0, 0) := by
  unfold poolR
  rw [h]
  match l with
  | [] => rfl
  | [_] => rfl
  | [_, _] => rfl
  | [_, _, _] => exact absurd rfl hl
  | _ :: _ :: _ :: _ :: _ => rfl
theorem specFind_ev (l : List IP) (hl : l.length ≤ 1048576) (hv : ∀ x ∈ l, x.f1.size ≤ 1048576) : Ev (fun k => spec_l10Find.f k l) (poolR (getV l (⟨#[112]⟩ : ByteArray)).1) := by
  have hsz := getV_size l (⟨#[112]⟩ : ByteArray) 1048576 hv
  unfold spec_l10Find.f
  refine Ev.bind (specGet_ev l _ hl) ?_
  have hn := getV_none l (⟨#[112]⟩ : ByteArray)
  generalize hg : getV l (⟨#[112]⟩ : ByteArray) = g at *
  obtain ⟨v, ok⟩ := g
  simp only at hsz hn ⊢
  obtain ⟨x, hx⟩ := l02Read_ev v (by omega)
  refine Ev.bind hx ?_
  have hbad : ∀ x4, Ev (fun k => spec_l10Find.j0 k x4 true) (0, 0, 0) := fun x4 => Ev.step (fun k => by rw [spec_l10Find.j0, if_pos rfl]) (Ev.now _)
  cases hr : readV v with
  | none =>
    have e : poolR v = (0, 0, 0) := by unfold poolR; rw [hr]
    rw [e]
    simp only [readR, Bool.false_eq_true, if_false]
    cases ok <;> exact hbad _
  | some fs =>
    obtain ⟨_, _, hfs⟩ := readV_of hr
    simp only [readR, List.nil_append, if_true]
    cases ok with
    | false =>
      rw [hn rfl, readV_empty] at hr
      cases hr
    | true =>
      simp only [if_true]
      by_cases h3 : fs.length = 3
      · obtain ⟨a, b, c, rfl⟩ := three fs h3
        have ha := hfs a (by simp)
        have hb := hfs b (by simp)
        have hc := hfs c (by simp)
        have L3 : ((([a, b, c] : List ByteArray).length : Nat) : Int) = 3 := rfl
        have e : (((([a, b, c] : List ByteArray).length : Nat) : Int) != 3) = false := rfl
        rw [e]
        have d0 : rdOf ByteArray.empty [a, b, c] 0 = a := rfl
        have d1 : rdOf ByteArray.empty [a, b, c] 1 = b := rfl
        have d2 : rdOf ByteArray.empty [a, b, c] 2 = c := rfl
        refine Ev.step (f := fun k => (spec_l02Of.f k a).bind fun t1 => (spec_l02Of.f k b).bind fun t2 => (spec_l02Of.f k c).bind fun t3 => (spec_PoolOK.f k t1 t2 t3).bind fun t => if t = true then some (t1, t2, t3) else some (0, 0, 0)) (fun k => by
          rw [spec_l10Find.j0, if_neg (by decide), L3, d0, d1, d2, if_pos (show (0 : Int) < 3 by decide)]
          simp only [if_pos (show (1 : Int) < 3 by decide), if_pos (show (2 : Int) < 3 by decide)]) ?_
        refine Ev.bind (l02Of_ev a (by omega)) (Ev.bind (l02Of_ev b (by omega)) (Ev.bind (l02Of_ev c (by omega)) (Ev.bind (specPoolOK_ev _ _ _) ?_)))
        have e2 : poolR v = if poolB (amtV a) (amtV b) (amtV c) = true then (amtV a, amtV b, amtV c) else (0, 0, 0) := by unfold poolR; rw [hr]
        rw [e2]
        cases poolB (amtV a) (amtV b) (amtV c) <;> exact Ev.now _
      · have e : (((fs.length : Nat) : Int) != 3) = true := by rw [bne_iff_ne]; omega
        rw [e, poolR_ne v fs hr h3]
        exact hbad _
theorem poolValue_ev (a b c : Int) (ha : 0 ≤ a ∧ a ≤ 1000000000000000000) (hb : 0 ≤ b ∧ b ≤ 1000000000000000000) (hc : 0 ≤ c ∧ c ≤ 1000000000000000000) : Ev (fun k => impl_Pool_value.f k a b c) (fieldsV [digV a.toNat, digV b.toNat, digV c.toNat]) := by
  unfold impl_Pool_value.f
  rw [amountText_eq a (by omega) (by omega), amountText_eq b (by omega) (by omega), amountText_eq c (by omega) (by omega)]
  simp only [Option.bind_some]
  have s1 := digV_size a.toNat (by omega)
  have s2 := digV_size b.toNat (by omega)
  have s3 := digV_size c.toNat (by omega)
  refine Ev.bind (fields_ev _ (by simp) ?_) (Ev.now _)
  intro x hx
  simp only [List.mem_cons, List.mem_nil_iff, or_false] at hx
  rcases hx with rfl | rfl | rfl <;> omega
theorem poolB_bd {a b c : Int} (h : poolB a b c = true) : (0 ≤ a ∧ a ≤ 1000000000000000000) ∧ (0 ≤ b ∧ b ≤ 1000000000000000000) ∧ (0 ≤ c ∧ c ≤ 1000000000000000000) := by
  unfold poolB someB at h
  simp only [Bool.or_eq_true, Bool.and_eq_true, beq_iff_eq, decide_eq_true_iff] at h
  omega
theorem implPoolAt_ev (l : List IP) (hl : l.length ≤ 1048576) (hv : ∀ x ∈ l, x.f1.size ≤ 1048576) : Ev (fun k => impl_poolAt.f k l) (poolR (getV l (⟨#[112]⟩ : ByteArray)).1) := by
  have hsz := getV_size l (⟨#[112]⟩ : ByteArray) 1048576 hv
  unfold impl_poolAt.f
  refine Ev.bind (implGet_ev l _ hl) ?_
  generalize hg : getV l (⟨#[112]⟩ : ByteArray) = g at *
  obtain ⟨v, ok⟩ := g
  simp only at hsz ⊢
  obtain ⟨x, hx⟩ := readFields_ev v (by omega)
  refine Ev.bind hx ?_
  have hbad : ∀ x4, Ev (fun k => impl_poolAt.j0 k v x4 true) (0, 0, 0) := fun x4 => Ev.step (fun k => by rw [impl_poolAt.j0, if_pos rfl]) (Ev.now _)
  cases hr : readV v with
  | none =>
    have e : poolR v = (0, 0, 0) := by unfold poolR; rw [hr]
    rw [e]
    simp only [readR, Bool.false_eq_true, if_false]
    exact hbad _
  | some fs =>
    obtain ⟨hv1, _, hfs⟩ := readV_of hr
    simp only [readR, List.nil_append, if_true]
    by_cases h3 : fs.length = 3
    · obtain ⟨a, b, c, rfl⟩ := three fs h3
      have ha := hfs a (by simp)
      have hb := hfs b (by simp)
      have hc := hfs c (by simp)
      have L3 : ((([a, b, c] : List ByteArray).length : Nat) : Int) = 3 := rfl
      have e : (((([a, b, c] : List ByteArray).length : Nat) : Int) != 3) = false := rfl
      rw [e]
      obtain ⟨b1, e1⟩ := readAmount_fst a (by omega)
      obtain ⟨b2, e2⟩ := readAmount_fst b (by omega)
      obtain ⟨b3, e3⟩ := readAmount_fst c (by omega)
      have e4 : poolR v = if poolB (amtV a) (amtV b) (amtV c) = true then (amtV a, amtV b, amtV c) else (0, 0, 0) := by unfold poolR; rw [hr]
      have d0 : rdOf ByteArray.empty [a, b, c] 0 = a := rfl
      have d1 : rdOf ByteArray.empty [a, b, c] 1 = b := rfl
      have d2 : rdOf ByteArray.empty [a, b, c] 2 = c := rfl
      refine Ev.step (f := fun k => if poolB (max0 (amtV a)) (max0 (amtV b)) (max0 (amtV c)) = true then ((impl_Pool_value.f k (max0 (amtV a)) (max0 (amtV b)) (max0 (amtV c))).bind fun t => if t.toList = v.toList then some (max0 (amtV a), max0 (amtV b), max0 (amtV c)) else some (0, 0, 0)) else some (0, 0, 0)) (fun k => ?_) ?_
      · rw [impl_poolAt.j0, if_neg (by decide), L3, d0, d1, d2, e1, e2, e3, if_pos (show (0 : Int) < 3 by decide)]
        simp only [Option.bind_some, implPoolOK_eq, if_pos (show (1 : Int) < 3 by decide), if_pos (show (2 : Int) < 3 by decide)]
      · rw [e4]
        by_cases hp : poolB (max0 (amtV a)) (max0 (amtV b)) (max0 (amtV c)) = true
        · simp only [if_pos hp]
          obtain ⟨q1, q2, q3⟩ := poolB_bd hp
          refine Ev.bind (poolValue_ev _ _ _ q1 q2 q3) ?_
          by_cases hval : 0 ≤ amtV a ∧ 0 ≤ amtV b ∧ 0 ≤ amtV c
          · have m1 : max0 (amtV a) = amtV a := if_pos hval.1
            have m2 : max0 (amtV b) = amtV b := if_pos hval.2.1
            have m3 : max0 (amtV c) = amtV c := if_pos hval.2.2
            rw [m1, m2, m3] at hp ⊢
            rw [← (amtV_eq hval.1).1, ← (amtV_eq hval.2.1).1, ← (amtV_eq hval.2.2).1, ← hv1]
            simp only [if_pos hp, if_true]
            exact Ev.now _
          · have hz : max0 (amtV a) = 0 ∧ max0 (amtV b) = 0 ∧ max0 (amtV c) = 0 := by
              have l1 := amtV_low a
              have l2 := amtV_low b
              have l3 := amtV_low c
              unfold poolB someB max0 at hp
              unfold max0
              simp only [Bool.or_eq_true, Bool.and_eq_true, beq_iff_eq, decide_eq_true_iff] at hp
              repeat' split at hp
              all_goals repeat' split
              all_goals omega
            have hp2 : ¬ poolB (amtV a) (amtV b) (amtV c) = true := fun h => hval ⟨(poolB_bd h).1.1, (poolB_bd h).2.1.1, (poolB_bd h).2.2.1⟩
            rw [hz.1, hz.2.1, hz.2.2, if_neg hp2]
            split <;> exact Ev.now _
        · simp only [if_neg hp]
          have hp2 : ¬ poolB (amtV a) (amtV b) (amtV c) = true := fun h => by
            obtain ⟨q1, q2, q3⟩ := poolB_bd h
            apply hp
            have m1 : max0 (amtV a) = amtV a := if_pos q1.1
            have m2 : max0 (amtV b) = amtV b := if_pos q2.1
            have m3 : max0 (amtV c) = amtV c := if_pos q3.1
            rw [m1, m2, m3]
            exact h
          rw [if_neg hp2]
          exact Ev.now _
    · have e : (((fs.length : Nat) : Int) != 3) = true := by rw [bne_iff_ne]; omega
      rw [e, poolR_ne v fs hr h3]
      exact hbad _
end Go.Proofs.YtabmfhnhmoiljaaGreatDoor.U

/- Marks: what the laws write into rows to see whether memory is shared. -/
namespace Go.Proofs.YtabmfhnhmoiljaaGreatDoor.U
open Go Go.RowKit Go.Proofs.YtabmfhnhmoiljaaGreatDoor.Q Go.Proofs.YtabmfhnhmoiljaaGreatDoorW.PrintWords Go.Proofs.YtabmfhnhmoiljaaGreatDoorW.PrintLast Go.Proofs.YtabmfhnhmoiljaaGreatDoorW.PrintMore
set_option linter.unusedVariables false
set_option linter.unusedSimpArgs false

def markV (n : Nat) : ByteArray := if n = 0 then (⟨#[109, 48]⟩ : ByteArray) else (⟨#[109]⟩ : ByteArray) ++ digV n
theorem digV_big {v : Nat} (h : ¬ v < 10) : digV v = digV (v / 10) ++ (⟨#[UInt8.ofNat (48 + v % 10)]⟩ : ByteArray) := by
  apply ByteArray.ext
  unfold digV
  rw [dec_big h]
  simp
theorem mark_go (v : Nat) : ∀ (acc : ByteArray), 1 ≤ v → v ≤ 1000000000000000000 → acc.size + v ≤ 9000000000000000000 → Ev (fun k => laws_markText.l0 k (v : Int) acc) ((⟨#[109]⟩ : ByteArray) ++ (digV v ++ acc)) := by
  induction v using Nat.strongRecOn with
  | _ v ih =>
    intro acc h1 h2 h3
    have e1 : wrap64 (Int.tdiv (v : Int) 10) = ((v / 10 : Nat) : Int) := by rw [tdiv_nn (by omega), wid (by omega) (by omega)]; omega
    have e2 : Int.tmod (v : Int) 10 = ((v % 10 : Nat) : Int) := by rw [tmod_nn (by omega)]; omega
    have sz : (⟨#[UInt8.ofNat (48 + v % 10)]⟩ : ByteArray).size = 1 := rfl
    refine Ev.step (f := fun k => laws_markText.l0 k ((v / 10 : Nat) : Int) ((⟨#[UInt8.ofNat (48 + v % 10)]⟩ : ByteArray) ++ acc)) (fun k => ?_) ?_
    · rw [laws_markText.l0, if_pos (by omega), e1, e2]
      simp only [Option.bind_some, one_digit (v % 10) (by omega)]
      rw [if_pos (by rw [sz]; omega)]
    · have hacc : ((⟨#[UInt8.ofNat (48 + v % 10)]⟩ : ByteArray) ++ acc).size = 1 + acc.size := by rw [ByteArray.size_append, sz]
      by_cases hv : v < 10
      · have e : v / 10 = 0 := by omega
        rw [e]
        refine Ev.step (fun k => ?_) (Ev.now _)
        rw [show ((0 : Nat) : Int) = 0 from rfl, laws_markText.l0, if_neg (by decide), if_pos (by rw [hacc]; omega)]
        have : digV v = (⟨#[UInt8.ofNat (48 + v % 10)]⟩ : ByteArray) := by
          apply ByteArray.ext
          unfold digV
          rw [Lib.decDigits_one hv, Nat.mod_eq_of_lt hv]
        rw [this]
      · have := ih (v / 10) (by omega) ((⟨#[UInt8.ofNat (48 + v % 10)]⟩ : ByteArray) ++ acc) (by omega) (by omega) (by rw [hacc]; omega)
        rw [digV_big hv]
        simp only [ByteArray.append_assoc] at this ⊢
        exact this
theorem markText_ev (n : Nat) (h : n ≤ 1000000000000000000) : Ev (fun k => laws_markText.f k (n : Int)) (markV n) := by
  unfold laws_markText.f markV
  by_cases h0 : n = 0
  · subst h0
    simp only [if_pos (show ((0 : Nat) : Int) ≤ 0 by decide), if_true]
    exact Ev.now _
  · simp only [if_neg (show ¬ (n : Int) ≤ 0 by omega), if_neg h0]
    have e := mark_go n (⟨#[]⟩ : ByteArray) (by omega) h (by show 0 + n ≤ _; omega)
    have z : digV n ++ (⟨#[]⟩ : ByteArray) = digV n := by apply ByteArray.ext; simp
    rw [z] at e
    exact e
/-- The pairs as they are marked, from a number on. -/
def markP (n i : Nat) : IP := ⟨markV (n + 2 * i), markV (n + 2 * i + 1)⟩
def markPs (n : Nat) (l : List IP) : List IP := (List.range l.length).map fun i => markP n i
theorem markPairS_go (N : Nat) (l : List IP) (n : Nat) (hl : l.length = N) (hN : N ≤ 1048576) (hn : n ≤ 1000000) : ∀ (d i : Nat) (o : List IP), i + d = N → o.length = N → (∀ j, j < i → o[j]? = some (markP n j)) →
    Ev (fun k => laws_markPairS.l0 k o ((n + 2 * i : Nat) : Int) (i : Int)) (((n + 2 * N : Nat) : Int), markPs n l) := by
  intro d
  induction d with
  | zero =>
    intro i o hi ho hj
    have e : o = markPs n l := by
      apply List.ext_getElem?
      intro j
      by_cases h : j < i
      · rw [hj j h]; unfold markPs; rw [List.getElem?_map, List.getElem?_range (by omega)]; rfl
      · rw [List.getElem?_eq_none (by omega), List.getElem?_eq_none (by unfold markPs; simp; omega)]
    refine Ev.step (fun k => ?_) (Ev.now _)
    rw [laws_markPairS.l0, if_neg (by omega), e, show i = N by omega]
  | succ d ih =>
    intro i o hi ho hj
    have hlt : i < o.length := by omega
    refine Ev.step (f := fun k => (laws_markText.f k ((n + 2 * i : Nat) : Int)).bind fun t => (laws_markText.f k ((n + 2 * i + 1 : Nat) : Int)).bind fun u => laws_markPairS.l0 k (o.set i ⟨t, u⟩) ((n + 2 * (i + 1) : Nat) : Int) ((i + 1 : Nat) : Int)) (fun k => ?_) ?_
    · have w1 : wrap64 (((n + 2 * i : Nat) : Int) + 1) = ((n + 2 * i + 1 : Nat) : Int) := by rw [wid (by omega) (by omega)]; omega
      have w2 : wrap64 (((n + 2 * i + 1 : Nat) : Int) + 1) = ((n + 2 * (i + 1) : Nat) : Int) := by rw [wid (by omega) (by omega)]; omega
      have w3 : wrap64 ((i : Int) + 1) = ((i + 1 : Nat) : Int) := by rw [wid (by omega) (by omega)]; omega
      rw [laws_markPairS.l0, if_pos (by omega)]
      congr 1
      funext t
      rw [if_pos (by omega), w1, w2, w3]
      simp only [Option.bind_some]
      congr 1
      funext u
      rw [Int.toNat_natCast, List.set_set]
      have : (rd_T51 (o.set i (⟨t, (rd_T51 o (i : Int)).f1⟩ : IP)) (i : Int)).f0 = t := by
        rw [rdI _ i (by rw [List.length_set]; exact hlt), List.getElem_set_self]
      rw [this]
    · refine Ev.bind (markText_ev _ (by omega)) (Ev.bind (markText_ev _ (by omega)) ?_)
      refine ih (i + 1) _ (by omega) (by rw [List.length_set]; exact ho) (fun j hji => ?_)
      rw [List.getElem?_set]
      by_cases h : i = j
      · subst h
        rw [if_pos rfl, if_pos hlt]
        rfl
      · rw [if_neg h]
        exact hj j (by omega)
theorem markPairS_ev (l : List IP) (n : Nat) (hN : l.length ≤ 1048576) (hn : n ≤ 1000000) : Ev (fun k => laws_markPairS.f k l (n : Int)) (((n + 2 * l.length : Nat) : Int), markPs n l) := by
  unfold laws_markPairS.f
  exact markPairS_go l.length l n rfl hN hn l.length 0 l (by omega) rfl (fun j h => by omega)
end Go.Proofs.YtabmfhnhmoiljaaGreatDoor.U
