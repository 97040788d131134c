/- Parts of the proof: what single Go functions compute, each with its walk, and plain laws over these. -/
import Derived.Test.YtggemblkhckbpaaGreatDoorVMac
import Derived.Test.YtggemblkhckbpaaGreatDoorM0
import Derived.Test.YtggemblkhckbpaaGreatDoorM1
import Derived.Test.YtggemblkhckbpaaGreatDoorM2
import Derived.IntWalk
import Derived.Laws.BitsLemmas
import Derived.Test.YtggemblkhckbpaaGreatDoorVMore
import Derived.Lib.ItoaNum
import Derived.Lib.AtoiAllCases
import Derived.Lib.Strings
import Derived.Lib.Bytealg
import Derived.Sort.Walk0
import Derived.Laws.Entries
import Derived.WalkKit
import Derived.ProofKit
import Derived.OpenShut
import Derived.ShutString
import Derived.ChangeOld
import Derived.Below
import Derived.ChangeArms
import Derived.DataReads
import Derived.Test.YtggemblkhckbpaaGreatDoorVWords
namespace Go.Proofs.YtggemblkhckbpaaGreatDoor.Q
open Go.RowKit Go.Proofs.YtggemblkhckbpaaGreatDoorW.PrintWords Go.Proofs.YtggemblkhckbpaaGreatDoorW.PrintLast Go.Proofs.YtggemblkhckbpaaGreatDoorW.PrintMore
open Go.Proofs.YtggemblkhckbpaaGreatDoorW.PrintWords.Aside0 renaming mk → ζa
open Go.Proofs.YtggemblkhckbpaaGreatDoorW.PrintWords renaming gate_callee → δv, below_step → δr, below_size → δs, gate_dst → δx, blk_cell → δl, blk_frozen → δm, below_set → δq, blk_put → δw
open Go.Proofs.YtggemblkhckbpaaGreatDoorW.PrintWords.Kd renaming R_reads' → ζg, R_below → ζh, R_far → ζi, R_ne → ζf
open Go.Act renaming put → ζl
open List renaming setIfInBounds_toArray → δa, set_cons_zero → δb, set_cons_succ → δc, map_toArray → δd, map_cons → δe, map_nil → δf
open Bool renaming true → τ, false → φ
attribute [local go_sem] max2_int min2_int max_two min_two max_three min_three max_four min_four   -- for this text's walks alone
set_option linter.unusedVariables false
set_option linter.unusedSimpArgs false
set_option maxHeartbeats 8000000
set_option maxRecDepth 100000

/-! ### laws_FnExactSendPacket: function 5 -/
mutual
def laws_FnExactSendPacket.j0:Nat→List (S71)→ByteArray→Int→List (S61)→Int→List (S61)→List (S61)→Int→Bool→Int→Int→ByteArray→Int→Int→ByteArray→Option (Bool)
 | 0,_,_,_,_,_,_,_,_,_,_,_,_,_,_,_=>none
 | k+1,x0,x1,x2,x8,x10,x11,x12,x14,x62,x279000,x279001,x279002,x290000,x290001,x290002=>if x62=τ then (some φ) else ((laws_toPairS.f k x0).bind fun t292=>((laws_eqPairS.f k x11 t292).bind fun t295=>(if t295=τ then ((laws_markPairS.f k x11 1).bind fun bt296=>(if bt296.1<0 then (laws_FnExactSendPacket.j1 k x0 x1 x2 x8 x10 x12 τ x279000 x279001 x279002) else ((laws_eqPairS.f k x12 x8).bind fun t298=>(if t298=τ then ((laws_eqPacket.f x290000 x290001 x290002 x279000 x279001 x279002).bind fun t299=>(if t299=τ then (laws_FnExactSendPacket.j1 k x0 x1 x2 x8 x10 x12 (x14 != x10) x279000 x279001 x279002) else (laws_FnExactSendPacket.j1 k x0 x1 x2 x8 x10 x12 τ x279000 x279001 x279002))) else (laws_FnExactSendPacket.j1 k x0 x1 x2 x8 x10 x12 τ x279000 x279001 x279002))))) else (some φ))))
def laws_FnExactSendPacket.j1:Nat→List (S71)→ByteArray→Int→List (S61)→Int→List (S61)→Bool→Int→Int→ByteArray→Option (Bool)
 | 0,_,_,_,_,_,_,_,_,_,_=>none
 | k+1,x0,x1,x2,x8,x10,x12,x89,x279000,x279001,x279002=>if x89=τ then (some φ) else ((laws_markPairS.f k x12 1).bind fun bt300=>((laws_heldPairS.f k bt300.2 1).bind fun t302=>(if t302<0 then (some φ) else (if t302=bt300.1 then ((laws_toPairS.f k x0).bind fun t303=>((impl_SendPacket.f k t303 x1 x2).bind fun bt306=>((laws_eqPairS.f k bt306.1 x8).bind fun t314=>(if t314=τ then ((laws_eqPacket.f bt306.2.1 bt306.2.2.1 bt306.2.2.2.1 x279000 x279001 x279002).bind fun t315=>(if t315=τ then (laws_FnExactSendPacket.j2 k bt300.2 bt300.1 (bt306.2.2.2.2 != x10)) else (laws_FnExactSendPacket.j2 k bt300.2 bt300.1 τ))) else (laws_FnExactSendPacket.j2 k bt300.2 bt300.1 τ))))) else (some φ)))))
def laws_FnExactSendPacket.j2:Nat→List (S61)→Int→Bool→Option (Bool)
 | 0,_,_,_=>none
 | k+1,x12,x16,x124=>if x124=τ then (some φ) else ((laws_heldPairS.f k x12 1).bind fun t316=>(if t316<0 then (some φ) else (if t316=x16 then (some τ) else (some φ))))
end
def laws_FnExactSendPacket.f (k:Nat) (l0:List (S71)) (a1:ByteArray) (a2:Int):Option (Bool):=if (a1.size:Int) > 1048576 then (some τ) else ((laws_szPairS.f k l0 1048576).bind fun t267=>(if t267<0 then (some τ) else ((laws_toPairS.f k l0).bind fun t268=>((spec_SendPacket.f k t268 a1 a2).bind fun bt271=>((laws_toPairS.f k l0).bind fun t279=>((impl_SendPacket.f k t279 a1 a2).bind fun bt282=>((laws_eqPairS.f k bt282.1 bt271.1).bind fun t290=>(if t290=τ then ((laws_eqPacket.f bt282.2.1 bt282.2.2.1 bt282.2.2.2.1 bt271.2.1 bt271.2.2.1 bt271.2.2.2.1).bind fun t291=>(if t291=τ then (laws_FnExactSendPacket.j0 k l0 a1 a2 bt271.1 bt271.2.2.2.2 t279 bt282.1 bt282.2.2.2.2 (bt282.2.2.2.2 != bt271.2.2.2.2) bt271.2.1 bt271.2.2.1 bt271.2.2.2.1 bt282.2.1 bt282.2.2.1 bt282.2.2.2.1) else (laws_FnExactSendPacket.j0 k l0 a1 a2 bt271.1 bt271.2.2.2.2 t279 bt282.1 bt282.2.2.2.2 τ bt271.2.1 bt271.2.2.1 bt271.2.2.2.1 bt282.2.1 bt282.2.2.1 bt282.2.2.2.1))) else (laws_FnExactSendPacket.j0 k l0 a1 a2 bt271.1 bt271.2.2.2.2 t279 bt282.1 bt282.2.2.2.2 τ bt271.2.1 bt271.2.2.1 bt271.2.2.2.1 bt282.2.1 bt282.2.2.1 bt282.2.2.2.1)))))))))
theorem laws_FnExactSendPacket.calls (k:Nat) (A0:Option Addr) (c0:Nat) (l0:List (S71)) (a1:ByteArray) (a2:Int) (r:Bool) (w:World) (hr0:Kd.C k71 w A0 l0.length l0) (hc0:l0.length≤c0) (hT0:TabsOK w) (h:laws_FnExactSendPacket.f k l0 a1 a2=some r) :
  Calls Tryz.prog 5 #[.slice A0 l0.length c0,.string a1,.int .i64 a2] w fun e w'=>e = .returned (.bool r)∧Below w.heap.size w w':=by
 have HT0:=ζa hT0
 clear hT0
 have hu36:=Tryz.underlying36
 have HR0:=ζa hr0
 have HC0:=ζa hc0
 clear hr0 hc0
 have HB:=ζa (Below.refl w.heap.size w)
 have H:(if (a1.size:Int) > 1048576 then (some τ) else ((laws_szPairS.f k l0 1048576).bind fun t267=>(if t267<0 then (some τ) else ((laws_toPairS.f k l0).bind fun t268=>((spec_SendPacket.f k t268 a1 a2).bind fun bt271=>((laws_toPairS.f k l0).bind fun t279=>((impl_SendPacket.f k t279 a1 a2).bind fun bt282=>((laws_eqPairS.f k bt282.1 bt271.1).bind fun t290=>(if t290=τ then ((laws_eqPacket.f bt282.2.1 bt282.2.2.1 bt282.2.2.2.1 bt271.2.1 bt271.2.2.1 bt271.2.2.2.1).bind fun t291=>(if t291=τ then (laws_FnExactSendPacket.j0 k l0 a1 a2 bt271.1 bt271.2.2.2.2 t279 bt282.1 bt282.2.2.2.2 (bt282.2.2.2.2 != bt271.2.2.2.2) bt271.2.1 bt271.2.2.1 bt271.2.2.2.1 bt282.2.1 bt282.2.2.1 bt282.2.2.2.1) else (laws_FnExactSendPacket.j0 k l0 a1 a2 bt271.1 bt271.2.2.2.2 t279 bt282.1 bt282.2.2.2.2 τ bt271.2.1 bt271.2.2.1 bt271.2.2.2.1 bt282.2.1 bt282.2.2.1 bt282.2.2.2.1))) else (laws_FnExactSendPacket.j0 k l0 a1 a2 bt271.1 bt271.2.2.2.2 t279 bt282.1 bt282.2.2.2.2 τ bt271.2.1 bt271.2.2.1 bt271.2.2.2.1 bt282.2.1 bt282.2.2.1 bt282.2.2.2.1))))))))))=some r:=h
 clear h
 by_cases c4:(a1.size:Int) > 1048576
 ·
  rw [if_pos c4] at H
  have c4b0:decide (1048576<(a1.size:Int))=τ:=decide_eq_true c4
  have c4b1:decide (1048576<a1.size)=τ:=decide_eq_true (by omega)
  clear c4
  obtain rfl:=Option.some.inj H
  go_enter Tryz.func5,Tryz.ntmps5
  go_wp2
  go_ret
  exact ⟨by rfl,by repeat ((with_reducible exact HB.out))⟩
 ·
  rw [if_neg c4] at H
  have c4b0:decide (1048576<(a1.size:Int))=φ:=decide_eq_false c4
  have c4b1:decide (1048576<a1.size)=φ:=decide_eq_false (by omega)
  clear c4
  obtain ⟨t267,A5,H⟩:=bsm H
  by_cases c6:t267<0
  ·
   rw [if_pos c6] at H
   have c6b0:=decide_eq_true c6
   clear c6
   obtain rfl:=Option.some.inj H
   go_enter Tryz.func5,Tryz.ntmps5
   go_wp2_with (((with_reducible refine δv (f:=20) rfl ?_);refine gl 26 Tryz.func20 #[.slice A0 l0.length c0,.int .i64 1048576] ?_;(with_reducible refine (laws_szPairS.calls k _ _ l0 1048576 t267 _ ?side1 ?side2 A5.out).mono ?_);(case side1=>repeat (exact HR0.out));(case side2=>exact HC0.out);rintro e w7 ⟨rfl,hb⟩;refine ⟨_,rfl,?_⟩;replace HB:=ζa (δr (by exact HB.out) hb);(try clear hb);(try clear hb2);(try clear hk);(try clear hi)))
   go_ret
   exact ⟨by rfl,by repeat ((with_reducible exact HB.out))⟩
  ·
   rw [if_neg c6] at H
   have c6b0:=decide_eq_false c6
   clear c6
   obtain ⟨t268,A8,H⟩:=bsm H
   obtain ⟨⟨t271,t274,t275,t276,t277⟩,A9,H⟩:=bsm H
   dsimp only at H
   obtain ⟨t279,A10,H⟩:=bsm H
   obtain ⟨⟨t282,t285,t286,t287,t288⟩,A11,H⟩:=bsm H
   dsimp only at H
   have HC12:=ζa H
   clear H
   go_enter Tryz.func5,Tryz.ntmps5
   go_upto_region 10 with (first|((with_reducible refine δv (f:=20) rfl ?_);refine gl 26 Tryz.func20 #[.slice A0 l0.length c0,.int .i64 1048576] ?_;(with_reducible refine (laws_szPairS.calls k _ _ l0 1048576 t267 _ ?side1 ?side2 A5.out).mono ?_);(case side1=>repeat (exact HR0.out));(case side2=>exact HC0.out);rintro e w13 ⟨rfl,hb⟩;refine ⟨_,rfl,?_⟩;replace HB:=ζa (δr (by exact HB.out) hb);(try clear hb);(try clear hb2);(try clear hk);(try clear hi))|((with_reducible refine δv (f:=21) rfl ?_);refine gl 31 Tryz.func21 #[.slice A0 l0.length c0] ?_;(with_reducible refine (laws_toPairS.calls k _ _ l0 t268 _ ?side1 ?side2 A8.out).mono ?_);(case side1=>repeat (exact (Kd.C_below HR0.out HB.out)));(case side2=>exact HC0.out);rintro e w14 ⟨v269,rfl,ho0,hb⟩;refine ⟨_,rfl,?_⟩;have HO270:=ζa (Kd.R_lower ho0 (δs (by exact HB.out)));replace HB:=ζa (δr (by exact HB.out) hb);(try clear hb);(try clear hb2);(try clear hk);(try clear hi);(try clear ho0);obtain ⟨Ao15,co15,eo15⟩:=Kd.R_slice HO270.out;subst eo15)|((with_reducible refine δv (f:=14) rfl ?_);refine gl 34 Tryz.func14 #[.slice Ao15 t268.length co15,.string a1,.int .i64 a2] ?_;(with_reducible refine (spec_SendPacket.calls k _ _ t268 a1 a2 t271 t274 t275 t276 t277 _ ?side1 ?side2 A9.out).mono ?_);(case side1=>repeat (exact (ζg HO270.out).2.2));(case side2=>exact (ζg HO270.out).2.1);rintro e w16 ⟨v272,rfl,ho0,hb⟩;refine ⟨_,rfl,?_⟩;have HO273:=ζa (Kd.R_lower (Kd.R_new' ho0 (Kd.R_lt (by exact HO270.out))) (δs (by exact HB.out)));replace HO270:=ζa (Kd.R_elder' (by exact HO270.out) (Kd.R_base ho0) hb);replace HB:=ζa (δr (by exact HB.out) hb);(try clear hb);(try clear hb2);(try clear hk);(try clear hi);(try clear ho0))|((with_reducible refine δx (N:=9) rfl ?_);refine bev 9 #[.int .i64 0,.int .i64 0,.string (⟨#[]⟩:ByteArray)] 36 ?_;intro gb278 hg w17 hbox hb;replace HO270:=ζa (ζh (by exact HO270.out) hb);replace HO273:=ζa (ζh (by exact HO273.out) hb);have BK278:=ζa (hbox);have GW278:=ζa (gbw hg (by exact HB.out));have GE278:=ζa (gbw hg (by exact HB.out));replace HB:=ζa (δr (by exact HB.out) hb);clear hb hbox hg;have hcz18_0:w17.cell? ⟨gb278,0,none⟩=some (.int .i64 0):=(δl BK278.out 0).trans rfl;have hcz18_1:w17.cell? ⟨gb278,1,none⟩=some (.int .i64 0):=(δl BK278.out 1).trans rfl;have hcz18_2:w17.cell? ⟨gb278,2,none⟩=some (.string (⟨#[]⟩:ByteArray)):=(δl BK278.out 2).trans rfl;have hfz18_0:=δm BK278.out 0;have hfz18_1:=δm BK278.out 1;have hfz18_2:=δm BK278.out 2)|((with_reducible refine δv (f:=21) rfl ?_);refine gl 39 Tryz.func21 #[.slice A0 l0.length c0] ?_;(with_reducible refine (laws_toPairS.calls k _ _ l0 t279 _ ?side1 ?side2 A10.out).mono ?_);(case side1=>exact Kd.C_below HR0.out (by repeat ((with_reducible first|exact HB.out|refine δq ?_ GE278.out))));(case side2=>exact HC0.out);rintro e w19 ⟨v280,rfl,ho0,hb⟩;refine ⟨_,rfl,?_⟩;have HO281:=ζa (Kd.R_lower (Kd.R_new' (Kd.R_new' ho0 (Kd.R_lt (by exact (Kd.R_mono (ζi (p:=⟨gb278,2,none⟩) (ζi (p:=⟨gb278,1,none⟩) (ζi (p:=⟨gb278,0,none⟩) (Kd.R_types HO270.out BK278.out (by decide)) (fun _ hk=>hk.2) (.int .i64 t274)) (fun _ hk=>hk.2) (.int .i64 t275)) (fun _ hk=>hk.2) (.string t276)) (fun _ h_=>h_.1))))) (Kd.R_lt (by exact (Kd.R_mono (ζi (p:=⟨gb278,2,none⟩) (ζi (p:=⟨gb278,1,none⟩) (ζi (p:=⟨gb278,0,none⟩) (Kd.R_types HO273.out BK278.out (by decide)) (fun _ hk=>hk.2) (.int .i64 t274)) (fun _ hk=>hk.2) (.int .i64 t275)) (fun _ hk=>hk.2) (.string t276)) (fun _ h_=>h_.1))))) (δs (by repeat ((with_reducible first|exact HB.out|refine δq ?_ GE278.out)))));replace HO270:=ζa (Kd.R_elder' (by exact (Kd.R_mono (ζi (p:=⟨gb278,2,none⟩) (ζi (p:=⟨gb278,1,none⟩) (ζi (p:=⟨gb278,0,none⟩) (Kd.R_types HO270.out BK278.out (by decide)) (fun _ hk=>hk.2) (.int .i64 t274)) (fun _ hk=>hk.2) (.int .i64 t275)) (fun _ hk=>hk.2) (.string t276)) (fun _ h_=>h_.1))) (Kd.R_base ho0) hb);replace HO273:=ζa (Kd.R_elder' (by exact (Kd.R_mono (ζi (p:=⟨gb278,2,none⟩) (ζi (p:=⟨gb278,1,none⟩) (ζi (p:=⟨gb278,0,none⟩) (Kd.R_types HO273.out BK278.out (by decide)) (fun _ hk=>hk.2) (.int .i64 t274)) (fun _ hk=>hk.2) (.int .i64 t275)) (fun _ hk=>hk.2) (.string t276)) (fun _ h_=>h_.1))) (Kd.R_base ho0) hb);replace BK278:=ζa (blk_below (g:=gb278) (o:=.cells #[.int .i64 t274,.int .i64 t275,.string t276] 36 (0,0)) (by refine δw (cs:=#[.int .i64 t274,.int .i64 t275,.string (⟨#[]⟩:ByteArray)]) ?_ 2 _ rfl;refine δw (cs:=#[.int .i64 t274,.int .i64 0,.string (⟨#[]⟩:ByteArray)]) ?_ 1 _ rfl;refine δw (cs:=#[.int .i64 0,.int .i64 0,.string (⟨#[]⟩:ByteArray)]) ?_ 0 _ rfl;exact BK278.out) hb);replace HB:=ζa (δr (by repeat ((with_reducible first|exact HB.out|refine δq ?_ GE278.out))) hb);(try clear hb);(try clear hb2);(try clear hk);(try clear hi);(try clear ho0);obtain ⟨Ao20,co20,eo20⟩:=Kd.R_slice HO281.out;subst eo20)|((with_reducible refine δv (f:=13) rfl ?_);refine gl 44 Tryz.func13 #[.slice Ao20 t279.length co20,.string a1,.int .i64 a2] ?_;(with_reducible refine (impl_SendPacket.calls k _ _ t279 a1 a2 t282 t285 t286 t287 t288 _ ?side1 ?side2 (HT0.out.below (by exact HB.out)) A11.out).mono ?_);(case side1=>repeat (exact (ζg HO281.out).2.2));(case side2=>exact (ζg HO281.out).2.1);rintro e w21 ⟨v283,rfl,ho0,hb⟩;refine ⟨_,rfl,?_⟩;have HO284:=ζa (Kd.R_lower (Kd.R_new' (Kd.R_new' (Kd.R_new' ho0 (Kd.R_lt (by exact HO270.out))) (Kd.R_lt (by exact HO273.out))) (Kd.R_lt (by exact HO281.out))) (δs (by exact HB.out)));replace HO270:=ζa (Kd.R_elder' (by exact HO270.out) (Kd.R_base ho0) hb);replace HO273:=ζa (Kd.R_elder' (by exact HO273.out) (Kd.R_base ho0) hb);replace HO281:=ζa (Kd.R_elder' (by exact HO281.out) (Kd.R_base ho0) hb);replace BK278:=ζa (blk_below (g:=gb278) (o:=.cells #[.int .i64 t274,.int .i64 t275,.string t276] 36 (0,0)) (by exact BK278.out) hb);replace HB:=ζa (δr (by exact HB.out) hb);(try clear hb);(try clear hb2);(try clear hk);(try clear hi);(try clear ho0))|((with_reducible refine δx (N:=13) rfl ?_);refine bev 13 #[.int .i64 0,.int .i64 0,.string (⟨#[]⟩:ByteArray)] 36 ?_;intro gb289 hg w22 hbox hb;replace HO270:=ζa (ζh (by exact HO270.out) hb);replace HO273:=ζa (ζh (by exact HO273.out) hb);replace HO281:=ζa (ζh (by exact HO281.out) hb);replace HO284:=ζa (ζh (by exact HO284.out) hb);have BK289:=ζa (hbox);have GW289:=ζa (gbw hg (by exact HB.out));have GE289:=ζa (gbw hg (by exact HB.out));replace HB:=ζa (δr (by exact HB.out) hb);have NB278_289:=ζa ((by rw [hg];exact Nat.ne_of_lt (blk_lt (g:=gb278) (o:=.cells #[.int .i64 t274,.int .i64 t275,.string t276] 36 (0,0)) (by exact BK278.out)):gb278≠gb289));have NB289_278:=ζa ((by rw [hg];exact Nat.ne_of_gt (blk_lt (g:=gb278) (o:=.cells #[.int .i64 t274,.int .i64 t275,.string t276] 36 (0,0)) (by exact BK278.out)):gb289≠gb278));replace BK278:=ζa (blk_below (g:=gb278) (o:=.cells #[.int .i64 t274,.int .i64 t275,.string t276] 36 (0,0)) (by exact BK278.out) hb);clear hb hbox hg;have hnb23:=NB289_278.out;have hnc23:=NB278_289.out;have hcz24_0:w22.cell? ⟨gb289,0,none⟩=some (.int .i64 0):=(δl BK289.out 0).trans rfl;have hcz24_1:w22.cell? ⟨gb289,1,none⟩=some (.int .i64 0):=(δl BK289.out 1).trans rfl;have hcz24_2:w22.cell? ⟨gb289,2,none⟩=some (.string (⟨#[]⟩:ByteArray)):=(δl BK289.out 2).trans rfl;have hfz24_0:=δm BK289.out 0;have hfz24_1:=δm BK289.out 1;have hfz24_2:=δm BK289.out 2))
   (try simp only [ζl,δa,δb,δc])
   go_cut [62] (fun v62 wc => ∃ (kq:Nat) (x62_11:Bool),v62 = .bool x62_11∧Aside0 (laws_FnExactSendPacket.j0 kq l0 a1 a2 t271 t277 t279 t282 t288 x62_11 t274 t275 t276 t285 t286 t287=some r)∧Aside0 (kq≤k)∧Aside0 (Kd.R k61 61 wc w.heap.size (fun k_=>some k_≠((.slice Ao20 t279.length co20):Value).ownBlock∧some k_≠(v283:Value).ownBlock) v272 t271)∧Aside0 (Kd.R k61 61 wc w.heap.size (fun k_=>some k_≠(v272:Value).ownBlock∧some k_≠(v283:Value).ownBlock) (.slice Ao20 t279.length co20) t279)∧Aside0 (Kd.R k61 61 wc w.heap.size (fun k_=>some k_≠(v272:Value).ownBlock∧some k_≠((.slice Ao20 t279.length co20):Value).ownBlock) v283 t282)∧Aside0 (wc.heap[gb278]? = some (.cells #[.int .i64 t274,.int .i64 t275,.string t276] 36 (0,0)))∧Aside0 (wc.heap[gb289]? = some (.cells #[.int .i64 t285,.int .i64 t286,.string t287] 36 (0,0)))∧Aside0 (Below w.heap.size w wc))
   case first =>
    have H:=HC12.out
    clear HC12
    obtain ⟨t290,A25,H⟩:=bsm H
    by_cases c26:t290=τ
    ·
     subst c26
     rw [ifT] at H
     obtain ⟨t291,A27,H⟩:=bsm H
     by_cases c28:t291=τ
     ·
      subst c28
      rw [ifT] at H
      have H':=ζa H
      clear H
      obtain ⟨Ao29,co29,eo29⟩:=Kd.R_slice HO284.out
      subst eo29
      obtain ⟨Ao30,co30,eo30⟩:=Kd.R_slice HO273.out
      subst eo30
      go_wp2_with (first|((with_reducible refine δv (f:=22) rfl ?_);refine gl 50 Tryz.func22 #[.slice Ao29 t282.length co29,.slice Ao30 t271.length co30] ?_;(with_reducible refine (laws_eqPairS.calls k _ _ t282 _ _ t271 τ _ ?side1 ?side2 ?side3 ?side4 A25.out).mono ?_);(case side1=>refine (ζg (e:=61) (base:=w.heap.size) (ok:=fun k_=>(((True∧some k_≠(.slice Ao15 t268.length co15:Value).ownBlock)∧some k_≠(.slice Ao30 t271.length co30:Value).ownBlock)∧some k_≠(.slice Ao20 t279.length co20:Value).ownBlock)) (n:=t282.length) (c:=co29) ?_).2.2;exact (by exact (Kd.R_mono (ζi (p:=⟨gb289,2,none⟩) (ζi (p:=⟨gb289,1,none⟩) (ζi (p:=⟨gb289,0,none⟩) (Kd.R_types HO284.out BK289.out (by decide)) (fun _ hk=>hk.2) (.int .i64 t285)) (fun _ hk=>hk.2) (.int .i64 t286)) (fun _ hk=>hk.2) (.string t287)) (fun _ h_=>h_.1))));(case side2=>exact (ζg HO284.out).2.1);(case side3=>refine (ζg (e:=61) (base:=w.heap.size) (ok:=fun k_=>(((True∧some k_≠(.slice Ao15 t268.length co15:Value).ownBlock)∧some k_≠(.slice Ao20 t279.length co20:Value).ownBlock)∧some k_≠(.slice Ao29 t282.length co29:Value).ownBlock)) (n:=t271.length) (c:=co30) ?_).2.2;exact (by exact (Kd.R_mono (ζi (p:=⟨gb289,2,none⟩) (ζi (p:=⟨gb289,1,none⟩) (ζi (p:=⟨gb289,0,none⟩) (Kd.R_types HO273.out BK289.out (by decide)) (fun _ hk=>hk.2) (.int .i64 t285)) (fun _ hk=>hk.2) (.int .i64 t286)) (fun _ hk=>hk.2) (.string t287)) (fun _ h_=>h_.1))));(case side4=>exact (ζg HO273.out).2.1);rintro e w31 ⟨rfl,hb⟩;refine ⟨_,rfl,?_⟩;replace HO270:=ζa (ζh (by exact (Kd.R_mono (ζi (p:=⟨gb289,2,none⟩) (ζi (p:=⟨gb289,1,none⟩) (ζi (p:=⟨gb289,0,none⟩) (Kd.R_types HO270.out BK289.out (by decide)) (fun _ hk=>hk.2) (.int .i64 t285)) (fun _ hk=>hk.2) (.int .i64 t286)) (fun _ hk=>hk.2) (.string t287)) (fun _ h_=>h_.1))) hb);replace HO273:=ζa (ζh (by exact (Kd.R_mono (ζi (p:=⟨gb289,2,none⟩) (ζi (p:=⟨gb289,1,none⟩) (ζi (p:=⟨gb289,0,none⟩) (Kd.R_types HO273.out BK289.out (by decide)) (fun _ hk=>hk.2) (.int .i64 t285)) (fun _ hk=>hk.2) (.int .i64 t286)) (fun _ hk=>hk.2) (.string t287)) (fun _ h_=>h_.1))) hb);replace HO281:=ζa (ζh (by exact (Kd.R_mono (ζi (p:=⟨gb289,2,none⟩) (ζi (p:=⟨gb289,1,none⟩) (ζi (p:=⟨gb289,0,none⟩) (Kd.R_types HO281.out BK289.out (by decide)) (fun _ hk=>hk.2) (.int .i64 t285)) (fun _ hk=>hk.2) (.int .i64 t286)) (fun _ hk=>hk.2) (.string t287)) (fun _ h_=>h_.1))) hb);replace HO284:=ζa (ζh (by exact (Kd.R_mono (ζi (p:=⟨gb289,2,none⟩) (ζi (p:=⟨gb289,1,none⟩) (ζi (p:=⟨gb289,0,none⟩) (Kd.R_types HO284.out BK289.out (by decide)) (fun _ hk=>hk.2) (.int .i64 t285)) (fun _ hk=>hk.2) (.int .i64 t286)) (fun _ hk=>hk.2) (.string t287)) (fun _ h_=>h_.1))) hb);replace BK278:=ζa (blk_below (g:=gb278) (o:=.cells #[.int .i64 t274,.int .i64 t275,.string t276] 36 (0,0)) (by refine blk_far ?_ NB278_289.out _;refine blk_far ?_ NB278_289.out _;refine blk_far ?_ NB278_289.out _;exact BK278.out) hb);replace BK289:=ζa (blk_below (g:=gb289) (o:=.cells #[.int .i64 t285,.int .i64 t286,.string t287] 36 (0,0)) (by refine δw (cs:=#[.int .i64 t285,.int .i64 t286,.string (⟨#[]⟩:ByteArray)]) ?_ 2 _ rfl;refine δw (cs:=#[.int .i64 t285,.int .i64 0,.string (⟨#[]⟩:ByteArray)]) ?_ 1 _ rfl;refine δw (cs:=#[.int .i64 0,.int .i64 0,.string (⟨#[]⟩:ByteArray)]) ?_ 0 _ rfl;exact BK289.out) hb);replace HB:=ζa (δr (by repeat ((with_reducible first|exact HB.out|refine δq ?_ GE289.out))) hb);(try clear hb);(try clear hb2);(try clear hk);(try clear hi);have hnb32:=NB289_278.out;have hnc32:=NB278_289.out;have hcz33_0:w31.cell? ⟨gb289,0,none⟩=some (.int .i64 t285):=(δl BK289.out 0).trans rfl;have hcz33_1:w31.cell? ⟨gb289,1,none⟩=some (.int .i64 t286):=(δl BK289.out 1).trans rfl;have hcz33_2:w31.cell? ⟨gb289,2,none⟩=some (.string t287):=(δl BK289.out 2).trans rfl;have hfz33_0:=δm BK289.out 0;have hfz33_1:=δm BK289.out 1;have hfz33_2:=δm BK289.out 2;have hcz34_0:w31.cell? ⟨gb278,0,none⟩=some (.int .i64 t274):=(δl BK278.out 0).trans rfl;have hcz34_1:w31.cell? ⟨gb278,1,none⟩=some (.int .i64 t275):=(δl BK278.out 1).trans rfl;have hcz34_2:w31.cell? ⟨gb278,2,none⟩=some (.string t276):=(δl BK278.out 2).trans rfl;have hfz34_0:=δm BK278.out 0;have hfz34_1:=δm BK278.out 1;have hfz34_2:=δm BK278.out 2)|(go_at_call 23;(with_reducible refine (laws_eqPacket.calls t285 t286 t287 t274 t275 t276 τ _ A27.out).mono ?_);rintro e w35 ⟨rfl,hb⟩;replace HO270:=ζa (ζh (by exact HO270.out) hb);replace HO273:=ζa (ζh (by exact HO273.out) hb);replace HO281:=ζa (ζh (by exact HO281.out) hb);replace HO284:=ζa (ζh (by exact HO284.out) hb);replace BK278:=ζa (blk_below (g:=gb278) (o:=.cells #[.int .i64 t274,.int .i64 t275,.string t276] 36 (0,0)) (by exact BK278.out) hb);replace BK289:=ζa (blk_below (g:=gb289) (o:=.cells #[.int .i64 t285,.int .i64 t286,.string t287] 36 (0,0)) (by exact BK289.out) hb);replace HB:=ζa (δr (by exact HB.out) hb);(try clear hb);(try clear hb2);(try clear hk);(try clear hi)))
      go_meet
      case rel=>exact ⟨_,((t288 != t277)),(by rfl),H',⟨by omega⟩,⟨by exact Kd.R_mono HO273.out (fun _ hk=>⟨hk.1.2,hk.2⟩)⟩,⟨by exact Kd.R_mono HO281.out (fun _ hk=>⟨hk.1.2,hk.2⟩)⟩,⟨by exact Kd.R_mono HO284.out (fun _ hk=>⟨hk.1.2,hk.2⟩)⟩,⟨by exact BK278.out⟩,⟨by exact BK289.out⟩,⟨by repeat ((with_reducible exact HB.out))⟩⟩
     ·
      replace c28:=Bool.eq_false_iff.mpr c28
      subst c28
      rw [ifF] at H
      have H':=ζa H
      clear H
      obtain ⟨Ao36,co36,eo36⟩:=Kd.R_slice HO284.out
      subst eo36
      obtain ⟨Ao37,co37,eo37⟩:=Kd.R_slice HO273.out
      subst eo37
      go_wp2_with (first|((with_reducible refine δv (f:=22) rfl ?_);refine gl 50 Tryz.func22 #[.slice Ao36 t282.length co36,.slice Ao37 t271.length co37] ?_;(with_reducible refine (laws_eqPairS.calls k _ _ t282 _ _ t271 τ _ ?side1 ?side2 ?side3 ?side4 A25.out).mono ?_);(case side1=>refine (ζg (e:=61) (base:=w.heap.size) (ok:=fun k_=>(((True∧some k_≠(.slice Ao15 t268.length co15:Value).ownBlock)∧some k_≠(.slice Ao37 t271.length co37:Value).ownBlock)∧some k_≠(.slice Ao20 t279.length co20:Value).ownBlock)) (n:=t282.length) (c:=co36) ?_).2.2;exact (by exact (Kd.R_mono (ζi (p:=⟨gb289,2,none⟩) (ζi (p:=⟨gb289,1,none⟩) (ζi (p:=⟨gb289,0,none⟩) (Kd.R_types HO284.out BK289.out (by decide)) (fun _ hk=>hk.2) (.int .i64 t285)) (fun _ hk=>hk.2) (.int .i64 t286)) (fun _ hk=>hk.2) (.string t287)) (fun _ h_=>h_.1))));(case side2=>exact (ζg HO284.out).2.1);(case side3=>refine (ζg (e:=61) (base:=w.heap.size) (ok:=fun k_=>(((True∧some k_≠(.slice Ao15 t268.length co15:Value).ownBlock)∧some k_≠(.slice Ao20 t279.length co20:Value).ownBlock)∧some k_≠(.slice Ao36 t282.length co36:Value).ownBlock)) (n:=t271.length) (c:=co37) ?_).2.2;exact (by exact (Kd.R_mono (ζi (p:=⟨gb289,2,none⟩) (ζi (p:=⟨gb289,1,none⟩) (ζi (p:=⟨gb289,0,none⟩) (Kd.R_types HO273.out BK289.out (by decide)) (fun _ hk=>hk.2) (.int .i64 t285)) (fun _ hk=>hk.2) (.int .i64 t286)) (fun _ hk=>hk.2) (.string t287)) (fun _ h_=>h_.1))));(case side4=>exact (ζg HO273.out).2.1);rintro e w38 ⟨rfl,hb⟩;refine ⟨_,rfl,?_⟩;replace HO270:=ζa (ζh (by exact (Kd.R_mono (ζi (p:=⟨gb289,2,none⟩) (ζi (p:=⟨gb289,1,none⟩) (ζi (p:=⟨gb289,0,none⟩) (Kd.R_types HO270.out BK289.out (by decide)) (fun _ hk=>hk.2) (.int .i64 t285)) (fun _ hk=>hk.2) (.int .i64 t286)) (fun _ hk=>hk.2) (.string t287)) (fun _ h_=>h_.1))) hb);replace HO273:=ζa (ζh (by exact (Kd.R_mono (ζi (p:=⟨gb289,2,none⟩) (ζi (p:=⟨gb289,1,none⟩) (ζi (p:=⟨gb289,0,none⟩) (Kd.R_types HO273.out BK289.out (by decide)) (fun _ hk=>hk.2) (.int .i64 t285)) (fun _ hk=>hk.2) (.int .i64 t286)) (fun _ hk=>hk.2) (.string t287)) (fun _ h_=>h_.1))) hb);replace HO281:=ζa (ζh (by exact (Kd.R_mono (ζi (p:=⟨gb289,2,none⟩) (ζi (p:=⟨gb289,1,none⟩) (ζi (p:=⟨gb289,0,none⟩) (Kd.R_types HO281.out BK289.out (by decide)) (fun _ hk=>hk.2) (.int .i64 t285)) (fun _ hk=>hk.2) (.int .i64 t286)) (fun _ hk=>hk.2) (.string t287)) (fun _ h_=>h_.1))) hb);replace HO284:=ζa (ζh (by exact (Kd.R_mono (ζi (p:=⟨gb289,2,none⟩) (ζi (p:=⟨gb289,1,none⟩) (ζi (p:=⟨gb289,0,none⟩) (Kd.R_types HO284.out BK289.out (by decide)) (fun _ hk=>hk.2) (.int .i64 t285)) (fun _ hk=>hk.2) (.int .i64 t286)) (fun _ hk=>hk.2) (.string t287)) (fun _ h_=>h_.1))) hb);replace BK278:=ζa (blk_below (g:=gb278) (o:=.cells #[.int .i64 t274,.int .i64 t275,.string t276] 36 (0,0)) (by refine blk_far ?_ NB278_289.out _;refine blk_far ?_ NB278_289.out _;refine blk_far ?_ NB278_289.out _;exact BK278.out) hb);replace BK289:=ζa (blk_below (g:=gb289) (o:=.cells #[.int .i64 t285,.int .i64 t286,.string t287] 36 (0,0)) (by refine δw (cs:=#[.int .i64 t285,.int .i64 t286,.string (⟨#[]⟩:ByteArray)]) ?_ 2 _ rfl;refine δw (cs:=#[.int .i64 t285,.int .i64 0,.string (⟨#[]⟩:ByteArray)]) ?_ 1 _ rfl;refine δw (cs:=#[.int .i64 0,.int .i64 0,.string (⟨#[]⟩:ByteArray)]) ?_ 0 _ rfl;exact BK289.out) hb);replace HB:=ζa (δr (by repeat ((with_reducible first|exact HB.out|refine δq ?_ GE289.out))) hb);(try clear hb);(try clear hb2);(try clear hk);(try clear hi);have hnb39:=NB289_278.out;have hnc39:=NB278_289.out;have hcz40_0:w38.cell? ⟨gb289,0,none⟩=some (.int .i64 t285):=(δl BK289.out 0).trans rfl;have hcz40_1:w38.cell? ⟨gb289,1,none⟩=some (.int .i64 t286):=(δl BK289.out 1).trans rfl;have hcz40_2:w38.cell? ⟨gb289,2,none⟩=some (.string t287):=(δl BK289.out 2).trans rfl;have hfz40_0:=δm BK289.out 0;have hfz40_1:=δm BK289.out 1;have hfz40_2:=δm BK289.out 2;have hcz41_0:w38.cell? ⟨gb278,0,none⟩=some (.int .i64 t274):=(δl BK278.out 0).trans rfl;have hcz41_1:w38.cell? ⟨gb278,1,none⟩=some (.int .i64 t275):=(δl BK278.out 1).trans rfl;have hcz41_2:w38.cell? ⟨gb278,2,none⟩=some (.string t276):=(δl BK278.out 2).trans rfl;have hfz41_0:=δm BK278.out 0;have hfz41_1:=δm BK278.out 1;have hfz41_2:=δm BK278.out 2)|(go_at_call 23;(with_reducible refine (laws_eqPacket.calls t285 t286 t287 t274 t275 t276 φ _ A27.out).mono ?_);rintro e w42 ⟨rfl,hb⟩;replace HO270:=ζa (ζh (by exact HO270.out) hb);replace HO273:=ζa (ζh (by exact HO273.out) hb);replace HO281:=ζa (ζh (by exact HO281.out) hb);replace HO284:=ζa (ζh (by exact HO284.out) hb);replace BK278:=ζa (blk_below (g:=gb278) (o:=.cells #[.int .i64 t274,.int .i64 t275,.string t276] 36 (0,0)) (by exact BK278.out) hb);replace BK289:=ζa (blk_below (g:=gb289) (o:=.cells #[.int .i64 t285,.int .i64 t286,.string t287] 36 (0,0)) (by exact BK289.out) hb);replace HB:=ζa (δr (by exact HB.out) hb);(try clear hb);(try clear hb2);(try clear hk);(try clear hi)))
      go_meet
      case rel=>exact ⟨_,(τ),(by rfl),H',⟨by omega⟩,⟨by exact Kd.R_mono HO273.out (fun _ hk=>⟨hk.1.2,hk.2⟩)⟩,⟨by exact Kd.R_mono HO281.out (fun _ hk=>⟨hk.1.2,hk.2⟩)⟩,⟨by exact Kd.R_mono HO284.out (fun _ hk=>⟨hk.1.2,hk.2⟩)⟩,⟨by exact BK278.out⟩,⟨by exact BK289.out⟩,⟨by repeat ((with_reducible exact HB.out))⟩⟩
    ·
     replace c26:=Bool.eq_false_iff.mpr c26
     subst c26
     rw [ifF] at H
     have H':=ζa H
     clear H
     obtain ⟨Ao43,co43,eo43⟩:=Kd.R_slice HO284.out
     subst eo43
     obtain ⟨Ao44,co44,eo44⟩:=Kd.R_slice HO273.out
     subst eo44
     go_wp2_with (((with_reducible refine δv (f:=22) rfl ?_);refine gl 50 Tryz.func22 #[.slice Ao43 t282.length co43,.slice Ao44 t271.length co44] ?_;(with_reducible refine (laws_eqPairS.calls k _ _ t282 _ _ t271 φ _ ?side1 ?side2 ?side3 ?side4 A25.out).mono ?_);(case side1=>refine (ζg (e:=61) (base:=w.heap.size) (ok:=fun k_=>(((True∧some k_≠(.slice Ao15 t268.length co15:Value).ownBlock)∧some k_≠(.slice Ao44 t271.length co44:Value).ownBlock)∧some k_≠(.slice Ao20 t279.length co20:Value).ownBlock)) (n:=t282.length) (c:=co43) ?_).2.2;exact (by exact (Kd.R_mono (ζi (p:=⟨gb289,2,none⟩) (ζi (p:=⟨gb289,1,none⟩) (ζi (p:=⟨gb289,0,none⟩) (Kd.R_types HO284.out BK289.out (by decide)) (fun _ hk=>hk.2) (.int .i64 t285)) (fun _ hk=>hk.2) (.int .i64 t286)) (fun _ hk=>hk.2) (.string t287)) (fun _ h_=>h_.1))));(case side2=>exact (ζg HO284.out).2.1);(case side3=>refine (ζg (e:=61) (base:=w.heap.size) (ok:=fun k_=>(((True∧some k_≠(.slice Ao15 t268.length co15:Value).ownBlock)∧some k_≠(.slice Ao20 t279.length co20:Value).ownBlock)∧some k_≠(.slice Ao43 t282.length co43:Value).ownBlock)) (n:=t271.length) (c:=co44) ?_).2.2;exact (by exact (Kd.R_mono (ζi (p:=⟨gb289,2,none⟩) (ζi (p:=⟨gb289,1,none⟩) (ζi (p:=⟨gb289,0,none⟩) (Kd.R_types HO273.out BK289.out (by decide)) (fun _ hk=>hk.2) (.int .i64 t285)) (fun _ hk=>hk.2) (.int .i64 t286)) (fun _ hk=>hk.2) (.string t287)) (fun _ h_=>h_.1))));(case side4=>exact (ζg HO273.out).2.1);rintro e w45 ⟨rfl,hb⟩;refine ⟨_,rfl,?_⟩;replace HO270:=ζa (ζh (by exact (Kd.R_mono (ζi (p:=⟨gb289,2,none⟩) (ζi (p:=⟨gb289,1,none⟩) (ζi (p:=⟨gb289,0,none⟩) (Kd.R_types HO270.out BK289.out (by decide)) (fun _ hk=>hk.2) (.int .i64 t285)) (fun _ hk=>hk.2) (.int .i64 t286)) (fun _ hk=>hk.2) (.string t287)) (fun _ h_=>h_.1))) hb);replace HO273:=ζa (ζh (by exact (Kd.R_mono (ζi (p:=⟨gb289,2,none⟩) (ζi (p:=⟨gb289,1,none⟩) (ζi (p:=⟨gb289,0,none⟩) (Kd.R_types HO273.out BK289.out (by decide)) (fun _ hk=>hk.2) (.int .i64 t285)) (fun _ hk=>hk.2) (.int .i64 t286)) (fun _ hk=>hk.2) (.string t287)) (fun _ h_=>h_.1))) hb);replace HO281:=ζa (ζh (by exact (Kd.R_mono (ζi (p:=⟨gb289,2,none⟩) (ζi (p:=⟨gb289,1,none⟩) (ζi (p:=⟨gb289,0,none⟩) (Kd.R_types HO281.out BK289.out (by decide)) (fun _ hk=>hk.2) (.int .i64 t285)) (fun _ hk=>hk.2) (.int .i64 t286)) (fun _ hk=>hk.2) (.string t287)) (fun _ h_=>h_.1))) hb);replace HO284:=ζa (ζh (by exact (Kd.R_mono (ζi (p:=⟨gb289,2,none⟩) (ζi (p:=⟨gb289,1,none⟩) (ζi (p:=⟨gb289,0,none⟩) (Kd.R_types HO284.out BK289.out (by decide)) (fun _ hk=>hk.2) (.int .i64 t285)) (fun _ hk=>hk.2) (.int .i64 t286)) (fun _ hk=>hk.2) (.string t287)) (fun _ h_=>h_.1))) hb);replace BK278:=ζa (blk_below (g:=gb278) (o:=.cells #[.int .i64 t274,.int .i64 t275,.string t276] 36 (0,0)) (by refine blk_far ?_ NB278_289.out _;refine blk_far ?_ NB278_289.out _;refine blk_far ?_ NB278_289.out _;exact BK278.out) hb);replace BK289:=ζa (blk_below (g:=gb289) (o:=.cells #[.int .i64 t285,.int .i64 t286,.string t287] 36 (0,0)) (by refine δw (cs:=#[.int .i64 t285,.int .i64 t286,.string (⟨#[]⟩:ByteArray)]) ?_ 2 _ rfl;refine δw (cs:=#[.int .i64 t285,.int .i64 0,.string (⟨#[]⟩:ByteArray)]) ?_ 1 _ rfl;refine δw (cs:=#[.int .i64 0,.int .i64 0,.string (⟨#[]⟩:ByteArray)]) ?_ 0 _ rfl;exact BK289.out) hb);replace HB:=ζa (δr (by repeat ((with_reducible first|exact HB.out|refine δq ?_ GE289.out))) hb);(try clear hb);(try clear hb2);(try clear hk);(try clear hi)))
     go_meet
     case rel=>exact ⟨_,(τ),(by rfl),H',⟨by omega⟩,⟨by exact Kd.R_mono HO273.out (fun _ hk=>⟨hk.1.2,hk.2⟩)⟩,⟨by exact Kd.R_mono HO281.out (fun _ hk=>⟨hk.1.2,hk.2⟩)⟩,⟨by exact Kd.R_mono HO284.out (fun _ hk=>⟨hk.1.2,hk.2⟩)⟩,⟨by exact BK278.out⟩,⟨by exact BK289.out⟩,⟨by repeat ((with_reducible exact HB.out))⟩⟩
   case rest =>
    clear HC12
    try clear c1
    try clear c2
    try clear p2
    try clear c3
    try clear c4
    try clear c4b0
    try clear c4b1
    try clear c5
    try clear c6
    try clear c6b0
    try clear c13
    try clear c14
    try clear c20
    try clear c21
    try clear c22
    try clear c23
    try clear c26
    try clear c28
    try clear c32
    try clear c39
    try clear hcz18_0
    try clear hcz18_1
    try clear hcz18_2
    try clear hcz24_0
    try clear hcz24_1
    try clear hcz24_2
    try clear hcz33_0
    try clear hcz33_1
    try clear hcz33_2
    try clear hcz34_0
    try clear hcz34_1
    try clear hcz34_2
    try clear hcz40_0
    try clear hcz40_1
    try clear hcz40_2
    try clear hcz41_0
    try clear hcz41_1
    try clear hcz41_2
    try clear hfz18_0
    try clear hfz18_1
    try clear hfz18_2
    try clear hfz24_0
    try clear hfz24_1
    try clear hfz24_2
    try clear hfz33_0
    try clear hfz33_1
    try clear hfz33_2
    try clear hfz34_0
    try clear hfz34_1
    try clear hfz34_2
    try clear hfz40_0
    try clear hfz40_1
    try clear hfz40_2
    try clear hfz41_0
    try clear hfz41_1
    try clear hfz41_2
    obtain ⟨kq,x62_11,rfl,HA,HJ11,HO_8,HO_11,HO_12,BK278,BK289,HB⟩:=hcut
    cases kq with
    | zero=>exact absurd HA.out (by simp [laws_FnExactSendPacket.j0])
    | succ kj11 =>
     have H:=HA.out
     clear HA
     simp only [laws_FnExactSendPacket.j0] at H
     by_cases c46:x62_11=τ
     ·
      subst c46
      rw [ifT] at H
      obtain rfl:=Option.some.inj H
      go_wp2
      go_ret
      exact ⟨by rfl,by repeat ((with_reducible exact HB.out))⟩
     ·
      replace c46:=Bool.eq_false_iff.mpr c46
      subst c46
      rw [ifF] at H
      obtain ⟨t292,A47,H⟩:=bsm H
      obtain ⟨t295,A48,H⟩:=bsm H
      by_cases c49:t295=τ
      ·
       subst c49
       rw [ifT] at H
       obtain ⟨⟨t296,t297⟩,A50,H⟩:=bsm H
       dsimp only at H
       have HC51:=ζa H
       clear H
       go_upto_region 16 with (first|((with_reducible refine δv (f:=21) rfl ?_);refine gl 65 Tryz.func21 #[.slice A0 l0.length c0] ?_;(with_reducible refine (laws_toPairS.calls kj11 _ _ l0 t292 _ ?side1 ?side2 A47.out).mono ?_);(case side1=>repeat (exact (Kd.C_below HR0.out HB.out)));(case side2=>exact HC0.out);rintro e w52 ⟨v293,rfl,ho0,hb⟩;refine ⟨_,rfl,?_⟩;have HO294:=ζa (Kd.R_lower (Kd.R_new' (Kd.R_new' (Kd.R_new' ho0 (Kd.R_lt (by exact HO_8.out))) (Kd.R_lt (by exact HO_11.out))) (Kd.R_lt (by exact HO_12.out))) (δs (by exact HB.out)));replace HO_8:=ζa (Kd.R_elder' (by exact HO_8.out) (Kd.R_base ho0) hb);replace HO_11:=ζa (Kd.R_elder' (by exact HO_11.out) (Kd.R_base ho0) hb);replace HO_12:=ζa (Kd.R_elder' (by exact HO_12.out) (Kd.R_base ho0) hb);replace BK278:=ζa (blk_below (g:=gb278) (o:=.cells #[.int .i64 t274,.int .i64 t275,.string t276] 36 (0,0)) (by exact BK278.out) hb);replace BK289:=ζa (blk_below (g:=gb289) (o:=.cells #[.int .i64 t285,.int .i64 t286,.string t287] 36 (0,0)) (by exact BK289.out) hb);replace HB:=ζa (δr (by exact HB.out) hb);(try clear hb);(try clear hb2);(try clear hk);(try clear hi);(try clear ho0);obtain ⟨Ao53,co53,eo53⟩:=Kd.R_slice HO294.out;subst eo53)|((with_reducible refine δv (f:=22) rfl ?_);refine gl 66 Tryz.func22 #[.slice Ao20 t279.length co20,.slice Ao53 t292.length co53] ?_;(with_reducible refine (laws_eqPairS.calls kj11 _ _ t279 _ _ t292 τ _ ?side1 ?side2 ?side3 ?side4 A48.out).mono ?_);(case side1=>repeat (exact (ζg HO_11.out).2.2));(case side2=>exact (ζg HO_11.out).2.1);(case side3=>repeat (exact (ζg HO294.out).2.2));(case side4=>exact (ζg HO294.out).2.1);rintro e w54 ⟨rfl,hb⟩;refine ⟨_,rfl,?_⟩;replace HO_8:=ζa (ζh (by exact HO_8.out) hb);replace HO_11:=ζa (ζh (by exact HO_11.out) hb);replace HO_12:=ζa (ζh (by exact HO_12.out) hb);replace HO294:=ζa (ζh (by exact HO294.out) hb);replace BK278:=ζa (blk_below (g:=gb278) (o:=.cells #[.int .i64 t274,.int .i64 t275,.string t276] 36 (0,0)) (by exact BK278.out) hb);replace BK289:=ζa (blk_below (g:=gb289) (o:=.cells #[.int .i64 t285,.int .i64 t286,.string t287] 36 (0,0)) (by exact BK289.out) hb);replace HB:=ζa (δr (by exact HB.out) hb);(try clear hb);(try clear hb2);(try clear hk);(try clear hi))|((with_reducible refine δv (f:=24) rfl ?_);refine gl 70 Tryz.func24 #[.slice Ao20 t279.length co20,.int .i64 1] ?_;(with_reducible refine (laws_markPairS.calls kj11 (fun k_=>some k_=(.slice Ao20 t279.length co20:Value).ownBlock) (.slice Ao20 t279.length co20) t279 1 t296 t297 w _ ?side1 ?side2 A50.out).mono ?_);(case side1=>repeat ((with_reducible exact HB.out)));(case side2=>exact Kd.R_tight rfl HO_11.out);rintro e w55 ⟨rfl,hy0,hb,hkp⟩;refine ⟨_,rfl,?_⟩;replace HO_8:=ζa (Kd.R_mono (ok':=fun k_=>some k_≠(.slice Ao20 t279.length co20:Value).ownBlock∧some k_≠(v283:Value).ownBlock∧some k_≠(.slice Ao53 t292.length co53:Value).ownBlock) (Kd.R_keptB (HO_8.out) hkp (fun k_ hk_ hs_=>(hk_.1.1) hs_)) (fun k_ hk_=>⟨hk_.1.1.1,hk_.1.1.2,hk_.1.2⟩));replace HO_12:=ζa (Kd.R_mono (ok':=fun k_=>some k_≠(v272:Value).ownBlock∧some k_≠(.slice Ao20 t279.length co20:Value).ownBlock∧some k_≠(.slice Ao53 t292.length co53:Value).ownBlock) (Kd.R_keptB (HO_12.out) hkp (fun k_ hk_ hs_=>(hk_.1.2) hs_)) (fun k_ hk_=>⟨hk_.1.1.1,hk_.1.1.2,hk_.1.2⟩));replace BK278:=ζa (blk_kept (by exact BK278.out) hkp (fun hs_=>(fun e_=>(ζf HO_11.out BK278.out (by decide)) e_) hs_));replace BK289:=ζa (blk_kept (by exact BK289.out) hkp (fun hs_=>(fun e_=>(ζf HO_11.out BK289.out (by decide)) e_) hs_));replace HO_11:=ζa (Kd.R_reok rfl hy0 (fun k_ e_=>HO_11.out.1 k_ e_));replace HO294:=ζa (Kd.R_mono (ok':=fun k_=>some k_≠(v272:Value).ownBlock∧some k_≠(.slice Ao20 t279.length co20:Value).ownBlock∧some k_≠(v283:Value).ownBlock) (Kd.R_keptB (HO294.out) hkp (fun k_ hk_ hs_=>(hk_.1.2) hs_)) (fun k_ hk_=>⟨hk_.1.1.1.2,hk_.1.1.2,hk_.1.2⟩));replace HB:=ζa (hb);(try clear hb);(try clear hkp);(try clear hy0)))
       (try simp only [ζl,δa,δb,δc])
       go_cut [89] (fun v89 wc => ∃ (kq:Nat) (x89_50:Bool),v89 = .bool x89_50∧Aside0 (laws_FnExactSendPacket.j1 kq l0 a1 a2 t271 t277 t282 x89_50 t274 t275 t276=some r)∧Aside0 (kq≤kj11)∧Aside0 (Kd.R k61 61 wc w.heap.size (fun k_=>some k_≠(v283:Value).ownBlock) v272 t271)∧Aside0 (Kd.R k61 61 wc w.heap.size (fun k_=>some k_≠(v272:Value).ownBlock) v283 t282)∧Aside0 (wc.heap[gb278]? = some (.cells #[.int .i64 t274,.int .i64 t275,.string t276] 36 (0,0)))∧Aside0 (wc.heap[gb289]? = some (.cells #[.int .i64 t285,.int .i64 t286,.string t287] 36 (0,0)))∧Aside0 (Below w.heap.size w wc))
       case first =>
        have H:=HC51.out
        clear HC51
        by_cases c56:t296<0
        ·
         rw [if_pos c56] at H
         have c56b0:=decide_eq_true c56
         clear c56
         have H':=ζa H
         clear H
         go_wp2
         go_meet
         case rel=>exact ⟨_,(τ),(by rfl),H',⟨by have:=HJ11.out;omega⟩,⟨by exact Kd.R_mono HO_8.out (fun _ hk=>hk.2.1)⟩,⟨by exact Kd.R_mono HO_12.out (fun _ hk=>hk.1)⟩,⟨by exact BK278.out⟩,⟨by exact BK289.out⟩,⟨by repeat ((with_reducible exact HB.out))⟩⟩
        ·
         rw [if_neg c56] at H
         have c56b0:=decide_eq_false c56
         clear c56
         obtain ⟨t298,A57,H⟩:=bsm H
         by_cases c58:t298=τ
         ·
          subst c58
          rw [ifT] at H
          obtain ⟨t299,A59,H⟩:=bsm H
          by_cases c60:t299=τ
          ·
           subst c60
           rw [ifT] at H
           have H':=ζa H
           clear H
           obtain ⟨Ao61,co61,eo61⟩:=Kd.R_slice HO_12.out
           subst eo61
           obtain ⟨Ao62,co62,eo62⟩:=Kd.R_slice HO_8.out
           subst eo62
           go_wp2_with (first|(go_at_call 22;(with_reducible refine (laws_eqPairS.calls kj11 _ _ t282 _ _ t271 τ _ ?side1 ?side2 ?side3 ?side4 A57.out).mono ?_);(case side1=>repeat (exact (ζg HO_12.out).2.2));(case side2=>exact (ζg HO_12.out).2.1);(case side3=>repeat (exact (ζg HO_8.out).2.2));(case side4=>exact (ζg HO_8.out).2.1);rintro e w63 ⟨rfl,hb⟩;replace HO_8:=ζa (ζh (by exact HO_8.out) hb);replace HO_11:=ζa (ζh (by exact HO_11.out) hb);replace HO_12:=ζa (ζh (by exact HO_12.out) hb);replace HO294:=ζa (ζh (by exact HO294.out) hb);replace BK278:=ζa (blk_below (g:=gb278) (o:=.cells #[.int .i64 t274,.int .i64 t275,.string t276] 36 (0,0)) (by exact BK278.out) hb);replace BK289:=ζa (blk_below (g:=gb289) (o:=.cells #[.int .i64 t285,.int .i64 t286,.string t287] 36 (0,0)) (by exact BK289.out) hb);replace HB:=ζa (δr (by exact HB.out) hb);(try clear hb);(try clear hb2);(try clear hk);(try clear hi);have hnb64:=NB289_278.out;have hnc64:=NB278_289.out;have hcz65_0:w63.cell? ⟨gb289,0,none⟩=some (.int .i64 t285):=(δl BK289.out 0).trans rfl;have hcz65_1:w63.cell? ⟨gb289,1,none⟩=some (.int .i64 t286):=(δl BK289.out 1).trans rfl;have hcz65_2:w63.cell? ⟨gb289,2,none⟩=some (.string t287):=(δl BK289.out 2).trans rfl;have hfz65_0:=δm BK289.out 0;have hfz65_1:=δm BK289.out 1;have hfz65_2:=δm BK289.out 2;have hcz66_0:w63.cell? ⟨gb278,0,none⟩=some (.int .i64 t274):=(δl BK278.out 0).trans rfl;have hcz66_1:w63.cell? ⟨gb278,1,none⟩=some (.int .i64 t275):=(δl BK278.out 1).trans rfl;have hcz66_2:w63.cell? ⟨gb278,2,none⟩=some (.string t276):=(δl BK278.out 2).trans rfl;have hfz66_0:=δm BK278.out 0;have hfz66_1:=δm BK278.out 1;have hfz66_2:=δm BK278.out 2)|(go_at_call 23;(with_reducible refine (laws_eqPacket.calls t285 t286 t287 t274 t275 t276 τ _ A59.out).mono ?_);rintro e w67 ⟨rfl,hb⟩;replace HO_8:=ζa (ζh (by exact HO_8.out) hb);replace HO_11:=ζa (ζh (by exact HO_11.out) hb);replace HO_12:=ζa (ζh (by exact HO_12.out) hb);replace HO294:=ζa (ζh (by exact HO294.out) hb);replace BK278:=ζa (blk_below (g:=gb278) (o:=.cells #[.int .i64 t274,.int .i64 t275,.string t276] 36 (0,0)) (by exact BK278.out) hb);replace BK289:=ζa (blk_below (g:=gb289) (o:=.cells #[.int .i64 t285,.int .i64 t286,.string t287] 36 (0,0)) (by exact BK289.out) hb);replace HB:=ζa (δr (by exact HB.out) hb);(try clear hb);(try clear hb2);(try clear hk);(try clear hi)))
           go_meet
           case rel=>exact ⟨_,((t288 != t277)),(by rfl),H',⟨by have:=HJ11.out;omega⟩,⟨by exact Kd.R_mono HO_8.out (fun _ hk=>hk.2.1)⟩,⟨by exact Kd.R_mono HO_12.out (fun _ hk=>hk.1)⟩,⟨by exact BK278.out⟩,⟨by exact BK289.out⟩,⟨by repeat ((with_reducible exact HB.out))⟩⟩
          ·
           replace c60:=Bool.eq_false_iff.mpr c60
           subst c60
           rw [ifF] at H
           have H':=ζa H
           clear H
           obtain ⟨Ao68,co68,eo68⟩:=Kd.R_slice HO_12.out
           subst eo68
           obtain ⟨Ao69,co69,eo69⟩:=Kd.R_slice HO_8.out
           subst eo69
           go_wp2_with (first|(go_at_call 22;(with_reducible refine (laws_eqPairS.calls kj11 _ _ t282 _ _ t271 τ _ ?side1 ?side2 ?side3 ?side4 A57.out).mono ?_);(case side1=>repeat (exact (ζg HO_12.out).2.2));(case side2=>exact (ζg HO_12.out).2.1);(case side3=>repeat (exact (ζg HO_8.out).2.2));(case side4=>exact (ζg HO_8.out).2.1);rintro e w70 ⟨rfl,hb⟩;replace HO_8:=ζa (ζh (by exact HO_8.out) hb);replace HO_11:=ζa (ζh (by exact HO_11.out) hb);replace HO_12:=ζa (ζh (by exact HO_12.out) hb);replace HO294:=ζa (ζh (by exact HO294.out) hb);replace BK278:=ζa (blk_below (g:=gb278) (o:=.cells #[.int .i64 t274,.int .i64 t275,.string t276] 36 (0,0)) (by exact BK278.out) hb);replace BK289:=ζa (blk_below (g:=gb289) (o:=.cells #[.int .i64 t285,.int .i64 t286,.string t287] 36 (0,0)) (by exact BK289.out) hb);replace HB:=ζa (δr (by exact HB.out) hb);(try clear hb);(try clear hb2);(try clear hk);(try clear hi);have hnb71:=NB289_278.out;have hnc71:=NB278_289.out;have hcz72_0:w70.cell? ⟨gb289,0,none⟩=some (.int .i64 t285):=(δl BK289.out 0).trans rfl;have hcz72_1:w70.cell? ⟨gb289,1,none⟩=some (.int .i64 t286):=(δl BK289.out 1).trans rfl;have hcz72_2:w70.cell? ⟨gb289,2,none⟩=some (.string t287):=(δl BK289.out 2).trans rfl;have hfz72_0:=δm BK289.out 0;have hfz72_1:=δm BK289.out 1;have hfz72_2:=δm BK289.out 2;have hcz73_0:w70.cell? ⟨gb278,0,none⟩=some (.int .i64 t274):=(δl BK278.out 0).trans rfl;have hcz73_1:w70.cell? ⟨gb278,1,none⟩=some (.int .i64 t275):=(δl BK278.out 1).trans rfl;have hcz73_2:w70.cell? ⟨gb278,2,none⟩=some (.string t276):=(δl BK278.out 2).trans rfl;have hfz73_0:=δm BK278.out 0;have hfz73_1:=δm BK278.out 1;have hfz73_2:=δm BK278.out 2)|(go_at_call 23;(with_reducible refine (laws_eqPacket.calls t285 t286 t287 t274 t275 t276 φ _ A59.out).mono ?_);rintro e w74 ⟨rfl,hb⟩;replace HO_8:=ζa (ζh (by exact HO_8.out) hb);replace HO_11:=ζa (ζh (by exact HO_11.out) hb);replace HO_12:=ζa (ζh (by exact HO_12.out) hb);replace HO294:=ζa (ζh (by exact HO294.out) hb);replace BK278:=ζa (blk_below (g:=gb278) (o:=.cells #[.int .i64 t274,.int .i64 t275,.string t276] 36 (0,0)) (by exact BK278.out) hb);replace BK289:=ζa (blk_below (g:=gb289) (o:=.cells #[.int .i64 t285,.int .i64 t286,.string t287] 36 (0,0)) (by exact BK289.out) hb);replace HB:=ζa (δr (by exact HB.out) hb);(try clear hb);(try clear hb2);(try clear hk);(try clear hi)))
           go_meet
           case rel=>exact ⟨_,(τ),(by rfl),H',⟨by have:=HJ11.out;omega⟩,⟨by exact Kd.R_mono HO_8.out (fun _ hk=>hk.2.1)⟩,⟨by exact Kd.R_mono HO_12.out (fun _ hk=>hk.1)⟩,⟨by exact BK278.out⟩,⟨by exact BK289.out⟩,⟨by repeat ((with_reducible exact HB.out))⟩⟩
         ·
          replace c58:=Bool.eq_false_iff.mpr c58
          subst c58
          rw [ifF] at H
          have H':=ζa H
          clear H
          obtain ⟨Ao75,co75,eo75⟩:=Kd.R_slice HO_12.out
          subst eo75
          obtain ⟨Ao76,co76,eo76⟩:=Kd.R_slice HO_8.out
          subst eo76
          go_wp2_with ((go_at_call 22;(with_reducible refine (laws_eqPairS.calls kj11 _ _ t282 _ _ t271 φ _ ?side1 ?side2 ?side3 ?side4 A57.out).mono ?_);(case side1=>repeat (exact (ζg HO_12.out).2.2));(case side2=>exact (ζg HO_12.out).2.1);(case side3=>repeat (exact (ζg HO_8.out).2.2));(case side4=>exact (ζg HO_8.out).2.1);rintro e w77 ⟨rfl,hb⟩;replace HO_8:=ζa (ζh (by exact HO_8.out) hb);replace HO_11:=ζa (ζh (by exact HO_11.out) hb);replace HO_12:=ζa (ζh (by exact HO_12.out) hb);replace HO294:=ζa (ζh (by exact HO294.out) hb);replace BK278:=ζa (blk_below (g:=gb278) (o:=.cells #[.int .i64 t274,.int .i64 t275,.string t276] 36 (0,0)) (by exact BK278.out) hb);replace BK289:=ζa (blk_below (g:=gb289) (o:=.cells #[.int .i64 t285,.int .i64 t286,.string t287] 36 (0,0)) (by exact BK289.out) hb);replace HB:=ζa (δr (by exact HB.out) hb);(try clear hb);(try clear hb2);(try clear hk);(try clear hi)))
          go_meet
          case rel=>exact ⟨_,(τ),(by rfl),H',⟨by have:=HJ11.out;omega⟩,⟨by exact Kd.R_mono HO_8.out (fun _ hk=>hk.2.1)⟩,⟨by exact Kd.R_mono HO_12.out (fun _ hk=>hk.1)⟩,⟨by exact BK278.out⟩,⟨by exact BK289.out⟩,⟨by repeat ((with_reducible exact HB.out))⟩⟩
       case rest =>
        clear HC51
        try clear c1
        try clear c2
        try clear p2
        try clear c3
        try clear c4
        try clear c4b0
        try clear c4b1
        try clear c5
        try clear c6
        try clear c6b0
        try clear c7
        try clear c13
        try clear c14
        try clear c20
        try clear c21
        try clear c22
        try clear c23
        try clear c24
        try clear c26
        try clear c28
        try clear c32
        try clear c39
        try clear c46
        try clear c49
        try clear c56
        try clear c56b0
        try clear c58
        try clear c60
        try clear c64
        try clear c71
        try clear hcz18_0
        try clear hcz18_1
        try clear hcz18_2
        try clear hcz24_0
        try clear hcz24_1
        try clear hcz24_2
        try clear hcz33_0
        try clear hcz33_1
        try clear hcz33_2
        try clear hcz34_0
        try clear hcz34_1
        try clear hcz34_2
        try clear hcz40_0
        try clear hcz40_1
        try clear hcz40_2
        try clear hcz41_0
        try clear hcz41_1
        try clear hcz41_2
        try clear hcz65_0
        try clear hcz65_1
        try clear hcz65_2
        try clear hcz66_0
        try clear hcz66_1
        try clear hcz66_2
        try clear hcz72_0
        try clear hcz72_1
        try clear hcz72_2
        try clear hcz73_0
        try clear hcz73_1
        try clear hcz73_2
        try clear hfz18_0
        try clear hfz18_1
        try clear hfz18_2
        try clear hfz24_0
        try clear hfz24_1
        try clear hfz24_2
        try clear hfz33_0
        try clear hfz33_1
        try clear hfz33_2
        try clear hfz34_0
        try clear hfz34_1
        try clear hfz34_2
        try clear hfz40_0
        try clear hfz40_1
        try clear hfz40_2
        try clear hfz41_0
        try clear hfz41_1
        try clear hfz41_2
        try clear hfz65_0
        try clear hfz65_1
        try clear hfz65_2
        try clear hfz66_0
        try clear hfz66_1
        try clear hfz66_2
        try clear hfz72_0
        try clear hfz72_1
        try clear hfz72_2
        try clear hfz73_0
        try clear hfz73_1
        try clear hfz73_2
        try clear p2
        obtain ⟨kq,x89_50,rfl,HA,HJ50,HO_8,HO_12,BK278,BK289,HB⟩:=hcut
        cases kq with
        | zero=>exact absurd HA.out (by simp [laws_FnExactSendPacket.j1])
        | succ kj50 =>
         have H:=HA.out
         clear HA
         simp only [laws_FnExactSendPacket.j1] at H
         by_cases c78:x89_50=τ
         ·
          subst c78
          rw [ifT] at H
          obtain rfl:=Option.some.inj H
          go_wp2
          go_ret
          exact ⟨by rfl,by repeat ((with_reducible exact HB.out))⟩
         ·
          replace c78:=Bool.eq_false_iff.mpr c78
          subst c78
          rw [ifF] at H
          obtain ⟨⟨t300,t301⟩,A79,H⟩:=bsm H
          dsimp only at H
          obtain ⟨t302,A80,H⟩:=bsm H
          by_cases c81:t302<0
          ·
           rw [if_pos c81] at H
           have c81b0:=decide_eq_true c81
           clear c81
           obtain rfl:=Option.some.inj H
           obtain ⟨Ao82,co82,eo82⟩:=Kd.R_slice HO_12.out
           subst eo82
           go_wp2_with (first|((with_reducible refine δv (f:=24) rfl ?_);refine gl 92 Tryz.func24 #[.slice Ao82 t282.length co82,.int .i64 1] ?_;(with_reducible refine (laws_markPairS.calls kj50 (fun k_=>some k_=(.slice Ao82 t282.length co82:Value).ownBlock) (.slice Ao82 t282.length co82) t282 1 t300 t301 w _ ?side1 ?side2 A79.out).mono ?_);(case side1=>repeat ((with_reducible exact HB.out)));(case side2=>exact Kd.R_tight rfl HO_12.out);rintro e w83 ⟨rfl,hy0,hb,hkp⟩;refine ⟨_,rfl,?_⟩;replace HO_8:=ζa (Kd.R_mono (ok':=fun k_=>some k_≠(.slice Ao82 t282.length co82:Value).ownBlock) (Kd.R_keptB (HO_8.out) hkp (fun k_ hk_ hs_=>(hk_) hs_)) (fun k_ hk_=>hk_.1));replace BK278:=ζa (blk_kept (by exact BK278.out) hkp (fun hs_=>(fun e_=>(ζf HO_12.out BK278.out (by decide)) e_) hs_));replace BK289:=ζa (blk_kept (by exact BK289.out) hkp (fun hs_=>(fun e_=>(ζf HO_12.out BK289.out (by decide)) e_) hs_));replace HO_12:=ζa (Kd.R_reok rfl hy0 (fun k_ e_=>HO_12.out.1 k_ e_));replace HB:=ζa (hb);(try clear hb);(try clear hkp);(try clear hy0))|((with_reducible refine δv (f:=25) rfl ?_);refine gl 95 Tryz.func25 #[.slice Ao82 t301.length co82,.int .i64 1] (hargs:=(by (try simp only [δd,δe,δf]);first|(rw [show t301.length=t282.length from (ζg HO_12.out).1.symm] <;> rfl))) ?_;(with_reducible refine (laws_heldPairS.calls kj50 _ _ t301 1 t302 _ ?side1 ?side2 A80.out).mono ?_);(case side1=>repeat (exact (ζg HO_12.out).2.2));(case side2=>rw [show t301.length=t282.length from (ζg HO_12.out).1.symm];exact (ζg HO_12.out).2.1);rintro e w84 ⟨rfl,hb⟩;refine ⟨_,rfl,?_⟩;replace HO_8:=ζa (ζh (by exact HO_8.out) hb);replace HO_12:=ζa (ζh (by exact HO_12.out) hb);replace BK278:=ζa (blk_below (g:=gb278) (o:=.cells #[.int .i64 t274,.int .i64 t275,.string t276] 36 (0,0)) (by exact BK278.out) hb);replace BK289:=ζa (blk_below (g:=gb289) (o:=.cells #[.int .i64 t285,.int .i64 t286,.string t287] 36 (0,0)) (by exact BK289.out) hb);replace HB:=ζa (δr (by exact HB.out) hb);(try clear hb);(try clear hb2);(try clear hk);(try clear hi)))
           go_ret
           exact ⟨by rfl,by repeat ((with_reducible exact HB.out))⟩
          ·
           rw [if_neg c81] at H
           have c81b0:=decide_eq_false c81
           clear c81
           by_cases c85:t302=t300
           ·
            rw [if_pos c85] at H
            have c85b0:=beq_iff_eq.mpr c85
            have c85b1:=bne_eq_false_iff_eq.mpr c85
            clear c85
            obtain ⟨t303,A86,H⟩:=bsm H
            obtain ⟨⟨t306,t309,t310,t311,t312⟩,A87,H⟩:=bsm H
            dsimp only at H
            have HC88:=ζa H
            clear H
            obtain ⟨Ao89,co89,eo89⟩:=Kd.R_slice HO_12.out
            subst eo89
            go_upto_region 27 with (first|((with_reducible refine δv (f:=24) rfl ?_);refine gl 92 Tryz.func24 #[.slice Ao89 t282.length co89,.int .i64 1] ?_;(with_reducible refine (laws_markPairS.calls kj50 (fun k_=>some k_=(.slice Ao89 t282.length co89:Value).ownBlock) (.slice Ao89 t282.length co89) t282 1 t300 t301 w _ ?side1 ?side2 A79.out).mono ?_);(case side1=>repeat ((with_reducible exact HB.out)));(case side2=>exact Kd.R_tight rfl HO_12.out);rintro e w90 ⟨rfl,hy0,hb,hkp⟩;refine ⟨_,rfl,?_⟩;replace HO_8:=ζa (Kd.R_mono (ok':=fun k_=>some k_≠(.slice Ao89 t282.length co89:Value).ownBlock) (Kd.R_keptB (HO_8.out) hkp (fun k_ hk_ hs_=>(hk_) hs_)) (fun k_ hk_=>hk_.1));replace BK278:=ζa (blk_kept (by exact BK278.out) hkp (fun hs_=>(fun e_=>(ζf HO_12.out BK278.out (by decide)) e_) hs_));replace BK289:=ζa (blk_kept (by exact BK289.out) hkp (fun hs_=>(fun e_=>(ζf HO_12.out BK289.out (by decide)) e_) hs_));replace HO_12:=ζa (Kd.R_reok rfl hy0 (fun k_ e_=>HO_12.out.1 k_ e_));replace HB:=ζa (hb);(try clear hb);(try clear hkp);(try clear hy0))|((with_reducible refine δv (f:=25) rfl ?_);refine gl 95 Tryz.func25 #[.slice Ao89 t301.length co89,.int .i64 1] (hargs:=(by (try simp only [δd,δe,δf]);first|(rw [show t301.length=t282.length from (ζg HO_12.out).1.symm] <;> rfl))) ?_;(with_reducible refine (laws_heldPairS.calls kj50 _ _ t301 1 t302 _ ?side1 ?side2 A80.out).mono ?_);(case side1=>repeat (exact (ζg HO_12.out).2.2));(case side2=>rw [show t301.length=t282.length from (ζg HO_12.out).1.symm];exact (ζg HO_12.out).2.1);rintro e w91 ⟨rfl,hb⟩;refine ⟨_,rfl,?_⟩;replace HO_8:=ζa (ζh (by exact HO_8.out) hb);replace HO_12:=ζa (ζh (by exact HO_12.out) hb);replace BK278:=ζa (blk_below (g:=gb278) (o:=.cells #[.int .i64 t274,.int .i64 t275,.string t276] 36 (0,0)) (by exact BK278.out) hb);replace BK289:=ζa (blk_below (g:=gb289) (o:=.cells #[.int .i64 t285,.int .i64 t286,.string t287] 36 (0,0)) (by exact BK289.out) hb);replace HB:=ζa (δr (by exact HB.out) hb);(try clear hb);(try clear hb2);(try clear hk);(try clear hi))|((with_reducible refine δv (f:=21) rfl ?_);refine gl 103 Tryz.func21 #[.slice A0 l0.length c0] ?_;(with_reducible refine (laws_toPairS.calls kj50 _ _ l0 t303 _ ?side1 ?side2 A86.out).mono ?_);(case side1=>repeat (exact (Kd.C_below HR0.out HB.out)));(case side2=>exact HC0.out);rintro e w92 ⟨v304,rfl,ho0,hb⟩;refine ⟨_,rfl,?_⟩;have HO305:=ζa (Kd.R_lower (Kd.R_new' (Kd.R_new' ho0 (Kd.R_lt (by exact HO_8.out))) (Kd.R_lt (by exact HO_12.out))) (δs (by exact HB.out)));replace HO_8:=ζa (Kd.R_elder' (by exact HO_8.out) (Kd.R_base ho0) hb);replace HO_12:=ζa (Kd.R_elder' (by exact HO_12.out) (Kd.R_base ho0) hb);replace BK278:=ζa (blk_below (g:=gb278) (o:=.cells #[.int .i64 t274,.int .i64 t275,.string t276] 36 (0,0)) (by exact BK278.out) hb);replace BK289:=ζa (blk_below (g:=gb289) (o:=.cells #[.int .i64 t285,.int .i64 t286,.string t287] 36 (0,0)) (by exact BK289.out) hb);replace HB:=ζa (δr (by exact HB.out) hb);(try clear hb);(try clear hb2);(try clear hk);(try clear hi);(try clear ho0);obtain ⟨Ao93,co93,eo93⟩:=Kd.R_slice HO305.out;subst eo93)|((with_reducible refine δv (f:=13) rfl ?_);refine gl 106 Tryz.func13 #[.slice Ao93 t303.length co93,.string a1,.int .i64 a2] ?_;(with_reducible refine (impl_SendPacket.calls kj50 _ _ t303 a1 a2 t306 t309 t310 t311 t312 _ ?side1 ?side2 (HT0.out.below (by exact HB.out)) A87.out).mono ?_);(case side1=>repeat (exact (ζg HO305.out).2.2));(case side2=>exact (ζg HO305.out).2.1);rintro e w94 ⟨v307,rfl,ho0,hb⟩;refine ⟨_,rfl,?_⟩;have HO308:=ζa (Kd.R_lower (Kd.R_new' (Kd.R_new' (Kd.R_new' ho0 (Kd.R_lt (by exact HO_8.out))) (Kd.R_lt (by exact HO_12.out))) (Kd.R_lt (by exact HO305.out))) (δs (by exact HB.out)));replace HO_8:=ζa (Kd.R_elder' (by exact HO_8.out) (Kd.R_base ho0) hb);replace HO_12:=ζa (Kd.R_elder' (by exact HO_12.out) (Kd.R_base ho0) hb);replace HO305:=ζa (Kd.R_elder' (by exact HO305.out) (Kd.R_base ho0) hb);replace BK278:=ζa (blk_below (g:=gb278) (o:=.cells #[.int .i64 t274,.int .i64 t275,.string t276] 36 (0,0)) (by exact BK278.out) hb);replace BK289:=ζa (blk_below (g:=gb289) (o:=.cells #[.int .i64 t285,.int .i64 t286,.string t287] 36 (0,0)) (by exact BK289.out) hb);replace HB:=ζa (δr (by exact HB.out) hb);(try clear hb);(try clear hb2);(try clear hk);(try clear hi);(try clear ho0))|((with_reducible refine δx (N:=19) rfl ?_);refine bev 19 #[.int .i64 0,.int .i64 0,.string (⟨#[]⟩:ByteArray)] 36 ?_;intro gb313 hg w95 hbox hb;replace HO_8:=ζa (ζh (by exact HO_8.out) hb);replace HO_12:=ζa (ζh (by exact HO_12.out) hb);replace HO305:=ζa (ζh (by exact HO305.out) hb);replace HO308:=ζa (ζh (by exact HO308.out) hb);have BK313:=ζa (hbox);have GW313:=ζa (gbw hg (by exact HB.out));have GE313:=ζa (gbw hg (by exact HB.out));replace HB:=ζa (δr (by exact HB.out) hb);have NB278_313:=ζa ((by rw [hg];exact Nat.ne_of_lt (blk_lt (g:=gb278) (o:=.cells #[.int .i64 t274,.int .i64 t275,.string t276] 36 (0,0)) (by exact BK278.out)):gb278≠gb313));have NB313_278:=ζa ((by rw [hg];exact Nat.ne_of_gt (blk_lt (g:=gb278) (o:=.cells #[.int .i64 t274,.int .i64 t275,.string t276] 36 (0,0)) (by exact BK278.out)):gb313≠gb278));replace BK278:=ζa (blk_below (g:=gb278) (o:=.cells #[.int .i64 t274,.int .i64 t275,.string t276] 36 (0,0)) (by exact BK278.out) hb);have NB289_313:=ζa ((by rw [hg];exact Nat.ne_of_lt (blk_lt (g:=gb289) (o:=.cells #[.int .i64 t285,.int .i64 t286,.string t287] 36 (0,0)) (by exact BK289.out)):gb289≠gb313));have NB313_289:=ζa ((by rw [hg];exact Nat.ne_of_gt (blk_lt (g:=gb289) (o:=.cells #[.int .i64 t285,.int .i64 t286,.string t287] 36 (0,0)) (by exact BK289.out)):gb313≠gb289));replace BK289:=ζa (blk_below (g:=gb289) (o:=.cells #[.int .i64 t285,.int .i64 t286,.string t287] 36 (0,0)) (by exact BK289.out) hb);clear hb hbox hg;have hnb96:=NB313_278.out;have hnc96:=NB278_313.out;have hnb97:=NB313_289.out;have hnc97:=NB289_313.out;have hcz98_0:w95.cell? ⟨gb313,0,none⟩=some (.int .i64 0):=(δl BK313.out 0).trans rfl;have hcz98_1:w95.cell? ⟨gb313,1,none⟩=some (.int .i64 0):=(δl BK313.out 1).trans rfl;have hcz98_2:w95.cell? ⟨gb313,2,none⟩=some (.string (⟨#[]⟩:ByteArray)):=(δl BK313.out 2).trans rfl;have hfz98_0:=δm BK313.out 0;have hfz98_1:=δm BK313.out 1;have hfz98_2:=δm BK313.out 2))
            (try simp only [ζl,δa,δb,δc])
            go_cut [124] (fun v124 wc => ∃ (kq:Nat) (x124_87:Bool),v124 = .bool x124_87∧Aside0 (laws_FnExactSendPacket.j2 kq t301 t300 x124_87=some r)∧Aside0 (kq≤kj50)∧Aside0 (Kd.R k61 61 wc w.heap.size (fun _=>True) (.slice Ao89 t282.length co89) t301)∧Aside0 (wc.heap[gb278]? = some (.cells #[.int .i64 t274,.int .i64 t275,.string t276] 36 (0,0)))∧Aside0 (wc.heap[gb289]? = some (.cells #[.int .i64 t285,.int .i64 t286,.string t287] 36 (0,0)))∧Aside0 (wc.heap[gb313]? = some (.cells #[.int .i64 t309,.int .i64 t310,.string t311] 36 (0,0)))∧Aside0 (Below w.heap.size w wc))
            case first =>
             have H:=HC88.out
             clear HC88
             obtain ⟨t314,A99,H⟩:=bsm H
             by_cases c100:t314=τ
             ·
              subst c100
              rw [ifT] at H
              obtain ⟨t315,A101,H⟩:=bsm H
              by_cases c102:t315=τ
              ·
               subst c102
               rw [ifT] at H
               have H':=ζa H
               clear H
               obtain ⟨Ao103,co103,eo103⟩:=Kd.R_slice HO308.out
               subst eo103
               obtain ⟨Ao104,co104,eo104⟩:=Kd.R_slice HO_8.out
               subst eo104
               go_wp2_with (first|((with_reducible refine δv (f:=22) rfl ?_);refine gl 112 Tryz.func22 #[.slice Ao103 t306.length co103,.slice Ao104 t271.length co104] ?_;(with_reducible refine (laws_eqPairS.calls kj50 _ _ t306 _ _ t271 τ _ ?side1 ?side2 ?side3 ?side4 A99.out).mono ?_);(case side1=>refine (ζg (e:=61) (base:=w.heap.size) (ok:=fun k_=>(((True∧some k_≠(.slice Ao104 t271.length co104:Value).ownBlock)∧some k_≠(.slice Ao89 t282.length co89:Value).ownBlock)∧some k_≠(.slice Ao93 t303.length co93:Value).ownBlock)) (n:=t306.length) (c:=co103) ?_).2.2;exact (by exact (Kd.R_mono (ζi (p:=⟨gb313,2,none⟩) (ζi (p:=⟨gb313,1,none⟩) (ζi (p:=⟨gb313,0,none⟩) (Kd.R_types HO308.out BK313.out (by decide)) (fun _ hk=>hk.2) (.int .i64 t309)) (fun _ hk=>hk.2) (.int .i64 t310)) (fun _ hk=>hk.2) (.string t311)) (fun _ h_=>h_.1))));(case side2=>exact (ζg HO308.out).2.1);(case side3=>refine (ζg (e:=61) (base:=w.heap.size) (ok:=fun k_=>((some k_≠(.slice Ao89 t282.length co89:Value).ownBlock∧some k_≠(.slice Ao93 t303.length co93:Value).ownBlock)∧some k_≠(.slice Ao103 t306.length co103:Value).ownBlock)) (n:=t271.length) (c:=co104) ?_).2.2;exact (by exact (Kd.R_mono (ζi (p:=⟨gb313,2,none⟩) (ζi (p:=⟨gb313,1,none⟩) (ζi (p:=⟨gb313,0,none⟩) (Kd.R_types HO_8.out BK313.out (by decide)) (fun _ hk=>hk.2) (.int .i64 t309)) (fun _ hk=>hk.2) (.int .i64 t310)) (fun _ hk=>hk.2) (.string t311)) (fun _ h_=>h_.1))));(case side4=>exact (ζg HO_8.out).2.1);rintro e w105 ⟨rfl,hb⟩;refine ⟨_,rfl,?_⟩;replace HO_8:=ζa (ζh (by exact (Kd.R_mono (ζi (p:=⟨gb313,2,none⟩) (ζi (p:=⟨gb313,1,none⟩) (ζi (p:=⟨gb313,0,none⟩) (Kd.R_types HO_8.out BK313.out (by decide)) (fun _ hk=>hk.2) (.int .i64 t309)) (fun _ hk=>hk.2) (.int .i64 t310)) (fun _ hk=>hk.2) (.string t311)) (fun _ h_=>h_.1))) hb);replace HO_12:=ζa (ζh (by exact (Kd.R_mono (ζi (p:=⟨gb313,2,none⟩) (ζi (p:=⟨gb313,1,none⟩) (ζi (p:=⟨gb313,0,none⟩) (Kd.R_types HO_12.out BK313.out (by decide)) (fun _ hk=>hk.2) (.int .i64 t309)) (fun _ hk=>hk.2) (.int .i64 t310)) (fun _ hk=>hk.2) (.string t311)) (fun _ h_=>h_.1))) hb);replace HO305:=ζa (ζh (by exact (Kd.R_mono (ζi (p:=⟨gb313,2,none⟩) (ζi (p:=⟨gb313,1,none⟩) (ζi (p:=⟨gb313,0,none⟩) (Kd.R_types HO305.out BK313.out (by decide)) (fun _ hk=>hk.2) (.int .i64 t309)) (fun _ hk=>hk.2) (.int .i64 t310)) (fun _ hk=>hk.2) (.string t311)) (fun _ h_=>h_.1))) hb);replace HO308:=ζa (ζh (by exact (Kd.R_mono (ζi (p:=⟨gb313,2,none⟩) (ζi (p:=⟨gb313,1,none⟩) (ζi (p:=⟨gb313,0,none⟩) (Kd.R_types HO308.out BK313.out (by decide)) (fun _ hk=>hk.2) (.int .i64 t309)) (fun _ hk=>hk.2) (.int .i64 t310)) (fun _ hk=>hk.2) (.string t311)) (fun _ h_=>h_.1))) hb);replace BK278:=ζa (blk_below (g:=gb278) (o:=.cells #[.int .i64 t274,.int .i64 t275,.string t276] 36 (0,0)) (by refine blk_far ?_ NB278_313.out _;refine blk_far ?_ NB278_313.out _;refine blk_far ?_ NB278_313.out _;exact BK278.out) hb);replace BK289:=ζa (blk_below (g:=gb289) (o:=.cells #[.int .i64 t285,.int .i64 t286,.string t287] 36 (0,0)) (by refine blk_far ?_ NB289_313.out _;refine blk_far ?_ NB289_313.out _;refine blk_far ?_ NB289_313.out _;exact BK289.out) hb);replace BK313:=ζa (blk_below (g:=gb313) (o:=.cells #[.int .i64 t309,.int .i64 t310,.string t311] 36 (0,0)) (by refine δw (cs:=#[.int .i64 t309,.int .i64 t310,.string (⟨#[]⟩:ByteArray)]) ?_ 2 _ rfl;refine δw (cs:=#[.int .i64 t309,.int .i64 0,.string (⟨#[]⟩:ByteArray)]) ?_ 1 _ rfl;refine δw (cs:=#[.int .i64 0,.int .i64 0,.string (⟨#[]⟩:ByteArray)]) ?_ 0 _ rfl;exact BK313.out) hb);replace HB:=ζa (δr (by repeat ((with_reducible first|exact HB.out|refine δq ?_ GE313.out))) hb);(try clear hb);(try clear hb2);(try clear hk);(try clear hi);have hnb106:=NB313_278.out;have hnc106:=NB278_313.out;have hnb107:=NB313_289.out;have hnc107:=NB289_313.out;have hcz108_0:w105.cell? ⟨gb313,0,none⟩=some (.int .i64 t309):=(δl BK313.out 0).trans rfl;have hcz108_1:w105.cell? ⟨gb313,1,none⟩=some (.int .i64 t310):=(δl BK313.out 1).trans rfl;have hcz108_2:w105.cell? ⟨gb313,2,none⟩=some (.string t311):=(δl BK313.out 2).trans rfl;have hfz108_0:=δm BK313.out 0;have hfz108_1:=δm BK313.out 1;have hfz108_2:=δm BK313.out 2;have hnb109:=NB278_289.out;have hnc109:=NB289_278.out;have hcz110_0:w105.cell? ⟨gb278,0,none⟩=some (.int .i64 t274):=(δl BK278.out 0).trans rfl;have hcz110_1:w105.cell? ⟨gb278,1,none⟩=some (.int .i64 t275):=(δl BK278.out 1).trans rfl;have hcz110_2:w105.cell? ⟨gb278,2,none⟩=some (.string t276):=(δl BK278.out 2).trans rfl;have hfz110_0:=δm BK278.out 0;have hfz110_1:=δm BK278.out 1;have hfz110_2:=δm BK278.out 2)|(go_at_call 23;(with_reducible refine (laws_eqPacket.calls t309 t310 t311 t274 t275 t276 τ _ A101.out).mono ?_);rintro e w111 ⟨rfl,hb⟩;replace HO_8:=ζa (ζh (by exact HO_8.out) hb);replace HO_12:=ζa (ζh (by exact HO_12.out) hb);replace HO305:=ζa (ζh (by exact HO305.out) hb);replace HO308:=ζa (ζh (by exact HO308.out) hb);replace BK278:=ζa (blk_below (g:=gb278) (o:=.cells #[.int .i64 t274,.int .i64 t275,.string t276] 36 (0,0)) (by exact BK278.out) hb);replace BK289:=ζa (blk_below (g:=gb289) (o:=.cells #[.int .i64 t285,.int .i64 t286,.string t287] 36 (0,0)) (by exact BK289.out) hb);replace BK313:=ζa (blk_below (g:=gb313) (o:=.cells #[.int .i64 t309,.int .i64 t310,.string t311] 36 (0,0)) (by exact BK313.out) hb);replace HB:=ζa (δr (by exact HB.out) hb);(try clear hb);(try clear hb2);(try clear hk);(try clear hi)))
               go_meet
               case rel=>exact ⟨_,((t312 != t277)),(by rfl),H',⟨by have:=HJ11.out;have:=HJ50.out;omega⟩,⟨by exact Kd.R_mono HO_12.out (fun _ hk=>trivial)⟩,⟨by exact BK278.out⟩,⟨by exact BK289.out⟩,⟨by exact BK313.out⟩,⟨by repeat ((with_reducible exact HB.out))⟩⟩
              ·
               replace c102:=Bool.eq_false_iff.mpr c102
               subst c102
               rw [ifF] at H
               have H':=ζa H
               clear H
               obtain ⟨Ao112,co112,eo112⟩:=Kd.R_slice HO308.out
               subst eo112
               obtain ⟨Ao113,co113,eo113⟩:=Kd.R_slice HO_8.out
               subst eo113
               go_wp2_with (first|((with_reducible refine δv (f:=22) rfl ?_);refine gl 112 Tryz.func22 #[.slice Ao112 t306.length co112,.slice Ao113 t271.length co113] ?_;(with_reducible refine (laws_eqPairS.calls kj50 _ _ t306 _ _ t271 τ _ ?side1 ?side2 ?side3 ?side4 A99.out).mono ?_);(case side1=>refine (ζg (e:=61) (base:=w.heap.size) (ok:=fun k_=>(((True∧some k_≠(.slice Ao113 t271.length co113:Value).ownBlock)∧some k_≠(.slice Ao89 t282.length co89:Value).ownBlock)∧some k_≠(.slice Ao93 t303.length co93:Value).ownBlock)) (n:=t306.length) (c:=co112) ?_).2.2;exact (by exact (Kd.R_mono (ζi (p:=⟨gb313,2,none⟩) (ζi (p:=⟨gb313,1,none⟩) (ζi (p:=⟨gb313,0,none⟩) (Kd.R_types HO308.out BK313.out (by decide)) (fun _ hk=>hk.2) (.int .i64 t309)) (fun _ hk=>hk.2) (.int .i64 t310)) (fun _ hk=>hk.2) (.string t311)) (fun _ h_=>h_.1))));(case side2=>exact (ζg HO308.out).2.1);(case side3=>refine (ζg (e:=61) (base:=w.heap.size) (ok:=fun k_=>((some k_≠(.slice Ao89 t282.length co89:Value).ownBlock∧some k_≠(.slice Ao93 t303.length co93:Value).ownBlock)∧some k_≠(.slice Ao112 t306.length co112:Value).ownBlock)) (n:=t271.length) (c:=co113) ?_).2.2;exact (by exact (Kd.R_mono (ζi (p:=⟨gb313,2,none⟩) (ζi (p:=⟨gb313,1,none⟩) (ζi (p:=⟨gb313,0,none⟩) (Kd.R_types HO_8.out BK313.out (by decide)) (fun _ hk=>hk.2) (.int .i64 t309)) (fun _ hk=>hk.2) (.int .i64 t310)) (fun _ hk=>hk.2) (.string t311)) (fun _ h_=>h_.1))));(case side4=>exact (ζg HO_8.out).2.1);rintro e w114 ⟨rfl,hb⟩;refine ⟨_,rfl,?_⟩;replace HO_8:=ζa (ζh (by exact (Kd.R_mono (ζi (p:=⟨gb313,2,none⟩) (ζi (p:=⟨gb313,1,none⟩) (ζi (p:=⟨gb313,0,none⟩) (Kd.R_types HO_8.out BK313.out (by decide)) (fun _ hk=>hk.2) (.int .i64 t309)) (fun _ hk=>hk.2) (.int .i64 t310)) (fun _ hk=>hk.2) (.string t311)) (fun _ h_=>h_.1))) hb);replace HO_12:=ζa (ζh (by exact (Kd.R_mono (ζi (p:=⟨gb313,2,none⟩) (ζi (p:=⟨gb313,1,none⟩) (ζi (p:=⟨gb313,0,none⟩) (Kd.R_types HO_12.out BK313.out (by decide)) (fun _ hk=>hk.2) (.int .i64 t309)) (fun _ hk=>hk.2) (.int .i64 t310)) (fun _ hk=>hk.2) (.string t311)) (fun _ h_=>h_.1))) hb);replace HO305:=ζa (ζh (by exact (Kd.R_mono (ζi (p:=⟨gb313,2,none⟩) (ζi (p:=⟨gb313,1,none⟩) (ζi (p:=⟨gb313,0,none⟩) (Kd.R_types HO305.out BK313.out (by decide)) (fun _ hk=>hk.2) (.int .i64 t309)) (fun _ hk=>hk.2) (.int .i64 t310)) (fun _ hk=>hk.2) (.string t311)) (fun _ h_=>h_.1))) hb);replace HO308:=ζa (ζh (by exact (Kd.R_mono (ζi (p:=⟨gb313,2,none⟩) (ζi (p:=⟨gb313,1,none⟩) (ζi (p:=⟨gb313,0,none⟩) (Kd.R_types HO308.out BK313.out (by decide)) (fun _ hk=>hk.2) (.int .i64 t309)) (fun _ hk=>hk.2) (.int .i64 t310)) (fun _ hk=>hk.2) (.string t311)) (fun _ h_=>h_.1))) hb);replace BK278:=ζa (blk_below (g:=gb278) (o:=.cells #[.int .i64 t274,.int .i64 t275,.string t276] 36 (0,0)) (by refine blk_far ?_ NB278_313.out _;refine blk_far ?_ NB278_313.out _;refine blk_far ?_ NB278_313.out _;exact BK278.out) hb);replace BK289:=ζa (blk_below (g:=gb289) (o:=.cells #[.int .i64 t285,.int .i64 t286,.string t287] 36 (0,0)) (by refine blk_far ?_ NB289_313.out _;refine blk_far ?_ NB289_313.out _;refine blk_far ?_ NB289_313.out _;exact BK289.out) hb);replace BK313:=ζa (blk_below (g:=gb313) (o:=.cells #[.int .i64 t309,.int .i64 t310,.string t311] 36 (0,0)) (by refine δw (cs:=#[.int .i64 t309,.int .i64 t310,.string (⟨#[]⟩:ByteArray)]) ?_ 2 _ rfl;refine δw (cs:=#[.int .i64 t309,.int .i64 0,.string (⟨#[]⟩:ByteArray)]) ?_ 1 _ rfl;refine δw (cs:=#[.int .i64 0,.int .i64 0,.string (⟨#[]⟩:ByteArray)]) ?_ 0 _ rfl;exact BK313.out) hb);replace HB:=ζa (δr (by repeat ((with_reducible first|exact HB.out|refine δq ?_ GE313.out))) hb);(try clear hb);(try clear hb2);(try clear hk);(try clear hi);have hnb115:=NB313_278.out;have hnc115:=NB278_313.out;have hnb116:=NB313_289.out;have hnc116:=NB289_313.out;have hcz117_0:w114.cell? ⟨gb313,0,none⟩=some (.int .i64 t309):=(δl BK313.out 0).trans rfl;have hcz117_1:w114.cell? ⟨gb313,1,none⟩=some (.int .i64 t310):=(δl BK313.out 1).trans rfl;have hcz117_2:w114.cell? ⟨gb313,2,none⟩=some (.string t311):=(δl BK313.out 2).trans rfl;have hfz117_0:=δm BK313.out 0;have hfz117_1:=δm BK313.out 1;have hfz117_2:=δm BK313.out 2;have hnb118:=NB278_289.out;have hnc118:=NB289_278.out;have hcz119_0:w114.cell? ⟨gb278,0,none⟩=some (.int .i64 t274):=(δl BK278.out 0).trans rfl;have hcz119_1:w114.cell? ⟨gb278,1,none⟩=some (.int .i64 t275):=(δl BK278.out 1).trans rfl;have hcz119_2:w114.cell? ⟨gb278,2,none⟩=some (.string t276):=(δl BK278.out 2).trans rfl;have hfz119_0:=δm BK278.out 0;have hfz119_1:=δm BK278.out 1;have hfz119_2:=δm BK278.out 2)|(go_at_call 23;(with_reducible refine (laws_eqPacket.calls t309 t310 t311 t274 t275 t276 φ _ A101.out).mono ?_);rintro e w120 ⟨rfl,hb⟩;replace HO_8:=ζa (ζh (by exact HO_8.out) hb);replace HO_12:=ζa (ζh (by exact HO_12.out) hb);replace HO305:=ζa (ζh (by exact HO305.out) hb);replace HO308:=ζa (ζh (by exact HO308.out) hb);replace BK278:=ζa (blk_below (g:=gb278) (o:=.cells #[.int .i64 t274,.int .i64 t275,.string t276] 36 (0,0)) (by exact BK278.out) hb);replace BK289:=ζa (blk_below (g:=gb289) (o:=.cells #[.int .i64 t285,.int .i64 t286,.string t287] 36 (0,0)) (by exact BK289.out) hb);replace BK313:=ζa (blk_below (g:=gb313) (o:=.cells #[.int .i64 t309,.int .i64 t310,.string t311] 36 (0,0)) (by exact BK313.out) hb);replace HB:=ζa (δr (by exact HB.out) hb);(try clear hb);(try clear hb2);(try clear hk);(try clear hi)))
               go_meet
               case rel=>exact ⟨_,(τ),(by rfl),H',⟨by have:=HJ11.out;have:=HJ50.out;omega⟩,⟨by exact Kd.R_mono HO_12.out (fun _ hk=>trivial)⟩,⟨by exact BK278.out⟩,⟨by exact BK289.out⟩,⟨by exact BK313.out⟩,⟨by repeat ((with_reducible exact HB.out))⟩⟩
             ·
              replace c100:=Bool.eq_false_iff.mpr c100
              subst c100
              rw [ifF] at H
              have H':=ζa H
              clear H
              obtain ⟨Ao121,co121,eo121⟩:=Kd.R_slice HO308.out
              subst eo121
              obtain ⟨Ao122,co122,eo122⟩:=Kd.R_slice HO_8.out
              subst eo122
              go_wp2_with (((with_reducible refine δv (f:=22) rfl ?_);refine gl 112 Tryz.func22 #[.slice Ao121 t306.length co121,.slice Ao122 t271.length co122] ?_;(with_reducible refine (laws_eqPairS.calls kj50 _ _ t306 _ _ t271 φ _ ?side1 ?side2 ?side3 ?side4 A99.out).mono ?_);(case side1=>refine (ζg (e:=61) (base:=w.heap.size) (ok:=fun k_=>(((True∧some k_≠(.slice Ao122 t271.length co122:Value).ownBlock)∧some k_≠(.slice Ao89 t282.length co89:Value).ownBlock)∧some k_≠(.slice Ao93 t303.length co93:Value).ownBlock)) (n:=t306.length) (c:=co121) ?_).2.2;exact (by exact (Kd.R_mono (ζi (p:=⟨gb313,2,none⟩) (ζi (p:=⟨gb313,1,none⟩) (ζi (p:=⟨gb313,0,none⟩) (Kd.R_types HO308.out BK313.out (by decide)) (fun _ hk=>hk.2) (.int .i64 t309)) (fun _ hk=>hk.2) (.int .i64 t310)) (fun _ hk=>hk.2) (.string t311)) (fun _ h_=>h_.1))));(case side2=>exact (ζg HO308.out).2.1);(case side3=>refine (ζg (e:=61) (base:=w.heap.size) (ok:=fun k_=>((some k_≠(.slice Ao89 t282.length co89:Value).ownBlock∧some k_≠(.slice Ao93 t303.length co93:Value).ownBlock)∧some k_≠(.slice Ao121 t306.length co121:Value).ownBlock)) (n:=t271.length) (c:=co122) ?_).2.2;exact (by exact (Kd.R_mono (ζi (p:=⟨gb313,2,none⟩) (ζi (p:=⟨gb313,1,none⟩) (ζi (p:=⟨gb313,0,none⟩) (Kd.R_types HO_8.out BK313.out (by decide)) (fun _ hk=>hk.2) (.int .i64 t309)) (fun _ hk=>hk.2) (.int .i64 t310)) (fun _ hk=>hk.2) (.string t311)) (fun _ h_=>h_.1))));(case side4=>exact (ζg HO_8.out).2.1);rintro e w123 ⟨rfl,hb⟩;refine ⟨_,rfl,?_⟩;replace HO_8:=ζa (ζh (by exact (Kd.R_mono (ζi (p:=⟨gb313,2,none⟩) (ζi (p:=⟨gb313,1,none⟩) (ζi (p:=⟨gb313,0,none⟩) (Kd.R_types HO_8.out BK313.out (by decide)) (fun _ hk=>hk.2) (.int .i64 t309)) (fun _ hk=>hk.2) (.int .i64 t310)) (fun _ hk=>hk.2) (.string t311)) (fun _ h_=>h_.1))) hb);replace HO_12:=ζa (ζh (by exact (Kd.R_mono (ζi (p:=⟨gb313,2,none⟩) (ζi (p:=⟨gb313,1,none⟩) (ζi (p:=⟨gb313,0,none⟩) (Kd.R_types HO_12.out BK313.out (by decide)) (fun _ hk=>hk.2) (.int .i64 t309)) (fun _ hk=>hk.2) (.int .i64 t310)) (fun _ hk=>hk.2) (.string t311)) (fun _ h_=>h_.1))) hb);replace HO305:=ζa (ζh (by exact (Kd.R_mono (ζi (p:=⟨gb313,2,none⟩) (ζi (p:=⟨gb313,1,none⟩) (ζi (p:=⟨gb313,0,none⟩) (Kd.R_types HO305.out BK313.out (by decide)) (fun _ hk=>hk.2) (.int .i64 t309)) (fun _ hk=>hk.2) (.int .i64 t310)) (fun _ hk=>hk.2) (.string t311)) (fun _ h_=>h_.1))) hb);replace HO308:=ζa (ζh (by exact (Kd.R_mono (ζi (p:=⟨gb313,2,none⟩) (ζi (p:=⟨gb313,1,none⟩) (ζi (p:=⟨gb313,0,none⟩) (Kd.R_types HO308.out BK313.out (by decide)) (fun _ hk=>hk.2) (.int .i64 t309)) (fun _ hk=>hk.2) (.int .i64 t310)) (fun _ hk=>hk.2) (.string t311)) (fun _ h_=>h_.1))) hb);replace BK278:=ζa (blk_below (g:=gb278) (o:=.cells #[.int .i64 t274,.int .i64 t275,.string t276] 36 (0,0)) (by refine blk_far ?_ NB278_313.out _;refine blk_far ?_ NB278_313.out _;refine blk_far ?_ NB278_313.out _;exact BK278.out) hb);replace BK289:=ζa (blk_below (g:=gb289) (o:=.cells #[.int .i64 t285,.int .i64 t286,.string t287] 36 (0,0)) (by refine blk_far ?_ NB289_313.out _;refine blk_far ?_ NB289_313.out _;refine blk_far ?_ NB289_313.out _;exact BK289.out) hb);replace BK313:=ζa (blk_below (g:=gb313) (o:=.cells #[.int .i64 t309,.int .i64 t310,.string t311] 36 (0,0)) (by refine δw (cs:=#[.int .i64 t309,.int .i64 t310,.string (⟨#[]⟩:ByteArray)]) ?_ 2 _ rfl;refine δw (cs:=#[.int .i64 t309,.int .i64 0,.string (⟨#[]⟩:ByteArray)]) ?_ 1 _ rfl;refine δw (cs:=#[.int .i64 0,.int .i64 0,.string (⟨#[]⟩:ByteArray)]) ?_ 0 _ rfl;exact BK313.out) hb);replace HB:=ζa (δr (by repeat ((with_reducible first|exact HB.out|refine δq ?_ GE313.out))) hb);(try clear hb);(try clear hb2);(try clear hk);(try clear hi)))
              go_meet
              case rel=>exact ⟨_,(τ),(by rfl),H',⟨by have:=HJ11.out;have:=HJ50.out;omega⟩,⟨by exact Kd.R_mono HO_12.out (fun _ hk=>trivial)⟩,⟨by exact BK278.out⟩,⟨by exact BK289.out⟩,⟨by exact BK313.out⟩,⟨by repeat ((with_reducible exact HB.out))⟩⟩
            case rest =>
             clear HC88
             try clear c1
             try clear c2
             try clear p2
             try clear c3
             try clear c4
             try clear c4b0
             try clear c4b1
             try clear c5
             try clear c6
             try clear c6b0
             try clear c7
             try clear c8
             try clear c9
             try clear c10
             try clear c11
             try clear c13
             try clear c14
             try clear c20
             try clear c21
             try clear c22
             try clear c23
             try clear c24
             try clear c25
             try clear c26
             try clear c28
             try clear c32
             try clear c39
             try clear c46
             try clear c49
             try clear c56
             try clear c56b0
             try clear c58
             try clear c60
             try clear c64
             try clear c71
             try clear c78
             try clear c81
             try clear c81b0
             try clear c85
             try clear c85b0
             try clear c85b1
             try clear c96
             try clear c97
             try clear c100
             try clear c102
             try clear c106
             try clear c107
             try clear c109
             try clear c115
             try clear c116
             try clear c118
             try clear hcz108_0
             try clear hcz108_1
             try clear hcz108_2
             try clear hcz110_0
             try clear hcz110_1
             try clear hcz110_2
             try clear hcz117_0
             try clear hcz117_1
             try clear hcz117_2
             try clear hcz119_0
             try clear hcz119_1
             try clear hcz119_2
             try clear hcz18_0
             try clear hcz18_1
             try clear hcz18_2
             try clear hcz24_0
             try clear hcz24_1
             try clear hcz24_2
             try clear hcz33_0
             try clear hcz33_1
             try clear hcz33_2
             try clear hcz34_0
             try clear hcz34_1
             try clear hcz34_2
             try clear hcz40_0
             try clear hcz40_1
             try clear hcz40_2
             try clear hcz41_0
             try clear hcz41_1
             try clear hcz41_2
             try clear hcz65_0
             try clear hcz65_1
             try clear hcz65_2
             try clear hcz66_0
             try clear hcz66_1
             try clear hcz66_2
             try clear hcz72_0
             try clear hcz72_1
             try clear hcz72_2
             try clear hcz73_0
             try clear hcz73_1
             try clear hcz73_2
             try clear hcz98_0
             try clear hcz98_1
             try clear hcz98_2
             try clear hfz108_0
             try clear hfz108_1
             try clear hfz108_2
             try clear hfz110_0
             try clear hfz110_1
             try clear hfz110_2
             try clear hfz117_0
             try clear hfz117_1
             try clear hfz117_2
             try clear hfz119_0
             try clear hfz119_1
             try clear hfz119_2
             try clear hfz18_0
             try clear hfz18_1
             try clear hfz18_2
             try clear hfz24_0
             try clear hfz24_1
             try clear hfz24_2
             try clear hfz33_0
             try clear hfz33_1
             try clear hfz33_2
             try clear hfz34_0
             try clear hfz34_1
             try clear hfz34_2
             try clear hfz40_0
             try clear hfz40_1
             try clear hfz40_2
             try clear hfz41_0
             try clear hfz41_1
             try clear hfz41_2
             try clear hfz65_0
             try clear hfz65_1
             try clear hfz65_2
             try clear hfz66_0
             try clear hfz66_1
             try clear hfz66_2
             try clear hfz72_0
             try clear hfz72_1
             try clear hfz72_2
             try clear hfz73_0
             try clear hfz73_1
             try clear hfz73_2
             try clear hfz98_0
             try clear hfz98_1
             try clear hfz98_2
             try clear p2
             obtain ⟨kq,x124_87,rfl,HA,HJ87,HO_12,BK278,BK289,BK313,HB⟩:=hcut
             have hl12_87:=(ζg HO_12.out).1
             rw [hl12_87] at HO_12
             (try simp only [hl12_87])
             (try simp only [hl12_87] at BK278)
             (try simp only [hl12_87] at BK289)
             (try simp only [hl12_87] at BK313)
             cases kq with
             | zero=>exact absurd HA.out (by simp [laws_FnExactSendPacket.j2])
             | succ kj87 =>
              have H:=HA.out
              clear HA
              simp only [laws_FnExactSendPacket.j2] at H
              by_cases c124:x124_87=τ
              ·
               subst c124
               rw [ifT] at H
               obtain rfl:=Option.some.inj H
               go_wp2
               go_ret
               exact ⟨by rfl,by repeat ((with_reducible exact HB.out))⟩
              ·
               replace c124:=Bool.eq_false_iff.mpr c124
               subst c124
               rw [ifF] at H
               obtain ⟨t316,A125,H⟩:=bsm H
               by_cases c126:t316<0
               ·
                rw [if_pos c126] at H
                have c126b0:=decide_eq_true c126
                clear c126
                obtain rfl:=Option.some.inj H
                go_wp2_with (((with_reducible refine δv (f:=25) rfl ?_);refine gl 127 Tryz.func25 #[.slice Ao89 t301.length co89,.int .i64 1] ?_;(with_reducible refine (laws_heldPairS.calls kj87 _ _ t301 1 t316 _ ?side1 ?side2 A125.out).mono ?_);(case side1=>repeat (exact (ζg HO_12.out).2.2));(case side2=>exact (ζg HO_12.out).2.1);rintro e w127 ⟨rfl,hb⟩;refine ⟨_,rfl,?_⟩;replace HO_12:=ζa (ζh (by exact HO_12.out) hb);replace BK278:=ζa (blk_below (g:=gb278) (o:=.cells #[.int .i64 t274,.int .i64 t275,.string t276] 36 (0,0)) (by exact BK278.out) hb);replace BK289:=ζa (blk_below (g:=gb289) (o:=.cells #[.int .i64 t285,.int .i64 t286,.string t287] 36 (0,0)) (by exact BK289.out) hb);replace BK313:=ζa (blk_below (g:=gb313) (o:=.cells #[.int .i64 t309,.int .i64 t310,.string t311] 36 (0,0)) (by exact BK313.out) hb);replace HB:=ζa (δr (by exact HB.out) hb);(try clear hb);(try clear hb2);(try clear hk);(try clear hi)))
                go_ret
                exact ⟨by rfl,by repeat ((with_reducible exact HB.out))⟩
               ·
                rw [if_neg c126] at H
                have c126b0:=decide_eq_false c126
                clear c126
                by_cases c128:t316=t300
                ·
                 rw [if_pos c128] at H
                 have c128b0:=beq_iff_eq.mpr c128
                 have c128b1:=bne_eq_false_iff_eq.mpr c128
                 clear c128
                 obtain rfl:=Option.some.inj H
                 go_wp2_with (((with_reducible refine δv (f:=25) rfl ?_);refine gl 127 Tryz.func25 #[.slice Ao89 t301.length co89,.int .i64 1] ?_;(with_reducible refine (laws_heldPairS.calls kj87 _ _ t301 1 t316 _ ?side1 ?side2 A125.out).mono ?_);(case side1=>repeat (exact (ζg HO_12.out).2.2));(case side2=>exact (ζg HO_12.out).2.1);rintro e w129 ⟨rfl,hb⟩;refine ⟨_,rfl,?_⟩;replace HO_12:=ζa (ζh (by exact HO_12.out) hb);replace BK278:=ζa (blk_below (g:=gb278) (o:=.cells #[.int .i64 t274,.int .i64 t275,.string t276] 36 (0,0)) (by exact BK278.out) hb);replace BK289:=ζa (blk_below (g:=gb289) (o:=.cells #[.int .i64 t285,.int .i64 t286,.string t287] 36 (0,0)) (by exact BK289.out) hb);replace BK313:=ζa (blk_below (g:=gb313) (o:=.cells #[.int .i64 t309,.int .i64 t310,.string t311] 36 (0,0)) (by exact BK313.out) hb);replace HB:=ζa (δr (by exact HB.out) hb);(try clear hb);(try clear hb2);(try clear hk);(try clear hi)))
                 go_ret
                 exact ⟨by rfl,by repeat ((with_reducible exact HB.out))⟩
                ·
                 rw [if_neg c128] at H
                 have c128b0:=beq_eq_false_iff_ne.mpr c128
                 have c128b1:=bne_iff_ne.mpr c128
                 obtain rfl:=Option.some.inj H
                 go_wp2_with (((with_reducible refine δv (f:=25) rfl ?_);refine gl 127 Tryz.func25 #[.slice Ao89 t301.length co89,.int .i64 1] ?_;(with_reducible refine (laws_heldPairS.calls kj87 _ _ t301 1 t316 _ ?side1 ?side2 A125.out).mono ?_);(case side1=>repeat (exact (ζg HO_12.out).2.2));(case side2=>exact (ζg HO_12.out).2.1);rintro e w130 ⟨rfl,hb⟩;refine ⟨_,rfl,?_⟩;replace HO_12:=ζa (ζh (by exact HO_12.out) hb);replace BK278:=ζa (blk_below (g:=gb278) (o:=.cells #[.int .i64 t274,.int .i64 t275,.string t276] 36 (0,0)) (by exact BK278.out) hb);replace BK289:=ζa (blk_below (g:=gb289) (o:=.cells #[.int .i64 t285,.int .i64 t286,.string t287] 36 (0,0)) (by exact BK289.out) hb);replace BK313:=ζa (blk_below (g:=gb313) (o:=.cells #[.int .i64 t309,.int .i64 t310,.string t311] 36 (0,0)) (by exact BK313.out) hb);replace HB:=ζa (δr (by exact HB.out) hb);(try clear hb);(try clear hb2);(try clear hk);(try clear hi)))
                 go_ret
                 exact ⟨by rfl,by repeat ((with_reducible exact HB.out))⟩
           ·
            rw [if_neg c85] at H
            have c85b0:=beq_eq_false_iff_ne.mpr c85
            have c85b1:=bne_iff_ne.mpr c85
            obtain rfl:=Option.some.inj H
            obtain ⟨Ao131,co131,eo131⟩:=Kd.R_slice HO_12.out
            subst eo131
            go_wp2_with (first|((with_reducible refine δv (f:=24) rfl ?_);refine gl 92 Tryz.func24 #[.slice Ao131 t282.length co131,.int .i64 1] ?_;(with_reducible refine (laws_markPairS.calls kj50 (fun k_=>some k_=(.slice Ao131 t282.length co131:Value).ownBlock) (.slice Ao131 t282.length co131) t282 1 t300 t301 w _ ?side1 ?side2 A79.out).mono ?_);(case side1=>repeat ((with_reducible exact HB.out)));(case side2=>exact Kd.R_tight rfl HO_12.out);rintro e w132 ⟨rfl,hy0,hb,hkp⟩;refine ⟨_,rfl,?_⟩;replace HO_8:=ζa (Kd.R_mono (ok':=fun k_=>some k_≠(.slice Ao131 t282.length co131:Value).ownBlock) (Kd.R_keptB (HO_8.out) hkp (fun k_ hk_ hs_=>(hk_) hs_)) (fun k_ hk_=>hk_.1));replace BK278:=ζa (blk_kept (by exact BK278.out) hkp (fun hs_=>(fun e_=>(ζf HO_12.out BK278.out (by decide)) e_) hs_));replace BK289:=ζa (blk_kept (by exact BK289.out) hkp (fun hs_=>(fun e_=>(ζf HO_12.out BK289.out (by decide)) e_) hs_));replace HO_12:=ζa (Kd.R_reok rfl hy0 (fun k_ e_=>HO_12.out.1 k_ e_));replace HB:=ζa (hb);(try clear hb);(try clear hkp);(try clear hy0))|((with_reducible refine δv (f:=25) rfl ?_);refine gl 95 Tryz.func25 #[.slice Ao131 t301.length co131,.int .i64 1] (hargs:=(by (try simp only [δd,δe,δf]);first|(rw [show t301.length=t282.length from (ζg HO_12.out).1.symm] <;> rfl))) ?_;(with_reducible refine (laws_heldPairS.calls kj50 _ _ t301 1 t302 _ ?side1 ?side2 A80.out).mono ?_);(case side1=>repeat (exact (ζg HO_12.out).2.2));(case side2=>rw [show t301.length=t282.length from (ζg HO_12.out).1.symm];exact (ζg HO_12.out).2.1);rintro e w133 ⟨rfl,hb⟩;refine ⟨_,rfl,?_⟩;replace HO_8:=ζa (ζh (by exact HO_8.out) hb);replace HO_12:=ζa (ζh (by exact HO_12.out) hb);replace BK278:=ζa (blk_below (g:=gb278) (o:=.cells #[.int .i64 t274,.int .i64 t275,.string t276] 36 (0,0)) (by exact BK278.out) hb);replace BK289:=ζa (blk_below (g:=gb289) (o:=.cells #[.int .i64 t285,.int .i64 t286,.string t287] 36 (0,0)) (by exact BK289.out) hb);replace HB:=ζa (δr (by exact HB.out) hb);(try clear hb);(try clear hb2);(try clear hk);(try clear hi)))
            go_ret
            exact ⟨by rfl,by repeat ((with_reducible exact HB.out))⟩
      ·
       replace c49:=Bool.eq_false_iff.mpr c49
       subst c49
       rw [ifF] at H
       obtain rfl:=Option.some.inj H
       go_wp2_with (first|((with_reducible refine δv (f:=21) rfl ?_);refine gl 65 Tryz.func21 #[.slice A0 l0.length c0] ?_;(with_reducible refine (laws_toPairS.calls kj11 _ _ l0 t292 _ ?side1 ?side2 A47.out).mono ?_);(case side1=>repeat (exact (Kd.C_below HR0.out HB.out)));(case side2=>exact HC0.out);rintro e w134 ⟨v293,rfl,ho0,hb⟩;refine ⟨_,rfl,?_⟩;have HO294:=ζa (Kd.R_lower (Kd.R_new' (Kd.R_new' (Kd.R_new' ho0 (Kd.R_lt (by exact HO_8.out))) (Kd.R_lt (by exact HO_11.out))) (Kd.R_lt (by exact HO_12.out))) (δs (by exact HB.out)));replace HO_8:=ζa (Kd.R_elder' (by exact HO_8.out) (Kd.R_base ho0) hb);replace HO_11:=ζa (Kd.R_elder' (by exact HO_11.out) (Kd.R_base ho0) hb);replace HO_12:=ζa (Kd.R_elder' (by exact HO_12.out) (Kd.R_base ho0) hb);replace BK278:=ζa (blk_below (g:=gb278) (o:=.cells #[.int .i64 t274,.int .i64 t275,.string t276] 36 (0,0)) (by exact BK278.out) hb);replace BK289:=ζa (blk_below (g:=gb289) (o:=.cells #[.int .i64 t285,.int .i64 t286,.string t287] 36 (0,0)) (by exact BK289.out) hb);replace HB:=ζa (δr (by exact HB.out) hb);(try clear hb);(try clear hb2);(try clear hk);(try clear hi);(try clear ho0);obtain ⟨Ao135,co135,eo135⟩:=Kd.R_slice HO294.out;subst eo135)|((with_reducible refine δv (f:=22) rfl ?_);refine gl 66 Tryz.func22 #[.slice Ao20 t279.length co20,.slice Ao135 t292.length co135] ?_;(with_reducible refine (laws_eqPairS.calls kj11 _ _ t279 _ _ t292 φ _ ?side1 ?side2 ?side3 ?side4 A48.out).mono ?_);(case side1=>repeat (exact (ζg HO_11.out).2.2));(case side2=>exact (ζg HO_11.out).2.1);(case side3=>repeat (exact (ζg HO294.out).2.2));(case side4=>exact (ζg HO294.out).2.1);rintro e w136 ⟨rfl,hb⟩;refine ⟨_,rfl,?_⟩;replace HO_8:=ζa (ζh (by exact HO_8.out) hb);replace HO_11:=ζa (ζh (by exact HO_11.out) hb);replace HO_12:=ζa (ζh (by exact HO_12.out) hb);replace HO294:=ζa (ζh (by exact HO294.out) hb);replace BK278:=ζa (blk_below (g:=gb278) (o:=.cells #[.int .i64 t274,.int .i64 t275,.string t276] 36 (0,0)) (by exact BK278.out) hb);replace BK289:=ζa (blk_below (g:=gb289) (o:=.cells #[.int .i64 t285,.int .i64 t286,.string t287] 36 (0,0)) (by exact BK289.out) hb);replace HB:=ζa (δr (by exact HB.out) hb);(try clear hb);(try clear hb2);(try clear hk);(try clear hi)))
       go_ret
       exact ⟨by rfl,by repeat ((with_reducible exact HB.out))⟩

end Go.Proofs.YtggemblkhckbpaaGreatDoor.Q

/- Plain arithmetic: products of two amounts in halves of nine digits; long division digit by digit. No program. -/
namespace Go.Proofs.YtggemblkhckbpaaGreatDoor.U
open Go Go.RowKit
set_option linter.unusedVariables false
set_option linter.unusedSimpArgs false

theorem wid {n : Int} (h0 : -9223372036854775808 ≤ n) (h1 : n ≤ 9223372036854775807) : wrap64 n = n := IntWalk.wrap64_in n ⟨h0, h1⟩
theorem tdiv_nn {a b : Int} (h : 0 ≤ a) : Int.tdiv a b = a / b := Int.tdiv_eq_ediv_of_nonneg h
theorem tmod_nn {a b : Int} (h : 0 ≤ a) : Int.tmod a b = a % b := Int.tmod_eq_emod_of_nonneg h
theorem u64w (n : Int) : IntKind.u64.wrap n = n % 18446744073709551616 := by simp [IntKind.wrap, IntKind.bits, IntKind.signed]
theorem u64id {n : Int} (h0 : 0 ≤ n) (h1 : n < 18446744073709551616) : IntKind.u64.wrap n = n := by rw [u64w]; exact Int.emod_eq_of_lt h0 h1

theorem mul_bd {x y X Y : Int} (hx : 0 ≤ x) (hx' : x ≤ X) (hy : 0 ≤ y) (hy' : y ≤ Y) : 0 ≤ x * y ∧ x * y ≤ X * Y :=
  ⟨Int.mul_nonneg hx hy, Int.mul_le_mul hx' hy' hy (Int.le_trans hx hx')⟩

theorem wide_eq (a b : Int) (ha : 0 ≤ a) (ha' : a ≤ 1000000000000000000) (hb : 0 ≤ b) (hb' : b ≤ 1000000000000000000) :
    a * b = (a / 1000000000) * (b / 1000000000) * 1000000000000000000 + ((a / 1000000000) * (b % 1000000000) + (a % 1000000000) * (b / 1000000000)) * 1000000000 + (a % 1000000000) * (b % 1000000000) := by
  have e1 : a = (a / 1000000000) * 1000000000 + a % 1000000000 := by omega
  have e2 : b = (b / 1000000000) * 1000000000 + b % 1000000000 := by omega
  generalize a / 1000000000 = x at *
  generalize a % 1000000000 = y at *
  generalize b / 1000000000 = z at *
  generalize b % 1000000000 = u at *
  subst e1 e2
  grind

/-- One digit more of a long division. -/
theorem digit_step (c T out rest low : Int) (hc : 1 ≤ c) (hT : 1 ≤ T) (hr : 0 ≤ rest) (hl : 0 ≤ low) :
    (out * 10 + (10 * rest + low / T % 10) / c) * T + ((10 * rest + low / T % 10) % c * T + low % T) / c = out * (10 * T) + (rest * (10 * T) + low % (10 * T)) / c := by
  have e1 : low % (10 * T) = low / T % 10 * T + low % T := by
    have h1 : low / (10 * T) = low / T / 10 := by rw [Int.mul_comm, Int.ediv_ediv_of_nonneg (by omega)]
    have h2 := Int.mul_ediv_add_emod low (10 * T)
    have h3 := Int.mul_ediv_add_emod low T
    have h4 := Int.mul_ediv_add_emod (low / T) 10
    rw [h1] at h2
    generalize low / T / 10 = p at *
    generalize low / T % 10 = d at *
    generalize low / T = m at *
    subst h4
    generalize low % T = e at *
    generalize low % (10 * T) = f at *
    grind
  have h5 := Int.mul_ediv_add_emod (10 * rest + low / T % 10) c
  generalize low / T % 10 = d at *
  generalize (10 * rest + d) / c = q at *
  generalize (10 * rest + d) % c = s at *
  have e2 : rest * (10 * T) + low % (10 * T) = c * (q * T) + (s * T + low % T) := by
    rw [e1]
    generalize low % T = e at *
    grind
  rw [e2, Int.mul_add_ediv_left _ _ (by omega)]
  grind

/-- Knuth's step: a digit that is guessed too great is told by the lower half. -/
theorem knuth_lower (Y yn1 yn0 u v q : Int) (hY : Y = yn1 * 4294967296 + yn0) (h0 : 0 ≤ yn0) (hv : 0 ≤ v) (hv' : v < 4294967296) (hq : 0 ≤ q) (h : q * Y ≤ u * 4294967296 + v) : q * yn1 ≤ u := by
  have h1 : q * Y = q * yn1 * 4294967296 + q * yn0 := by subst hY; grind
  have h2 : 0 ≤ q * yn0 := Int.mul_nonneg hq h0
  omega

end Go.Proofs.YtggemblkhckbpaaGreatDoor.U

/- A number's digits: the reference's are the library's. -/
namespace Go.Proofs.YtggemblkhckbpaaGreatDoor.U
open Go Go.RowKit Go.Proofs.YtggemblkhckbpaaGreatDoor.Q Go.Proofs.YtggemblkhckbpaaGreatDoorW.PrintWords Go.Proofs.YtggemblkhckbpaaGreatDoorW.PrintLast Go.Proofs.YtggemblkhckbpaaGreatDoorW.PrintMore
set_option linter.unusedVariables false
set_option linter.unusedSimpArgs false

def digV (u : Nat) : ByteArray := ⟨(Lib.decDigits u).toArray⟩
theorem one_digit (u : Nat) (h : u < 10) : strOfNums [(wrap64 (48 + (u : Int))) % 256] = ⟨#[UInt8.ofNat (48 + u)]⟩ := by
  rw [wid (by omega) (by omega)]
  have : ((48 + (u : Int)) % 256) = ((48 + u : Nat) : Int) := by omega
  rw [this]
  rfl
theorem digits_ev (u : Nat) (hu : u ≤ 1000000000000000000) : Ev (fun k => spec_l00Digits.f k (u : Int)) (digV u) := by
  induction u using Nat.strongRecOn with
  | _ u ih =>
    by_cases h : u < 10
    · refine Ev.step (fun k => ?_) (Ev.now _)
      rw [spec_l00Digits.f, if_neg (by omega), if_neg (by omega), if_pos (by omega), one_digit u h, digV, Lib.decDigits_one h]
    · have e1 : wrap64 (Int.tdiv (u : Int) 10) = ((u / 10 : Nat) : Int) := by rw [tdiv_nn (by omega), wid (by omega) (by omega)]; omega
      have e2 : Int.tmod (u : Int) 10 = ((u % 10 : Nat) : Int) := by rw [tmod_nn (by omega)]; omega
      have hs : (digV (u / 10)).size ≤ u := by
        show (Lib.decDigits (u / 10)).toArray.size ≤ u
        rw [List.size_toArray, Lib.decDigits_length]
        have hn : ∀ v : Nat, 1 ≤ v → Lib.nDigits v ≤ v := by
          intro v
          induction v using Nat.strongRecOn with
          | _ v ihv =>
            intro h1
            rw [Lib.nDigits]
            split
            · exact h1
            · have := ihv (v / 10) (by omega) (by omega); omega
        have := hn (u / 10) (by omega)
        omega
      refine Ev.step (f := fun k => (spec_l00Digits.f k ((u / 10 : Nat) : Int)).bind fun t => if t.size + 1 ≤ 9223372036854775807 then some (t ++ (⟨#[UInt8.ofNat (48 + u % 10)]⟩ : ByteArray)) else none) (fun k => ?_) ?_
      · rw [spec_l00Digits.f, if_neg (by omega), if_neg (by omega), if_neg (by omega), e1, e2]
        simp only [Option.bind_some, one_digit (u % 10) (by omega)]
        rfl
      · refine Ev.bind (ih (u / 10) (by omega) (by omega)) ?_
        simp only [if_pos (show (digV (u / 10)).size + 1 ≤ 9223372036854775807 by omega)]
        have : digV (u / 10) ++ (⟨#[UInt8.ofNat (48 + u % 10)]⟩ : ByteArray) = digV u := by
          unfold digV
          conv => rhs; rw [Lib.decDigits, dif_neg h]
          apply ByteArray.ext
          simp
        rw [this]
        exact Ev.now _
theorem itoa_eq (n : Int) (h : 0 ≤ n) : (⟨(Lib.itoa n).toArray⟩ : ByteArray) = digV n.toNat := by
  unfold Lib.itoa digV
  rw [if_neg (by omega)]
end Go.Proofs.YtggemblkhckbpaaGreatDoor.U

/- Amounts: the number that a text tells, as the program and as the reference read it. -/
namespace Go.Proofs.YtggemblkhckbpaaGreatDoor.U
open Go Go.RowKit Go.Proofs.YtggemblkhckbpaaGreatDoor.Q Go.Proofs.YtggemblkhckbpaaGreatDoorW.PrintWords Go.Proofs.YtggemblkhckbpaaGreatDoorW.PrintLast Go.Proofs.YtggemblkhckbpaaGreatDoorW.PrintMore
set_option linter.unusedVariables false
set_option linter.unusedSimpArgs false

theorem nd_small (j v : Nat) (h : v < 10 ^ (j + 1)) : Lib.nDigits v ≤ j + 1 := by
  induction j generalizing v with
  | zero => rw [Lib.nDigits, dif_pos (by simpa using h)]; omega
  | succ j ih =>
    rw [Lib.nDigits]
    split
    · omega
    · have := ih (v / 10) (by rw [Nat.pow_succ] at h; omega); omega
theorem digV_size (v : Nat) (h : v ≤ 1000000000000000000) : (digV v).size ≤ 19 := by
  show (Lib.decDigits v).toArray.size ≤ 19
  rw [List.size_toArray, Lib.decDigits_length]
  exact nd_small 18 v (by omega)
theorem dec_big {v : Nat} (h : ¬ v < 10) : Lib.decDigits v = Lib.decDigits (v / 10) ++ [UInt8.ofNat (48 + v % 10)] := by
  conv => lhs; rw [Lib.decDigits, dif_neg h]
theorem chr_nat (d : Nat) (h : d < 10) : (UInt8.ofNat (48 + d)).toNat = 48 + d := by
  rw [UInt8.toNat_ofNat']; omega

/-- Digits, one behind the other, onto what those ahead tell. -/
def telD (x : Nat) : List UInt8 → Option Nat
  | [] => some x
  | c :: r => if c.toNat < 48 ∨ 57 < c.toNat then none else if (1000000000000000000 - (c.toNat - 48)) / 10 < x then none else telD (x * 10 + (c.toNat - 48)) r
theorem telD_append (l r : List UInt8) : ∀ x, telD x (l ++ r) = (telD x l).bind fun y => telD y r := by
  induction l with
  | nil => intro x; rfl
  | cons c l ih =>
    intro x
    simp only [List.cons_append, telD]
    split
    · rfl
    · split
      · rfl
      · exact ih _
theorem telD_one (x d : Nat) (hd : d < 10) (h : x * 10 + d ≤ 1000000000000000000) : telD x [UInt8.ofNat (48 + d)] = some (x * 10 + d) := by
  simp only [telD, chr_nat d hd]
  rw [if_neg (by omega), if_neg (by omega)]
  congr 1; omega
theorem telD_dec (v : Nat) (h : v ≤ 1000000000000000000) : telD 0 (Lib.decDigits v) = some v := by
  induction v using Nat.strongRecOn with
  | _ v ih =>
    by_cases hv : v < 10
    · rw [Lib.decDigits_one hv, telD_one 0 v hv (by omega)]; congr 1; omega
    · rw [dec_big hv, telD_append, ih (v / 10) (by omega) (by omega)]
      show telD (v / 10) _ = _
      rw [telD_one _ _ (by omega) (by omega)]; congr 1; omega
/-- No needless naught ahead. -/
def plainB (l : List UInt8) : Bool := decide (l ≠ []) && (decide (l.length = 1) || decide (l.head? ≠ some 48))
theorem snoc_cases {α : Type} (l : List α) : l = [] ∨ ∃ (i : List α) (c : α), l = i ++ [c] := by
  rcases List.eq_nil_or_concat l with h | ⟨i, c, h⟩
  · exact .inl h
  · exact .inr ⟨i, c, by rw [h, List.concat_eq_append]⟩
theorem telD_snoc {l : List UInt8} {c : UInt8} {n : Nat} (h : telD 0 (l ++ [c]) = some n) :
    ∃ m, telD 0 l = some m ∧ 48 ≤ c.toNat ∧ c.toNat ≤ 57 ∧ n = m * 10 + (c.toNat - 48) ∧ n ≤ 1000000000000000000 := by
  rw [telD_append] at h
  obtain ⟨m, h1, h2⟩ := Option.bind_eq_some_iff.mp h
  refine ⟨m, h1, ?_⟩
  simp only [telD] at h2
  split at h2
  · cases h2
  · split at h2
    · cases h2
    · injection h2 with h2
      omega
theorem dec_of_telD (k : Nat) : ∀ (l : List UInt8) (n : Nat), l.length = k → plainB l = true → telD 0 l = some n → l = Lib.decDigits n ∧ n ≤ 1000000000000000000 := by
  induction k with
  | zero =>
    intro l n hl hp h
    have : l = [] := List.length_eq_zero_iff.1 hl
    subst this
    simp [plainB] at hp
  | succ k ih =>
    intro l n hl hp h
    rcases snoc_cases l with rfl | ⟨i, c, rfl⟩
    · simp at hl
    obtain ⟨m, h1, h2, h3, h4, h5⟩ := telD_snoc h
    refine ⟨?_, h5⟩
    by_cases hi : i = []
    · subst hi
      simp only [telD, Option.some.injEq] at h1
      subst h1
      rw [Lib.decDigits_one (by omega), h4]
      simp only [List.nil_append, List.cons.injEq, and_true]
      apply UInt8.toNat_inj.1
      rw [chr_nat _ (by omega)]; omega
    · have hne : i.head? ≠ some 48 := by
        simp only [plainB, Bool.and_eq_true, Bool.or_eq_true, decide_eq_true_iff] at hp
        rcases hp.2 with hp | hp
        · rw [List.length_append, List.length_singleton] at hp
          exact absurd (List.length_eq_zero_iff.1 (by omega)) hi
        · cases i with
          | nil => exact absurd rfl hi
          | cons a i => simpa using hp
      obtain ⟨e, _⟩ := ih i m (by rw [List.length_append, List.length_singleton] at hl; omega) (by simp only [plainB, Bool.and_eq_true, Bool.or_eq_true, decide_eq_true_iff]; exact ⟨hi, .inr hne⟩) h1
      have hm : m ≠ 0 := by
        rintro rfl
        rw [e, Lib.decDigits_one (by omega)] at hne
        exact hne rfl
      rw [dec_big (v := n) (by omega)]
      have e1 : n / 10 = m := by omega
      have e2 : n % 10 = c.toNat - 48 := by omega
      rw [e1, e2, ← e]
      congr 2
      apply UInt8.toNat_inj.1
      rw [chr_nat _ (by omega)]; omega
theorem dec_head (v : Nat) : ∃ d r, d < 10 ∧ Lib.decDigits v = UInt8.ofNat (48 + d) :: r := by
  induction v using Nat.strongRecOn with
  | _ v ih =>
    by_cases hv : v < 10
    · exact ⟨v, [], hv, Lib.decDigits_one hv⟩
    · obtain ⟨d, r, hd, e⟩ := ih (v / 10) (by omega)
      exact ⟨d, r ++ [UInt8.ofNat (48 + v % 10)], hd, by rw [dec_big hv, e]; rfl⟩
theorem dec_plain (v : Nat) : plainB (Lib.decDigits v) = true := by
  have hne : Lib.decDigits v ≠ [] := fun e => by
    have h := Lib.decDigits_length v
    rw [e] at h
    have := Lib.nDigits_pos v
    simp at h; omega
  have hd : Lib.nDigits v = 1 ∨ (Lib.decDigits v).head? ≠ some 48 := by
    induction v using Nat.strongRecOn with
    | _ v ih =>
      by_cases hv : v < 10
      · exact .inl (Lib.nDigits_small hv)
      · right
        obtain ⟨d, r, hd, e⟩ := dec_head (v / 10)
        by_cases hv2 : v / 10 < 10
        · rw [dec_big hv, Lib.decDigits_one hv2]
          simp only [List.cons_append, List.head?_cons, ne_eq, Option.some.injEq]
          intro e
          have := congrArg UInt8.toNat e
          rw [chr_nat _ hv2] at this
          have e48 : (48 : UInt8).toNat = 48 := rfl
          omega
        · rcases ih (v / 10) (by omega) (by rw [e]; simp) with h | h
          · rw [Lib.nDigits_big hv2] at h
            have := Lib.nDigits_pos (v / 10 / 10)
            omega
          · rw [e] at h
            rw [dec_big hv, e]
            exact h
  simp only [plainB, Bool.and_eq_true, Bool.or_eq_true, decide_eq_true_iff]
  refine ⟨hne, ?_⟩
  rcases hd with h | h
  · left; rw [Lib.decDigits_length, h]
  · exact .inr h
/-- The amount of a text, where it tells one. -/
def amtO (a : ByteArray) : Option Nat := if plainB a.data.toList = true then telD 0 a.data.toList else none
theorem amtO_iff (a : ByteArray) (n : Nat) : amtO a = some n ↔ a = digV n ∧ n ≤ 1000000000000000000 := by
  unfold amtO
  constructor
  · intro h
    split at h
    · rename_i hp
      obtain ⟨e, hn⟩ := dec_of_telD _ _ n rfl hp h
      refine ⟨?_, hn⟩
      apply ByteArray.ext
      apply Array.toList_inj.mp
      rw [e]
      rfl
    · cases h
  · rintro ⟨rfl, hn⟩
    have e : (digV n).data.toList = Lib.decDigits n := rfl
    rw [e, if_pos (dec_plain n)]
    exact telD_dec n hn
def amtV (a : ByteArray) : Int := match amtO a with | some n => (n : Int) | none => -1
theorem amtV_digV (n : Nat) (h : n ≤ 1000000000000000000) : amtV (digV n) = n := by
  unfold amtV
  rw [(amtO_iff _ n).2 ⟨rfl, h⟩]
theorem amtV_eq {a : ByteArray} (h : 0 ≤ amtV a) : a = digV (amtV a).toNat ∧ amtV a ≤ 1000000000000000000 := by
  unfold amtV at *
  cases e : amtO a with
  | none => rw [e] at h; simp at h
  | some n =>
    obtain ⟨h1, h2⟩ := (amtO_iff a n).1 e
    exact ⟨by simpa using h1, by simp only; omega⟩
theorem amtV_low (a : ByteArray) : -1 ≤ amtV a := by
  unfold amtV
  split <;> omega

/-! ### the program's -/
theorem parse_append (l r : List UInt8) : ∀ x, Lib.parseUint10 x (l ++ r) = match Lib.parseUint10 x l with | .ok u => Lib.parseUint10 u r | .syntax => .syntax | .range => .range := by
  induction l with
  | nil => intro x; rfl
  | cons c l ih =>
    intro x
    simp only [List.cons_append, Lib.parseUint10]
    split
    · split
      · rfl
      · split
        · rfl
        · exact ih _
    · rfl
theorem parse_one (x d : Nat) (hd : d < 10) (h : x * 10 + d < 9223372036854775808) : Lib.parseUint10 x [UInt8.ofNat (48 + d)] = .ok (x * 10 + d) := by
  simp only [Lib.parseUint10, chr_nat d hd]
  rw [if_pos (by omega), if_neg (by omega), if_neg (by omega)]
  congr 1; omega
theorem parse_dec (v : Nat) (h : v < 9223372036854775808) : Lib.parseUint10 0 (Lib.decDigits v) = .ok v := by
  induction v using Nat.strongRecOn with
  | _ v ih =>
    by_cases hv : v < 10
    · rw [Lib.decDigits_one hv, parse_one 0 v hv (by omega)]; congr 1; omega
    · rw [dec_big hv, parse_append, ih (v / 10) (by omega) (by omega)]
      show Lib.parseUint10 (v / 10) _ = _
      rw [parse_one _ _ (by omega) (by omega)]; congr 1; omega
theorem atoi_dec (v : Nat) (h : v < 9223372036854775808) : Lib.atoiAll (Lib.decDigits v) = .ok (v : Int) := by
  obtain ⟨d, r, hd, e⟩ := dec_head v
  have h1 := parse_dec v h
  rw [e] at h1 ⊢
  rw [Lib.atoiAll_plain _ _ (by rw [chr_nat d hd]; omega) (by rw [chr_nat d hd]; omega)]
  unfold Lib.parseMag
  rw [if_neg (by simp), h1]
  simp only [Lib.signless]
  rw [if_neg (by omega)]
theorem toList_eq_iff (a b : ByteArray) : a.toList = b.toList ↔ a = b := by
  constructor
  · intro h
    rw [ByteArray.toList_eq, ByteArray.toList_eq] at h
    exact ByteArray.ext (Array.toList_inj.mp h)
  · rintro rfl; rfl
theorem readAmount_eq (a : ByteArray) (hs : a.size ≤ 281474976710656) : impl_readAmount.f a = some (if 0 ≤ amtV a then (amtV a, true) else (0, false)) := by
  unfold impl_readAmount.f
  rw [if_pos hs]
  by_cases h : 0 ≤ amtV a
  · obtain ⟨e, hn⟩ := amtV_eq h
    rw [if_pos h]
    generalize amtV a = n at *
    have e1 : Lib.atoiAll a.data.toList = .ok n := by
      have := atoi_dec n.toNat (by omega)
      rw [e]
      rw [show ((n.toNat : Nat) : Int) = n by omega] at this
      exact this
    rw [e1]
    simp only [if_pos h, if_pos hn]
    rw [itoa_eq n h, ← e, if_pos rfl]
  · rw [if_neg h]
    cases hh : Lib.atoiAll a.data.toList with
    | range => rfl
    | ok v =>
      simp only
      by_cases h0 : 0 ≤ v
      · rw [if_pos h0]
        by_cases h1 : v ≤ 1000000000000000000
        · rw [if_pos h1, itoa_eq v h0]
          by_cases h2 : (digV v.toNat).toList = a.toList
          · exfalso
            have e := (toList_eq_iff _ _).1 h2
            apply h
            rw [← e, amtV_digV _ (by omega)]
            omega
          · rw [if_neg h2]
        · rw [if_neg h1]
      · rw [if_neg h0]
    | _ => rfl

/-! ### the reference's -/
theorem bt_get (a : ByteArray) (i : Nat) (h : i < a.size) : bt a (i : Int) = ((a.data.toList[i]'(by rw [Array.length_toList]; exact h)).toNat : Int) := by
  unfold bt
  rw [dif_pos (by simpa using h)]
  simp
  rfl
def telI (x : Nat) (l : List UInt8) : Int := match telD x l with | some n => (n : Int) | none => -1
theorem l02Of_go (a : ByteArray) (hs : a.size ≤ 19) : ∀ (d i x : Nat), i + d = a.size → x ≤ 1000000000000000000 → Ev (fun k => spec_l02Of.l0 k a (x : Int) (i : Int)) (telI x (a.data.toList.drop i)) := by
  intro d
  induction d with
  | zero =>
    intro i x hi hx
    refine Ev.step (fun k => ?_) (Ev.now _)
    rw [spec_l02Of.l0, if_neg (by omega), List.drop_of_length_le (by rw [Array.length_toList]; show a.size ≤ i; omega)]
    rfl
  | succ d ih =>
    intro i x hi hx
    have hlt : i < a.size := by omega
    have hb := bt_get a i hlt
    have hl : i < a.data.toList.length := by rw [Array.length_toList]; exact hlt
    rw [List.drop_eq_getElem_cons hl]
    generalize a.data.toList[i] = c at *
    have hc := UInt8.toNat_lt c
    unfold telI
    simp only [telD]
    by_cases h1 : c.toNat < 48 ∨ 57 < c.toNat
    · rw [if_pos h1]
      refine Ev.step (f := fun k => spec_l02Of.j2 k a (x : Int) (i : Int) true) (fun k => ?_) (Ev.step (fun k => by rw [spec_l02Of.j2, if_pos rfl]) (Ev.now _))
      rw [spec_l02Of.l0, if_pos (by omega), if_pos (by omega), hb]
      by_cases h2 : c.toNat < 48
      · rw [if_pos (by omega)]
      · rw [if_neg (by omega), decide_eq_true (by omega)]
    · rw [if_neg h1]
      refine Ev.step (f := fun k => spec_l02Of.j2 k a (x : Int) (i : Int) false) (fun k => ?_) ?_
      · rw [spec_l02Of.l0, if_pos (by omega), if_pos (by omega), hb, if_neg (by omega), decide_eq_false (by omega)]
      · have e1 : ((c.toNat : Int) - 48) % 256 = ((c.toNat - 48 : Nat) : Int) := by omega
        by_cases h3 : (1000000000000000000 - (c.toNat - 48)) / 10 < x
        · rw [if_pos h3]
          refine Ev.step (fun k => ?_) (Ev.now _)
          rw [spec_l02Of.j2, if_neg (by decide), if_pos (by omega), if_pos (by omega), hb, e1, if_pos (by omega)]
        · rw [if_neg h3]
          have := ih (i + 1) (x * 10 + (c.toNat - 48)) (by omega) (by omega)
          refine Ev.step (fun k => ?_) this
          rw [spec_l02Of.j2, if_neg (by decide), if_pos (by omega), if_pos (by omega), hb, e1, if_neg (by omega), wid (n := (x : Int) * 10) (by omega) (by omega), wid (n := (x : Int) * 10 + _) (by omega) (by omega), wid (n := (i : Int) + 1) (by omega) (by omega)]
          rfl
theorem l02Of_ev (a : ByteArray) (hs : a.size ≤ 9223372036854775807) : Ev (fun k => spec_l02Of.f k a) (amtV a) := by
  have hbad : amtV a = -1 → Ev (fun k => spec_l02Of.j0 k a true) (amtV a) := fun e => by
    rw [e]; exact Ev.step (fun k => by rw [spec_l02Of.j0, if_pos rfl]) (Ev.now _)
  have hln : a.data.toList.length = a.size := by rw [Array.length_toList]; rfl
  have hbig : 19 < a.size → amtV a = -1 := fun h => by
    by_cases h0 : 0 ≤ amtV a
    · obtain ⟨e, hn⟩ := amtV_eq h0
      have := digV_size (amtV a).toNat (by omega)
      rw [← e] at this
      omega
    · have := amtV_low a; omega
  have hgo : Ev (fun k => spec_l02Of.l0 k a 0 0) (telI 0 a.data.toList) ∨ 19 < a.size := by
    by_cases h : 19 < a.size
    · exact .inr h
    · exact .inl (by have := l02Of_go a (by omega) a.size 0 0 (by omega) (by omega); simpa using this)
  unfold spec_l02Of.f spec_l01In.f
  by_cases h1 : (a.size : Int) ≥ 1
  · simp only [if_pos h1, Option.bind_some]
    by_cases h2 : (a.size : Int) ≤ 19
    · simp only [decide_eq_true h2, if_true]
      have hg : Ev (fun k => spec_l02Of.l0 k a 0 0) (telI 0 a.data.toList) := by
        rcases hgo with h | h
        · exact h
        · omega
      by_cases h3 : (a.size : Int) > 1
      · simp only [if_pos h3, if_pos (show (0 : Int) < (a.size : Int) by omega)]
        have hb := bt_get a 0 (by omega)
        have hh : a.data.toList.head? = some (a.data.toList[0]'(by omega)) := by rw [List.head?_eq_getElem?, List.getElem?_eq_getElem]
        by_cases h4 : a.data.toList[0]'(by omega) = 48
        · have e : (bt a 0 == 48) = true := by rw [beq_iff_eq]; have := hb; rw [h4] at this; exact this
          simp only [e]
          refine hbad ?_
          unfold amtV amtO
          rw [if_neg]
          simp only [plainB, Bool.and_eq_true, Bool.or_eq_true, decide_eq_true_iff, hh, h4]
          rintro ⟨_, h | h⟩
          · omega
          · exact h rfl
        · have e : (bt a 0 == 48) = false := by
            rw [beq_eq_false_iff_ne]
            intro h5
            apply h4
            apply UInt8.toNat_inj.1
            have e48 : (48 : UInt8).toNat = 48 := rfl
            have := hb.symm.trans h5
            omega
          simp only [e]
          refine Ev.step (fun k => by rw [spec_l02Of.j0, if_neg (by decide)]) ?_
          have e2 : amtV a = telI 0 a.data.toList := by
            unfold amtV amtO telI
            rw [if_pos]
            simp only [plainB, Bool.and_eq_true, Bool.or_eq_true, decide_eq_true_iff, hh]
            refine ⟨fun e0 => ?_, .inr (fun e0 => h4 (Option.some.inj e0))⟩
            rw [e0] at hln; simp at hln; omega
          rw [e2]
          exact hg
      · simp only [if_neg h3]
        refine Ev.step (fun k => by rw [spec_l02Of.j0, if_neg (by decide)]) ?_
        have e2 : amtV a = telI 0 a.data.toList := by
          unfold amtV amtO telI
          rw [if_pos]
          simp only [plainB, Bool.and_eq_true, Bool.or_eq_true, decide_eq_true_iff]
          refine ⟨fun e0 => ?_, .inl (by omega)⟩
          rw [e0] at hln; simp at hln; omega
        rw [e2]
        exact hg
    · simp only [decide_eq_false h2, Bool.false_eq_true, if_false]
      exact hbad (hbig (by omega))
  · simp only [if_neg h1, Option.bind_some, Bool.false_eq_true, if_false]
    refine hbad ?_
    unfold amtV amtO
    have : a.data.toList = [] := List.length_eq_zero_iff.1 (by omega)
    rw [this]
    rfl
end Go.Proofs.YtggemblkhckbpaaGreatDoor.U

/- A store is a row of pairs: its size, its copy, whether it stands, and what is found in it. -/
namespace Go.Proofs.YtggemblkhckbpaaGreatDoor.U
open Go Go.RowKit Go.Proofs.YtggemblkhckbpaaGreatDoor.Q Go.Proofs.YtggemblkhckbpaaGreatDoorW.PrintWords Go.Proofs.YtggemblkhckbpaaGreatDoorW.PrintLast Go.Proofs.YtggemblkhckbpaaGreatDoorW.PrintMore
set_option linter.unusedVariables false
set_option linter.unusedSimpArgs false

abbrev LP := S71
abbrev IP := S61
def toP (x : LP) : IP := ⟨x.f0, x.f1⟩
theorem rdL (l : List LP) (i : Nat) (h : i < l.length) : rd_T71 l (i : Int) = l[i] := by simp [rd_T71, List.getD_eq_getElem?_getD, List.getElem?_eq_getElem h]
theorem rdI (l : List IP) (i : Nat) (h : i < l.length) : rd_T61 l (i : Int) = l[i] := by simp [rd_T61, List.getD_eq_getElem?_getD, List.getElem?_eq_getElem h]

theorem szPair_ok (a b : ByteArray) (n : Int) (ha : a.size ≤ 9223372036854775807) (hb : b.size ≤ 9223372036854775807) (h0 : 0 ≤ n) (h1 : n ≤ 1048576) :
    ∃ z, laws_szPair.f a b n = some z ∧ (z < 0 ∨ (0 ≤ z ∧ z ≤ n ∧ a.size ≤ 1048576 ∧ b.size ≤ 1048576)) := by
  unfold laws_szPair.f
  rw [wid (n := n - (a.size : Int)) (by omega) (by omega)]
  by_cases c1 : n - (a.size : Int) < 0
  · exact ⟨-1, by rw [if_pos c1], .inl (by decide)⟩
  rw [if_neg c1, wid (n := n - (a.size : Int) - (b.size : Int)) (by omega) (by omega)]
  by_cases c2 : n - (a.size : Int) - (b.size : Int) < 0
  · exact ⟨-1, by rw [if_pos c2], .inl (by decide)⟩
  exact ⟨_, by rw [if_neg c2], .inr (by omega)⟩
/-- All pairs are short. -/
def Short (l : List LP) : Prop := l.length ≤ 1048576 ∧ ∀ x ∈ l, x.f0.size ≤ 1048576 ∧ x.f1.size ≤ 1048576
theorem szPairS_go (l : List LP) (hl : l.length ≤ 1048576) (hx : ∀ x ∈ l, x.f0.size ≤ 9223372036854775807 ∧ x.f1.size ≤ 9223372036854775807) : ∀ (d i : Nat) (n : Int), i + d = l.length → 0 ≤ n → n ≤ 1048576 →
    ∃ z, Ev (fun k => laws_szPairS.l0 k l n (i : Int)) z ∧ (z < 0 ∨ (0 ≤ z ∧ z ≤ n ∧ ∀ x ∈ l.drop i, x.f0.size ≤ 1048576 ∧ x.f1.size ≤ 1048576)) := by
  intro d
  induction d with
  | zero =>
    intro i n hi h0 h1
    refine ⟨n, Ev.step (fun k => ?_) (Ev.now _), .inr ⟨h0, Int.le_refl _, ?_⟩⟩
    · rw [laws_szPairS.l0, if_neg (by omega)]
    · rw [List.drop_of_length_le (by omega)]; simp
  | succ d ih =>
    intro i n hi h0 h1
    have hlt : i < l.length := by omega
    obtain ⟨z1, e1, hz1⟩ := szPair_ok l[i].f0 l[i].f1 n (hx _ (List.getElem_mem hlt)).1 (hx _ (List.getElem_mem hlt)).2 h0 h1
    have hstep : ∀ k, laws_szPairS.l0 (k + 1) l n (i : Int) = if z1 < 0 then some (-1) else laws_szPairS.l0 k l z1 ((i + 1 : Nat) : Int) := by
      intro k
      rw [laws_szPairS.l0, if_pos (by omega), if_pos (by omega), rdL l i hlt, e1, wid (n := (i : Int) + 1) (by omega) (by omega)]
      rfl
    by_cases hn : z1 < 0
    · exact ⟨-1, Ev.step hstep (by simp only [if_pos hn]; exact Ev.now _), .inl (by decide)⟩
    rcases hz1 with hz1 | ⟨hz0, hzn, ha, hb⟩
    · exact absurd hz1 hn
    obtain ⟨z, e2, hz⟩ := ih (i + 1) z1 (by omega) hz0 (by omega)
    refine ⟨z, Ev.step hstep (by simp only [if_neg hn]; exact e2), ?_⟩
    rcases hz with hz | ⟨hz1, hz2, hz3⟩
    · exact .inl hz
    refine .inr ⟨hz1, by omega, ?_⟩
    rw [List.drop_eq_getElem_cons hlt]
    intro x hxm
    rcases List.mem_cons.1 hxm with rfl | hxm
    · exact ⟨ha, hb⟩
    · exact hz3 x hxm
theorem szPairS_ev (l : List LP) (n : Int) (hl : l.length ≤ 9223372036854775807) (hx : ∀ x ∈ l, x.f0.size ≤ 9223372036854775807 ∧ x.f1.size ≤ 9223372036854775807) (h0 : 0 ≤ n) (h1 : n ≤ 1048576) :
    ∃ z, Ev (fun k => laws_szPairS.f k l n) z ∧ (z < 0 ∨ (0 ≤ z ∧ z ≤ n ∧ Short l)) := by
  unfold laws_szPairS.f
  rw [wid (n := n - (l.length : Int)) (by omega) (by omega)]
  by_cases c1 : n - (l.length : Int) < 0
  · exact ⟨-1, by simp only [if_pos c1]; exact Ev.now _, .inl (by decide)⟩
  simp only [if_neg c1]
  obtain ⟨z, e, hz⟩ := szPairS_go l (by omega) hx l.length 0 (n - (l.length : Int)) (by omega) (by omega) (by omega)
  refine ⟨z, e, ?_⟩
  rcases hz with hz | ⟨hz1, hz2, hz3⟩
  · exact .inl hz
  · exact .inr ⟨hz1, by omega, by omega, by simpa using hz3⟩

theorem toPairS_go (l : List LP) (hl : l.length ≤ 1048576) : ∀ (d i : Nat) (o : List IP), i + d = l.length → o.length = l.length → (∀ j, j < i → o[j]? = (l.map toP)[j]?) →
    Ev (fun k => laws_toPairS.l0 k l o (i : Int)) (l.map toP) := by
  intro d
  induction d with
  | zero =>
    intro i o hi ho hj
    have e : o = l.map toP := by
      apply List.ext_getElem?
      intro j
      by_cases h : j < i
      · exact hj j h
      · rw [List.getElem?_eq_none (by omega), List.getElem?_eq_none (by simp; omega)]
    refine Ev.step (fun k => ?_) (Ev.now _)
    rw [laws_toPairS.l0, if_neg (by omega), e]
  | succ d ih =>
    intro i o hi ho hj
    have hlt : i < l.length := by omega
    refine Ev.step (f := fun k => laws_toPairS.l0 k l (o.set i (toP l[i])) ((i + 1 : Nat) : Int)) (fun k => ?_) (ih (i + 1) (o.set i (toP l[i])) (by omega) (by simpa using ho) ?_)
    · rw [laws_toPairS.l0, if_pos (by omega), if_pos (by omega), rdL l i hlt]
      simp only [laws_toPair.f, Option.bind_some]
      rw [if_pos (by omega), wid (n := (i : Int) + 1) (by omega) (by omega)]
      rfl
    · intro j hji
      rw [List.getElem?_set]
      by_cases h : i = j
      · subst h
        rw [if_pos rfl, if_pos (by omega)]
        simp [hlt]
      · rw [if_neg h]
        exact hj j (by omega)
theorem toPairS_ev (l : List LP) (hl : l.length ≤ 1048576) : Ev (fun k => laws_toPairS.f k l) (l.map toP) := by
  unfold laws_toPairS.f
  simp only [if_pos (show (0 : Int) ≤ (l.length : Int) by omega), if_pos (show (l.length : Int).toNat ≤ 8796093022208 by omega)]
  exact toPairS_go l hl l.length 0 _ (by omega) (by simp) (by simp)
theorem eqPair_self (a b : ByteArray) : laws_eqPair.f a b a b = some true := by unfold laws_eqPair.f; rw [if_pos rfl, if_pos rfl]
theorem eqPairS_go (l : List IP) (hl : l.length ≤ 1048576) : ∀ (d i : Nat), i + d = l.length → Ev (fun k => laws_eqPairS.l0 k l l (i : Int)) true := by
  intro d
  induction d with
  | zero =>
    intro i hi
    exact Ev.step (fun k => by rw [laws_eqPairS.l0, if_neg (by omega)]) (Ev.now _)
  | succ d ih =>
    intro i hi
    refine Ev.step (f := fun k => laws_eqPairS.l0 k l l ((i + 1 : Nat) : Int)) (fun k => ?_) (ih (i + 1) (by omega))
    rw [laws_eqPairS.l0, if_pos (by omega), if_pos (by omega), if_pos (by omega), eqPair_self, wid (n := (i : Int) + 1) (by omega) (by omega)]
    rfl
theorem eqPairS_ev (l : List IP) (hl : l.length ≤ 1048576) : Ev (fun k => laws_eqPairS.f k l l) true := by
  unfold laws_eqPairS.f
  simp only [if_true]
  exact eqPairS_go l hl l.length 0 (by omega)

/-! ### whether it stands -/
def keyB (x : ByteArray) : Bool := decide (1 ≤ x.size ∧ x.size ≤ 60)
def valueB (x : ByteArray) : Bool := decide (x.size ≤ 1000)
def lessB (l : List IP) (i : Nat) : Bool := decide (i = 0) || Op.bytesLess ((rd_T61 l ((i : Int) - 1)).f0).toList ((rd_T61 l (i : Int)).f0).toList
def pairB (l : List IP) (i : Nat) : Bool := keyB (rd_T61 l (i : Int)).f0 && (valueB (rd_T61 l (i : Int)).f1 && lessB l i)
def fromB (l : List IP) : Nat → Nat → Bool
  | 0, _ => true
  | d + 1, i => pairB l i && fromB l d (i + 1)
/-- The store stands: keys and values are in their bounds, keys rise, and there are at most 400. -/
def storeB (l : List IP) : Bool := fromB l l.length 0 && decide (l.length ≤ 400)
theorem implKey_eq (x : ByteArray) : impl_isKey.f x = some (keyB x) := by
  unfold impl_isKey.f impl_within.f keyB
  by_cases h : (x.size : Int) ≥ 1
  · simp only [if_pos h, Option.bind_some]; congr 1; rw [decide_eq_decide]; omega
  · simp only [if_neg h, Option.bind_some]; congr 1; rw [eq_comm, decide_eq_false_iff_not]; omega
theorem specKey_eq (x : ByteArray) : spec_l03Key.f x = some (keyB x) := by
  unfold spec_l03Key.f spec_l01In.f keyB
  by_cases h : (x.size : Int) ≥ 1
  · simp only [if_pos h, Option.bind_some]; congr 1; rw [decide_eq_decide]; omega
  · simp only [if_neg h, Option.bind_some]; congr 1; rw [eq_comm, decide_eq_false_iff_not]; omega
theorem implValue_eq (x : ByteArray) : impl_isValue.f x = some (valueB x) := by
  unfold impl_isValue.f valueB; congr 1; rw [decide_eq_decide]; omega
theorem specPair_eq (x y : ByteArray) : spec_l03Pair.f x y = some (keyB x && valueB y) := by
  unfold spec_l03Pair.f valueB
  rw [specKey_eq]
  simp only [Option.bind_some]
  cases keyB x with
  | false => rfl
  | true => simp only [if_true, Bool.true_and]; congr 1; rw [decide_eq_decide]; omega
theorem specStore_go (l : List IP) (hl : l.length ≤ 1048576) : ∀ (d i : Nat), i + d = l.length → Ev (fun k => spec_StoreOK.l0 k l (i : Int)) (fromB l d i) := by
  intro d
  induction d with
  | zero =>
    intro i hi
    exact Ev.step (fun k => by rw [spec_StoreOK.l0, if_neg (by omega)]; rfl) (Ev.now _)
  | succ d ih =>
    intro i hi
    have hstep : ∀ k, spec_StoreOK.l0 (k + 1) l (i : Int) = if pairB l i = true then spec_StoreOK.l0 k l ((i + 1 : Nat) : Int) else some false := by
      intro k
      rw [spec_StoreOK.l0, if_pos (by omega), if_pos (by omega), specPair_eq]
      simp only [Option.bind_some, pairB, lessB]
      rw [wid (n := (i : Int) + 1) (by omega) (by omega)]
      rcases Bool.eq_false_or_eq_true (keyB (rd_T61 l (i : Int)).f0) with hk | hk
      · rcases Bool.eq_false_or_eq_true (valueB (rd_T61 l (i : Int)).f1) with hv | hv
        · simp only [hk, hv, Bool.true_and, Bool.and_self, if_true]
          by_cases h0 : i = 0
          · subst h0; simp
          · rw [if_pos (show (i : Int) > 0 by omega), wid (n := (i : Int) - 1) (by omega) (by omega), if_pos (by omega), if_pos (by omega), decide_eq_false h0, Bool.false_or]
            rfl
        · simp only [hk, hv, Bool.true_and, Bool.and_false, Bool.false_and, Bool.false_eq_true, if_false, if_true]
      · simp only [hk, Bool.false_and, Bool.false_eq_true, if_false]
    have h2 := ih (i + 1) (by omega)
    refine Ev.step hstep ?_
    rw [fromB]
    cases pairB l i with
    | false => exact Ev.now _
    | true => simp only [if_true, Bool.true_and]; exact h2
theorem specStoreOK_ev (l : List IP) (hl : l.length ≤ 1048576) : Ev (fun k => spec_StoreOK.f k l) (storeB l) := by
  unfold spec_StoreOK.f storeB
  by_cases h1 : (l.length : Int) > 4096
  · simp only [if_pos h1, decide_eq_false (show ¬ l.length ≤ 400 by omega), Bool.and_false]; exact Ev.now _
  simp only [if_neg h1]
  by_cases h2 : (l.length : Int) > 400
  · simp only [if_pos h2, decide_eq_false (show ¬ l.length ≤ 400 by omega), Bool.and_false]; exact Ev.now _
  simp only [if_neg h2, decide_eq_true (show l.length ≤ 400 by omega), Bool.and_true]
  exact specStore_go l hl l.length 0 (by omega)
theorem implStore_go (l : List IP) (hl : l.length ≤ 1048576) : ∀ (d i : Nat), i + d = l.length → Ev (fun k => impl_StoreOK.l0 k l l (l.length : Int) (i : Int)) (fromB l d i && decide (l.length ≤ 400)) := by
  intro d
  induction d with
  | zero =>
    intro i hi
    refine Ev.step (fun k => ?_) (Ev.now _)
    rw [impl_StoreOK.l0, if_neg (by omega), fromB, Bool.true_and]
    congr 1; rw [decide_eq_decide]; omega
  | succ d ih =>
    intro i hi
    have hstep : ∀ k, impl_StoreOK.l0 (k + 1) l l (l.length : Int) (i : Int) = if pairB l i = true then impl_StoreOK.l0 k l l (l.length : Int) ((i + 1 : Nat) : Int) else some false := by
      intro k
      rw [impl_StoreOK.l0, if_pos (by omega), if_pos (by omega), if_pos (by omega), implKey_eq, implValue_eq]
      simp only [Option.bind_some, pairB, lessB]
      rw [wid (n := (i : Int) + 1) (by omega) (by omega)]
      rcases Bool.eq_false_or_eq_true (keyB (rd_T61 l (i : Int)).f0) with hk | hk
      · rcases Bool.eq_false_or_eq_true (valueB (rd_T61 l (i : Int)).f1) with hv | hv
        · simp only [hk, hv, Bool.true_and, Bool.and_self, if_true]
          by_cases h0 : i = 0
          · subst h0; simp
          · rw [if_pos (show (i : Int) > 0 by omega), wid (n := (i : Int) - 1) (by omega) (by omega), if_pos (by omega), if_pos (by omega), decide_eq_false h0, Bool.false_or]
            rfl
        · simp only [hk, hv, Bool.true_and, Bool.and_false, Bool.false_and, Bool.false_eq_true, if_false, if_true]
      · simp only [hk, Bool.false_and, Bool.false_eq_true, if_false]
    have h2 := ih (i + 1) (by omega)
    refine Ev.step hstep ?_
    rw [fromB]
    cases pairB l i with
    | false => exact Ev.now _
    | true => simp only [if_true, Bool.true_and]; exact h2
theorem implStoreOK_ev (l : List IP) (hl : l.length ≤ 1048576) : Ev (fun k => impl_StoreOK.f k l) (storeB l) := by
  unfold impl_StoreOK.f storeB
  exact implStore_go l hl l.length 0 (by omega)
/-- The code of a store, no texts being too long. -/
def storeV (l : List IP) : Int := if l.length ≤ 4096 then (if storeB l = true then 0 else 1) else 2
theorem storeCode_ev (l : List IP) (ts : List ByteArray) (hl : l.length ≤ 1048576) :
    Ev (fun k => impl_storeCode.f k l ts) (if l.length ≤ 4096 ∧ (ts.any fun t => decide ((t.size : Int) > 65536)) = false then (if storeB l = true then 0 else 1) else 2) := by
  unfold impl_storeCode.f impl_isList_impl_Pair.f impl_isText.f
  simp only [Option.bind_some]
  have hbad : Ev (fun k => impl_storeCode.j0 k l true) 2 := Ev.step (fun k => by rw [impl_storeCode.j0, if_pos rfl]) (Ev.now _)
  by_cases h1 : l.length ≤ 4096
  · rw [decide_eq_true (show (l.length : Int) ≤ 4096 by omega)]
    simp only [if_true]
    cases h2 : (ts.any fun t => decide ((t.size : Int) > 65536)) with
    | true => simp only [Bool.not_true, Bool.not_false, Bool.true_eq_false, and_false, if_false]; exact hbad
    | false =>
      simp only [Bool.not_false, Bool.not_true, h1, and_true, if_true]
      refine Ev.step (fun k => by rw [impl_storeCode.j0, if_neg (by decide)]) (Ev.bind (implStoreOK_ev l hl) ?_)
      cases storeB l with
      | false => exact Ev.now _
      | true => simp only [if_true]; exact Ev.now _
  · rw [decide_eq_false (show ¬ (l.length : Int) ≤ 4096 by omega), if_neg (by simp [h1])]
    exact hbad
end Go.Proofs.YtggemblkhckbpaaGreatDoor.U

/- Marks: what the laws write into rows to see whether memory is shared. -/
namespace Go.Proofs.YtggemblkhckbpaaGreatDoor.U
open Go Go.RowKit Go.Proofs.YtggemblkhckbpaaGreatDoor.Q Go.Proofs.YtggemblkhckbpaaGreatDoorW.PrintWords Go.Proofs.YtggemblkhckbpaaGreatDoorW.PrintLast Go.Proofs.YtggemblkhckbpaaGreatDoorW.PrintMore
set_option linter.unusedVariables false
set_option linter.unusedSimpArgs false

def markV (n : Nat) : ByteArray := if n = 0 then (⟨#[109, 48]⟩ : ByteArray) else (⟨#[109]⟩ : ByteArray) ++ digV n
theorem digV_big {v : Nat} (h : ¬ v < 10) : digV v = digV (v / 10) ++ (⟨#[UInt8.ofNat (48 + v % 10)]⟩ : ByteArray) := by
  apply ByteArray.ext
  unfold digV
  rw [dec_big h]
  simp
theorem mark_go (v : Nat) : ∀ (acc : ByteArray), 1 ≤ v → v ≤ 1000000000000000000 → acc.size + v ≤ 9000000000000000000 → Ev (fun k => laws_markText.l0 k (v : Int) acc) ((⟨#[109]⟩ : ByteArray) ++ (digV v ++ acc)) := by
  induction v using Nat.strongRecOn with
  | _ v ih =>
    intro acc h1 h2 h3
    have e1 : wrap64 (Int.tdiv (v : Int) 10) = ((v / 10 : Nat) : Int) := by rw [tdiv_nn (by omega), wid (by omega) (by omega)]; omega
    have e2 : Int.tmod (v : Int) 10 = ((v % 10 : Nat) : Int) := by rw [tmod_nn (by omega)]; omega
    have sz : (⟨#[UInt8.ofNat (48 + v % 10)]⟩ : ByteArray).size = 1 := rfl
    refine Ev.step (f := fun k => laws_markText.l0 k ((v / 10 : Nat) : Int) ((⟨#[UInt8.ofNat (48 + v % 10)]⟩ : ByteArray) ++ acc)) (fun k => ?_) ?_
    · rw [laws_markText.l0, if_pos (by omega), e1, e2]
      simp only [Option.bind_some, one_digit (v % 10) (by omega)]
      rw [if_pos (by rw [sz]; omega)]
    · have hacc : ((⟨#[UInt8.ofNat (48 + v % 10)]⟩ : ByteArray) ++ acc).size = 1 + acc.size := by rw [ByteArray.size_append, sz]
      by_cases hv : v < 10
      · have e : v / 10 = 0 := by omega
        rw [e]
        refine Ev.step (fun k => ?_) (Ev.now _)
        rw [show ((0 : Nat) : Int) = 0 from rfl, laws_markText.l0, if_neg (by decide), if_pos (by rw [hacc]; omega)]
        have : digV v = (⟨#[UInt8.ofNat (48 + v % 10)]⟩ : ByteArray) := by
          apply ByteArray.ext
          unfold digV
          rw [Lib.decDigits_one hv, Nat.mod_eq_of_lt hv]
        rw [this]
      · have := ih (v / 10) (by omega) ((⟨#[UInt8.ofNat (48 + v % 10)]⟩ : ByteArray) ++ acc) (by omega) (by omega) (by rw [hacc]; omega)
        rw [digV_big hv]
        simp only [ByteArray.append_assoc] at this ⊢
        exact this
theorem markText_ev (n : Nat) (h : n ≤ 1000000000000000000) : Ev (fun k => laws_markText.f k (n : Int)) (markV n) := by
  unfold laws_markText.f markV
  by_cases h0 : n = 0
  · subst h0
    simp only [if_pos (show ((0 : Nat) : Int) ≤ 0 by decide), if_true]
    exact Ev.now _
  · simp only [if_neg (show ¬ (n : Int) ≤ 0 by omega), if_neg h0]
    have e := mark_go n (⟨#[]⟩ : ByteArray) (by omega) h (by show 0 + n ≤ _; omega)
    have z : digV n ++ (⟨#[]⟩ : ByteArray) = digV n := by apply ByteArray.ext; simp
    rw [z] at e
    exact e
/-- The pairs as they are marked, from a number on. -/
def markP (n i : Nat) : IP := ⟨markV (n + 2 * i), markV (n + 2 * i + 1)⟩
def markPs (n : Nat) (l : List IP) : List IP := (List.range l.length).map fun i => markP n i
theorem markPairS_go (N : Nat) (l : List IP) (n : Nat) (hl : l.length = N) (hN : N ≤ 1048576) (hn : n ≤ 1000000) : ∀ (d i : Nat) (o : List IP), i + d = N → o.length = N → (∀ j, j < i → o[j]? = some (markP n j)) →
    Ev (fun k => laws_markPairS.l0 k o ((n + 2 * i : Nat) : Int) (i : Int)) (((n + 2 * N : Nat) : Int), markPs n l) := by
  intro d
  induction d with
  | zero =>
    intro i o hi ho hj
    have e : o = markPs n l := by
      apply List.ext_getElem?
      intro j
      by_cases h : j < i
      · rw [hj j h]; unfold markPs; rw [List.getElem?_map, List.getElem?_range (by omega)]; rfl
      · rw [List.getElem?_eq_none (by omega), List.getElem?_eq_none (by unfold markPs; simp; omega)]
    refine Ev.step (fun k => ?_) (Ev.now _)
    rw [laws_markPairS.l0, if_neg (by omega), e, show i = N by omega]
  | succ d ih =>
    intro i o hi ho hj
    have hlt : i < o.length := by omega
    refine Ev.step (f := fun k => (laws_markText.f k ((n + 2 * i : Nat) : Int)).bind fun t => (laws_markText.f k ((n + 2 * i + 1 : Nat) : Int)).bind fun u => laws_markPairS.l0 k (o.set i ⟨t, u⟩) ((n + 2 * (i + 1) : Nat) : Int) ((i + 1 : Nat) : Int)) (fun k => ?_) ?_
    · have w1 : wrap64 (((n + 2 * i : Nat) : Int) + 1) = ((n + 2 * i + 1 : Nat) : Int) := by rw [wid (by omega) (by omega)]; omega
      have w2 : wrap64 (((n + 2 * i + 1 : Nat) : Int) + 1) = ((n + 2 * (i + 1) : Nat) : Int) := by rw [wid (by omega) (by omega)]; omega
      have w3 : wrap64 ((i : Int) + 1) = ((i + 1 : Nat) : Int) := by rw [wid (by omega) (by omega)]; omega
      rw [laws_markPairS.l0, if_pos (by omega)]
      congr 1
      funext t
      rw [if_pos (by omega), w1, w2, w3]
      simp only [Option.bind_some]
      congr 1
      funext u
      rw [Int.toNat_natCast, List.set_set]
      have : (rd_T61 (o.set i (⟨t, (rd_T61 o (i : Int)).f1⟩ : IP)) (i : Int)).f0 = t := by
        rw [rdI _ i (by rw [List.length_set]; exact hlt), List.getElem_set_self]
      rw [this]
    · refine Ev.bind (markText_ev _ (by omega)) (Ev.bind (markText_ev _ (by omega)) ?_)
      refine ih (i + 1) _ (by omega) (by rw [List.length_set]; exact ho) (fun j hji => ?_)
      rw [List.getElem?_set]
      by_cases h : i = j
      · subst h
        rw [if_pos rfl, if_pos hlt]
        rfl
      · rw [if_neg h]
        exact hj j (by omega)
theorem markPairS_ev (l : List IP) (n : Nat) (hN : l.length ≤ 1048576) (hn : n ≤ 1000000) : Ev (fun k => laws_markPairS.f k l (n : Int)) (((n + 2 * l.length : Nat) : Int), markPs n l) := by
  unfold laws_markPairS.f
  exact markPairS_go l.length l n rfl hN hn l.length 0 l (by omega) rfl (fun j h => by omega)
end Go.Proofs.YtggemblkhckbpaaGreatDoor.U

/- What is found in a store: the reference's search and the program's take the same steps. -/
namespace Go.Proofs.YtggemblkhckbpaaGreatDoor.U
open Go Go.RowKit Go.Proofs.YtggemblkhckbpaaGreatDoor.Q Go.Proofs.YtggemblkhckbpaaGreatDoorW.PrintWords Go.Proofs.YtggemblkhckbpaaGreatDoorW.PrintLast Go.Proofs.YtggemblkhckbpaaGreatDoorW.PrintMore
set_option linter.unusedVariables false
set_option linter.unusedSimpArgs false

theorem cmp_neg : ∀ a b : List UInt8, Lib.compareBytes a b < 0 ↔ Op.bytesLess a b = true
  | [], [] => by simp [Lib.compareBytes, Op.bytesLess]
  | [], _ :: _ => by simp [Lib.compareBytes, Op.bytesLess]
  | _ :: _, [] => by simp [Lib.compareBytes, Op.bytesLess]
  | a :: x, b :: y => by
    rw [Lib.compareBytes, Op.bytesLess]
    by_cases h1 : a < b
    · simp [h1]
    · by_cases h2 : b < a
      · have h3 : ¬ a = b := fun e => by subst e; exact h1 h2
        simp [h1, h2, h3]
      · have h3 : a = b := UInt8.le_antisymm (UInt8.not_lt.1 h2) (UInt8.not_lt.1 h1)
        subst h3
        simp [h1, cmp_neg x y]
theorem cmp_zero : ∀ a b : List UInt8, Lib.compareBytes a b = 0 ↔ a = b
  | [], [] => by simp [Lib.compareBytes]
  | [], _ :: _ => by simp [Lib.compareBytes]
  | _ :: _, [] => by simp [Lib.compareBytes]
  | a :: x, b :: y => by
    rw [Lib.compareBytes]
    by_cases h1 : a < b
    · have h3 : ¬ a = b := fun e => by subst e; exact UInt8.lt_irrefl _ h1
      simp [h1, h3]
    · by_cases h2 : b < a
      · have h3 : ¬ a = b := fun e => by subst e; exact h1 h2
        simp [h1, h2, h3]
      · have h3 : a = b := UInt8.le_antisymm (UInt8.not_lt.1 h2) (UInt8.not_lt.1 h1)
        subst h3
        simp [h1, cmp_zero x y]
/-- Where a key's search ends. -/
def atV (l : List IP) (key : ByteArray) : Nat → Nat → Nat → Nat
  | 0, i, _ => i
  | f + 1, i, j => if i < j then (if Op.bytesLess ((rd_T61 l (((i + j) / 2 : Nat) : Int)).f0).toList key.toList = true then atV l key f ((i + j) / 2 + 1) j else atV l key f i ((i + j) / 2)) else i
theorem atV_bd (l : List IP) (key : ByteArray) : ∀ (f i j : Nat), i ≤ j → i ≤ atV l key f i j ∧ atV l key f i j ≤ j
  | 0, i, j, h => ⟨Nat.le_refl _, h⟩
  | f + 1, i, j, h => by
    rw [atV]
    by_cases h1 : i < j
    · rw [if_pos h1]
      split
      · have := atV_bd l key f ((i + j) / 2 + 1) j (by omega); omega
      · have := atV_bd l key f i ((i + j) / 2) (by omega); omega
    · rw [if_neg h1]; omega
theorem specAt_go (l : List IP) (key : ByteArray) (hl : l.length ≤ 1048576) : ∀ (f i j : Nat), j - i < f → i ≤ j → j ≤ l.length → Ev (fun k => spec_l03At.l0 k l key (i : Int) (j : Int)) (atV l key f i j : Int)
  | 0, i, j, h, _, _ => by omega
  | f + 1, i, j, h, hij, hj => by
    rw [atV]
    by_cases h1 : i < j
    · rw [if_pos h1]
      have e1 : wrap64 (Int.tdiv (wrap64 ((i : Int) + (j : Int))) 2) = (((i + j) / 2 : Nat) : Int) := by
        rw [wid (n := (i : Int) + (j : Int)) (by omega) (by omega), tdiv_nn (by omega), wid (by omega) (by omega)]; omega
      have hstep : ∀ k, spec_l03At.l0 (k + 1) l key (i : Int) (j : Int) = if Op.bytesLess ((rd_T61 l (((i + j) / 2 : Nat) : Int)).f0).toList key.toList = true then spec_l03At.l0 k l key (((i + j) / 2 + 1 : Nat) : Int) (j : Int) else spec_l03At.l0 k l key (i : Int) (((i + j) / 2 : Nat) : Int) := by
        intro k
        rw [spec_l03At.l0, if_pos (by omega), e1, if_pos (by omega), if_pos (by omega), wid (n := (((i + j) / 2 : Nat) : Int) + 1) (by omega) (by omega)]
        rfl
      refine Ev.step hstep ?_
      split
      · exact specAt_go l key hl f _ _ (by omega) (by omega) hj
      · exact specAt_go l key hl f _ _ (by omega) (by omega) (by omega)
    · rw [if_neg h1]
      exact Ev.step (fun k => by rw [spec_l03At.l0, if_neg (by omega)]) (Ev.now _)
theorem implAt_go (l : List IP) (key : ByteArray) (hl : l.length ≤ 1048576) : ∀ (f i j : Nat), j - i < f → i ≤ j → j ≤ l.length → Ev (fun k => impl_pairAt.l0 k l key (i : Int) (j : Int)) (atV l key f i j : Int)
  | 0, i, j, h, _, _ => by omega
  | f + 1, i, j, h, hij, hj => by
    rw [atV]
    by_cases h1 : i < j
    · rw [if_pos h1]
      have e1 : ((i : Int) + (j : Int)) / 2 = (((i + j) / 2 : Nat) : Int) := by omega
      have hstep : ∀ k, impl_pairAt.l0 (k + 1) l key (i : Int) (j : Int) = if Op.bytesLess ((rd_T61 l (((i + j) / 2 : Nat) : Int)).f0).toList key.toList = true then impl_pairAt.l0 k l key (((i + j) / 2 + 1 : Nat) : Int) (j : Int) else impl_pairAt.l0 k l key (i : Int) (((i + j) / 2 : Nat) : Int) := by
        intro k
        rw [impl_pairAt.l0, if_pos (by omega), e1, if_pos (by omega), if_pos (by omega), Lib.toList_data, Lib.toList_data]
        by_cases hb : Op.bytesLess ((rd_T61 l (((i + j) / 2 : Nat) : Int)).f0).data.toList key.data.toList = true
        · rw [if_pos hb, if_pos ((cmp_neg _ _).2 hb)]; rfl
        · rw [if_neg hb, if_neg (fun e => hb ((cmp_neg _ _).1 e))]
      refine Ev.step hstep ?_
      split
      · exact implAt_go l key hl f _ _ (by omega) (by omega) hj
      · exact implAt_go l key hl f _ _ (by omega) (by omega) (by omega)
    · rw [if_neg h1]
      exact Ev.step (fun k => by rw [impl_pairAt.l0, if_neg (by omega)]) (Ev.now _)
def atOf (l : List IP) (key : ByteArray) : Nat := atV l key (l.length + 1) 0 l.length
theorem atOf_le (l : List IP) (key : ByteArray) : atOf l key ≤ l.length := (atV_bd l key _ 0 l.length (by omega)).2
theorem specAt_ev (l : List IP) (key : ByteArray) (hl : l.length ≤ 1048576) : Ev (fun k => spec_l03At.f k l key) (atOf l key : Int) := specAt_go l key hl (l.length + 1) 0 l.length (by omega) (by omega) (by omega)
def hitB (l : List IP) (key : ByteArray) : Bool := decide (atOf l key < l.length) && (((rd_T61 l (atOf l key : Int)).f0).toList == key.toList)
theorem implAt_ev (l : List IP) (key : ByteArray) (hl : l.length ≤ 1048576) : Ev (fun k => impl_pairAt.f k l key) ((atOf l key : Int), hitB l key) := by
  unfold impl_pairAt.f
  refine Ev.bind (implAt_go l key hl (l.length + 1) 0 l.length (by omega) (by omega) (by omega)) ?_
  have hle := atOf_le l key
  have e : impl_pairAt.hit l key (atOf l key : Int) = hitB l key := by
    unfold impl_pairAt.hit hitB
    congr 1
    · rw [decide_eq_decide]; omega
    · rw [Lib.toList_data, Lib.toList_data, Bool.eq_iff_iff, beq_iff_eq, beq_iff_eq]
      exact cmp_zero _ _
  rw [show atV l key (l.length + 1) 0 l.length = atOf l key from rfl]
  simp only [if_pos (show (l.length : Int) < 1000000000000 by omega), if_pos (show (0 : Int) ≤ (atOf l key : Int) by omega), if_pos (show (atOf l key : Int) ≤ (l.length : Int) by omega), e]
  exact Ev.now _
/-- What is found, and whether. -/
def getV (l : List IP) (key : ByteArray) : ByteArray × Bool := if hitB l key = true then ((rd_T61 l (atOf l key : Int)).f1, true) else ((⟨#[]⟩ : ByteArray), false)
theorem specGet_ev (l : List IP) (key : ByteArray) (hl : l.length ≤ 1048576) : Ev (fun k => spec_l03Get.f k l key) (getV l key) := by
  unfold spec_l03Get.f getV hitB
  refine Ev.bind (specAt_ev l key hl) ?_
  by_cases h1 : atOf l key < l.length
  · simp only [if_pos (show (atOf l key : Int) < (l.length : Int) by omega), if_pos (show (0 : Int) ≤ (atOf l key : Int) by omega), decide_eq_true h1, Bool.true_and]
    by_cases h2 : ((rd_T61 l (atOf l key : Int)).f0).toList = key.toList
    · simp only [h2, beq_self_eq_true, if_true]; exact Ev.now _
    · simp only [if_neg h2, beq_eq_false_iff_ne.2 h2, Bool.false_eq_true, if_false]; exact Ev.now _
  · simp only [if_neg (show ¬ (atOf l key : Int) < (l.length : Int) by omega), decide_eq_false h1, Bool.false_and, Bool.false_eq_true, if_false]; exact Ev.now _
theorem implGet_ev (l : List IP) (key : ByteArray) (hl : l.length ≤ 1048576) : Ev (fun k => impl_get.f k l key) (getV l key) := by
  unfold impl_get.f getV
  refine Ev.bind (implAt_ev l key hl) ?_
  cases h : hitB l key with
  | false => simp only [Bool.false_eq_true, if_false]; exact Ev.now _
  | true =>
    have h1 : atOf l key < l.length := by
      unfold hitB at h
      rw [Bool.and_eq_true, decide_eq_true_iff] at h
      exact h.1
    simp only [if_true, if_pos (show (0 : Int) ≤ (atOf l key : Int) by omega), if_pos (show (atOf l key : Int) < (l.length : Int) by omega)]
    exact Ev.now _
end Go.Proofs.YtggemblkhckbpaaGreatDoor.U

/- Fields that are written are read back; amounts and bounds as both sides read them. -/
namespace Go.Proofs.YtggemblkhckbpaaGreatDoor.U
open Go Go.RowKit Go.Proofs.YtggemblkhckbpaaGreatDoor.Q Go.Proofs.YtggemblkhckbpaaGreatDoorW.PrintWords Go.Proofs.YtggemblkhckbpaaGreatDoorW.PrintLast Go.Proofs.YtggemblkhckbpaaGreatDoorW.PrintMore
set_option linter.unusedVariables false
set_option linter.unusedSimpArgs false

theorem size_data (a : ByteArray) : a.data.toList.length = a.size := by rw [Array.length_toList]; rfl
theorem toList_nil_iff (a : ByteArray) : a.toList = ([] : List UInt8) ↔ a.size = 0 := by
  rw [ByteArray.toList_eq]
  have e : a.data.toList.length = a.size := by rw [Array.length_toList]; rfl
  constructor
  · intro h; rw [← e, h]; rfl
  · intro h; exact List.length_eq_zero_iff.1 (by rw [e]; exact h)
def someB (n : Int) : Bool := decide (1 ≤ n ∧ n ≤ 1000000000000000000)
def max0 (n : Int) : Int := if 0 ≤ n then n else 0
theorem within_eq (n a b : Int) : impl_within.f n a b = some (decide (a ≤ n ∧ n ≤ b)) := by
  unfold impl_within.f
  by_cases h : n ≥ a
  · rw [if_pos h]; congr 1; rw [decide_eq_decide]; omega
  · rw [if_neg h]; congr 1; rw [eq_comm, decide_eq_false_iff_not]; omega
theorem l01In_eq (n a b : Int) : spec_l01In.f n a b = some (decide (a ≤ n ∧ n ≤ b)) := by
  unfold spec_l01In.f
  by_cases h : n ≥ a
  · rw [if_pos h]; congr 1; rw [decide_eq_decide]; omega
  · rw [if_neg h]; congr 1; rw [eq_comm, decide_eq_false_iff_not]; omega
theorem amountText_eq (n : Int) (h0 : 0 ≤ n) (h1 : n ≤ 9223372036854775807) : impl_amountText.f n = some (digV n.toNat) := by
  unfold impl_amountText.f strconv_Itoa.f
  rw [if_pos (by omega), if_pos h1, itoa_eq n h0]
  rfl
theorem readAmount_fst (a : ByteArray) (hs : a.size ≤ 281474976710656) : ∃ b, impl_readAmount.f a = some (max0 (amtV a), b) := by
  rw [readAmount_eq a hs]
  unfold max0
  by_cases h : 0 ≤ amtV a
  · rw [if_pos h, if_pos h]; exact ⟨_, rfl⟩
  · rw [if_neg h, if_neg h]; exact ⟨_, rfl⟩
theorem getV_size (l : List IP) (key : ByteArray) (B : Nat) (h : ∀ x ∈ l, x.f1.size ≤ B) : (getV l key).1.size ≤ B := by
  unfold getV
  split
  · rename_i hh
    unfold hitB at hh
    rw [Bool.and_eq_true, decide_eq_true_iff] at hh
    rw [rdI l _ hh.1]
    exact h _ (List.getElem_mem hh.1)
  · exact Nat.zero_le _
theorem getV_none (l : List IP) (key : ByteArray) (h : (getV l key).2 = false) : (getV l key).1 = ⟨#[]⟩ := by
  unfold getV at *
  split
  · rename_i hh; rw [if_pos hh] at h; cases h
  · rfl
end Go.Proofs.YtggemblkhckbpaaGreatDoor.U

/- What is put into a store, dropped from it, and moved in it: the program and the reference take the same steps. -/
namespace Go.Proofs.YtggemblkhckbpaaGreatDoor.U
open Go Go.RowKit Go.Proofs.YtggemblkhckbpaaGreatDoor.Q Go.Proofs.YtggemblkhckbpaaGreatDoorW.PrintWords Go.Proofs.YtggemblkhckbpaaGreatDoorW.PrintLast Go.Proofs.YtggemblkhckbpaaGreatDoorW.PrintMore
set_option linter.unusedVariables false
set_option linter.unusedSimpArgs false

/-- Stores as they come up: no more than 400 pairs, each with a key. -/
def Rt (l : List IP) : Prop := l.length ≤ 400 ∧ ∀ x ∈ l, 1 ≤ x.f0.size ∧ x.f0.size ≤ 1000 ∧ x.f1.size ≤ 1000
def putV (l : List IP) (key v : ByteArray) : List IP × Int :=
  if hitB l key = true then (l.set (atOf l key) ⟨(rd_T61 l (atOf l key : Int)).f0, v⟩, 0) else if l.length = 400 then (l, 7) else (l.insertIdx (atOf l key) ⟨key, v⟩, 0)
def dropV (l : List IP) (key : ByteArray) : List IP × Int := if hitB l key = true then (l.eraseIdx (atOf l key), 0) else (l, 5)
theorem hit_lt {l : List IP} {key : ByteArray} (h : hitB l key = true) : atOf l key < l.length := by
  unfold hitB at h
  rw [Bool.and_eq_true, decide_eq_true_iff] at h
  exact h.1
theorem implPut_ev (l : List IP) (key v : ByteArray) (hl : l.length ≤ 1000000) : Ev (fun k => impl_put.f k l key v) (putV l key v) := by
  unfold impl_put.f putV
  simp only [if_pos hl]
  refine Ev.bind (implAt_ev l key (by omega)) ?_
  have hle := atOf_le l key
  simp only [if_pos (show (0 : Int) ≤ (atOf l key : Int) by omega), if_pos (show (atOf l key : Int) ≤ (l.length : Int) by omega), Int.toNat_natCast]
  cases h : hitB l key with
  | true =>
    have := hit_lt h
    simp only [if_true, if_pos (show (atOf l key : Int) < (l.length : Int) by omega)]
    exact Ev.now _
  | false =>
    simp only [Bool.false_eq_true, if_false]
    by_cases h4 : l.length = 400
    · simp only [if_pos h4, if_pos (show (l.length : Int) = 400 by omega)]; exact Ev.now _
    · simp only [if_neg h4, if_neg (show ¬ (l.length : Int) = 400 by omega)]; exact Ev.now _
theorem hit_iff (l : List IP) (key : ByteArray) : (hitB l key = true) ↔ ((atOf l key : Int) < (l.length : Int) ∧ ((rd_T61 l (atOf l key : Int)).f0).toList = key.toList) := by
  unfold hitB
  rw [Bool.and_eq_true, decide_eq_true_iff, beq_iff_eq]
  constructor
  · rintro ⟨h1, h2⟩; exact ⟨by omega, h2⟩
  · rintro ⟨h1, h2⟩; exact ⟨by omega, h2⟩
theorem specPut_ev (l : List IP) (key v : ByteArray) (hl : l.length ≤ 1000000) : Ev (fun k => spec_l03Put.f k l key v) (putV l key v) := by
  unfold spec_l03Put.f putV
  refine Ev.bind (specAt_ev l key (by omega)) ?_
  have hle := atOf_le l key
  simp only [if_pos hl, if_pos (show (0 : Int) ≤ (atOf l key : Int) by omega), if_pos (show (atOf l key : Int) ≤ (l.length : Int) by omega), Int.toNat_natCast]
  by_cases h : hitB l key = true
  · simp only [if_pos h, if_pos ((hit_iff l key).1 h)]; exact Ev.now _
  · simp only [if_neg h, if_neg (fun e => h ((hit_iff l key).2 e))]
    by_cases h4 : l.length = 400
    · simp only [if_pos h4, if_pos (show (l.length : Int) = 400 by omega)]; exact Ev.now _
    · simp only [if_neg h4, if_neg (show ¬ (l.length : Int) = 400 by omega)]; exact Ev.now _
theorem implDrop_ev (l : List IP) (key : ByteArray) (hl : l.length ≤ 1000000) : Ev (fun k => impl_drop.f k l key) (dropV l key) := by
  unfold impl_drop.f dropV
  simp only [if_pos hl]
  refine Ev.bind (implAt_ev l key (by omega)) ?_
  cases h : hitB l key with
  | true =>
    have := hit_lt h
    simp only [if_true, if_pos (show (0 : Int) ≤ (atOf l key : Int) by omega), if_pos (show (atOf l key : Int) < (l.length : Int) by omega), Int.toNat_natCast]
    exact Ev.now _
  | false => simp only [Bool.false_eq_true, if_false]; exact Ev.now _
theorem rdI' (l : List IP) (i : Nat) (h : i < l.length) : rd_T61 l (i : Int) = l[i] := by simp [rd_T61, List.getD_eq_getElem?_getD, List.getElem?_eq_getElem h]
theorem putV_rt {l : List IP} {key v : ByteArray} (h : Rt l) (h1 : 1 ≤ key.size) (h2 : key.size ≤ 1000) (h3 : v.size ≤ 1000) : Rt (putV l key v).1 := by
  unfold putV
  by_cases hh : hitB l key = true
  · rw [if_pos hh]
    have hlt := hit_lt hh
    refine ⟨by rw [List.length_set]; exact h.1, fun x hx => ?_⟩
    rcases List.mem_or_eq_of_mem_set hx with hx | rfl
    · exact h.2 x hx
    · rw [rdI' l _ hlt]
      have := h.2 _ (List.getElem_mem hlt)
      exact ⟨this.1, this.2.1, h3⟩
  · rw [if_neg hh]
    by_cases h4 : l.length = 400
    · rw [if_pos h4]; exact h
    · rw [if_neg h4]
      refine ⟨by rw [List.length_insertIdx_of_le_length (atOf_le l key)]; have := h.1; omega, fun x hx => ?_⟩
      rcases (List.mem_insertIdx (atOf_le l key)).1 hx with rfl | hx
      · exact ⟨h1, h2, h3⟩
      · exact h.2 x hx
theorem dropV_rt {l : List IP} {key : ByteArray} (h : Rt l) : Rt (dropV l key).1 := by
  unfold dropV
  by_cases hh : hitB l key = true
  · rw [if_pos hh]
    refine ⟨Nat.le_trans (by simpa using List.length_eraseIdx_le l (atOf l key)) h.1, fun x hx => h.2 x (List.mem_of_mem_eraseIdx hx)⟩
  · rw [if_neg hh]; exact h
theorem dropV_nil {l : List IP} (h : Rt l) : dropV l (⟨#[]⟩ : ByteArray) = (l, 5) := by
  unfold dropV
  rw [if_neg]
  intro hh
  have hlt := hit_lt hh
  have := (hit_iff l _).1 hh
  rw [rdI' l _ hlt] at this
  have h1 := (h.2 _ (List.getElem_mem hlt)).1
  have h2 : l[atOf l (⟨#[]⟩ : ByteArray)].f0.size = 0 := (toList_nil_iff _).1 (this.2.trans ((toList_nil_iff _).2 rfl))
  omega
/-- The amount at a key. -/
def amtAt (l : List IP) (key : ByteArray) : Int := max0 (amtV (getV l key).1)
theorem amtAt_bd (l : List IP) (key : ByteArray) : 0 ≤ amtAt l key ∧ amtAt l key ≤ 1000000000000000000 := by
  unfold amtAt max0
  by_cases h : 0 ≤ amtV (getV l key).1
  · rw [if_pos h]; exact ⟨h, (amtV_eq h).2⟩
  · rw [if_neg h]; omega
theorem amountAt_ev (l : List IP) (key : ByteArray) (h : Rt l) : Ev (fun k => impl_amountAt.f k l key) (amtAt l key) := by
  unfold impl_amountAt.f amtAt
  refine Ev.bind (implGet_ev l key (by have := h.1; omega)) ?_
  obtain ⟨b, hb⟩ := readAmount_fst (getV l key).1 (Nat.le_trans (getV_size l key 1000 (fun x hx => (h.2 x hx).2.2)) (by decide))
  rw [hb]
  exact Ev.now _
theorem amtV_nil : amtV (⟨#[]⟩ : ByteArray) = -1 := by decide
theorem l05Read_ev (l : List IP) (key : ByteArray) (h : Rt l) : Ev (fun k => spec_l05Read.f k l key) (amtAt l key) := by
  unfold spec_l05Read.f
  refine Ev.bind (specGet_ev l key (by have := h.1; omega)) ?_
  have e : ∀ n : Int, mx 0 n = max0 n := fun n => by unfold mx max0; omega
  cases hf : (getV l key).2 with
  | true =>
    simp only [if_true]
    refine Ev.bind (l02Of_ev _ (Nat.le_trans (getV_size l key 1000 (fun x hx => (h.2 x hx).2.2)) (by decide))) ?_
    rw [e]
    exact Ev.now _
  | false =>
    have : amtAt l key = 0 := by
      unfold amtAt getV at *
      by_cases hh : hitB l key = true
      · rw [if_pos hh] at hf; cases hf
      · rw [if_neg hh, amtV_nil]; rfl
    simp only [Bool.false_eq_true, if_false, this]
    exact Ev.now _
/-- So much more at a key, or fewer. -/
def addV (l : List IP) (key : ByteArray) (n : Int) : List IP × Int :=
  if amtAt l key + n < 0 then (l, 12) else if 1000000000000000000 < amtAt l key + n then (l, 13) else if amtAt l key + n = 0 then ((dropV l key).1, 0) else putV l key (digV (amtAt l key + n).toNat)
theorem isAmount_eq (n : Int) : impl_isAmount.f n = some (decide (0 ≤ n ∧ n ≤ 1000000000000000000)) := by unfold impl_isAmount.f; rw [within_eq]; rfl
theorem putAmount_ev (l : List IP) (key : ByteArray) (n : Int) (hl : l.length ≤ 1000000) (h0 : 0 ≤ n) (h1 : n ≤ 1000000000000000000) : Ev (fun k => impl_putAmount.f k l key n) (if n = 0 then ((dropV l key).1, 0) else putV l key (digV n.toNat)) := by
  unfold impl_putAmount.f
  by_cases hn : n = 0
  · simp only [if_pos hn, if_neg (show ¬ n > 0 by omega)]
    exact Ev.bind (implDrop_ev l key hl) (Ev.now _)
  · simp only [if_neg hn, if_pos (show n > 0 by omega), amountText_eq n h0 (by omega), Option.bind_some]
    exact Ev.bind (implPut_ev l key _ hl) (Ev.now _)
theorem digV_small (v : Nat) (h : v ≤ 1000000000000000000) : (digV v).size ≤ 1000 := Nat.le_trans (digV_size v h) (by decide)
theorem addV_rt {l : List IP} {key : ByteArray} {n : Int} (h : Rt l) (h1 : 1 ≤ key.size) (h2 : key.size ≤ 1000) : Rt (addV l key n).1 := by
  unfold addV
  split
  · exact h
  · split
    · exact h
    · split
      · exact dropV_rt h
      · exact putV_rt h h1 h2 (digV_small _ (by omega))
/-- Two changes, whole or not at all. -/
def thenV (l : List IP) (a : List IP × Int) (f : List IP → List IP × Int) : List IP × Int := if a.2 = 0 then (if (f a.1).2 = 0 then ((f a.1).1, 0) else (l, (f a.1).2)) else (l, a.2)
def bKey (d a : ByteArray) : ByteArray := (((⟨#[98, 47]⟩ : ByteArray) ++ d) ++ (⟨#[47]⟩ : ByteArray)) ++ a
def sKey (d : ByteArray) : ByteArray := (⟨#[115, 47]⟩ : ByteArray) ++ d
theorem bKey_size (d a : ByteArray) : (bKey d a).size = 3 + d.size + a.size := by
  unfold bKey
  simp only [ByteArray.size_append]
  have e1 : (⟨#[98, 47]⟩ : ByteArray).size = 2 := rfl
  have e2 : (⟨#[47]⟩ : ByteArray).size = 1 := rfl
  omega
theorem sKey_size (d : ByteArray) : (sKey d).size = 2 + d.size := by
  unfold sKey
  simp only [ByteArray.size_append]
  have e1 : (⟨#[115, 47]⟩ : ByteArray).size = 2 := rfl
  omega
def moveV (l : List IP) (f t d : ByteArray) (n : Int) : List IP × Int := thenV l (addV l (bKey d f) (-n)) (fun m => addV m (bKey d t) n)
def mintV (l : List IP) (a d : ByteArray) (n : Int) : List IP × Int := thenV l (addV l (sKey d) n) (fun m => addV m (bKey d a) n)
def burnV (l : List IP) (a d : ByteArray) (n : Int) : List IP × Int := thenV l (addV l (bKey d a) (-n)) (fun m => addV m (sKey d) (-n))
theorem thenV_rt {l : List IP} {a : List IP × Int} {f : List IP → List IP × Int} (h : Rt l) (h1 : Rt (f a.1).1) : Rt (thenV l a f).1 := by
  unfold thenV
  split
  · split
    · exact h1
    · exact h
  · exact h
theorem all_nil (k : Nat) (l o : List IP) : impl_all.go k l [] o = some (o, 0) := rfl
/-- The program's list of changes, one behind the other. -/
def seqV (l : List IP) : List (List IP → List IP × Int) → List IP → List IP × Int
  | [], o => (o, 0)
  | f :: fs, o => if (f o).2 = 0 then seqV l fs (f o).1 else (l, (f o).2)
theorem go_ev (l : List IP) (hr : Rt l) : ∀ (Fs : List (Nat → List IP → Option (List IP × Int))) (fs : List (List IP → List IP × Int)) (o : List IP), Rt o → Fs.length = fs.length →
    (∀ (i : Nat) F f, Fs[i]? = some F → fs[i]? = some f → ∀ m, Rt m → Ev (fun k => F k m) (f m) ∧ Rt (f m).1) → Ev (fun k => impl_all.go k l (Fs.map fun F => F k) o) (seqV l fs o)
  | [], [], o, _, _, _ => Ev.now _
  | [], _ :: _, _, _, h, _ => by simp at h
  | _ :: _, [], _, _, h, _ => by simp at h
  | F :: Fs, f :: fs, o, ho, hlen, hF => by
    obtain ⟨h1, h2⟩ := hF 0 F f rfl rfl o ho
    unfold seqV
    refine Ev.bind h1 ?_
    by_cases hc : (f o).2 = 0
    · simp only [if_pos hc]
      exact go_ev l hr Fs fs (f o).1 h2 (by simpa using hlen) (fun i G g hG hg => hF (i + 1) G g (by simpa using hG) (by simpa using hg))
    · simp only [if_neg hc]
      refine Ev.bind (implDrop_ev l _ (by have := hr.1; omega)) ?_
      rw [dropV_nil hr]
      exact Ev.now _
theorem all_ev (l : List IP) (hr : Rt l) (Fs : List (Nat → List IP → Option (List IP × Int))) (fs : List (List IP → List IP × Int)) (hlen : Fs.length = fs.length)
    (hF : ∀ (i : Nat) F f, Fs[i]? = some F → fs[i]? = some f → ∀ m, Rt m → Ev (fun k => F k m) (f m) ∧ Rt (f m).1) : Ev (fun k => impl_all.f k l (Fs.map fun F => F k)) (seqV l fs l) := by
  unfold impl_all.f
  refine Ev.bind (implDrop_ev l _ (by have := hr.1; omega)) ?_
  rw [dropV_nil hr]
  exact go_ev l hr Fs fs l hr hlen hF
theorem seq_two (l : List IP) (f g : List IP → List IP × Int) : seqV l [f, g] l = thenV l (f l) g := by
  unfold seqV seqV seqV thenV
  split
  · split
    · rfl
    · rfl
  · rfl
theorem two_cases {α β : Type} {a b : α} {c d : β} {P : α → β → Prop} (h1 : P a c) (h2 : P b d) : ∀ (i : Nat) F f, [a, b][i]? = some F → [c, d][i]? = some f → P F f
  | 0, F, f, hF, hf => by
    simp only [List.getElem?_cons_zero, Option.some.injEq] at hF hf
    subst hF hf
    exact h1
  | 1, F, f, hF, hf => by
    simp only [List.getElem?_cons_succ, List.getElem?_cons_zero, Option.some.injEq] at hF hf
    subst hF hf
    exact h2
  | i + 2, F, f, hF, hf => by simp at hF
theorem moveV_rt {l : List IP} {f t d : ByteArray} {n : Int} (h : Rt l) (hf : f.size ≤ 100) (ht : t.size ≤ 100) (hd : d.size ≤ 100) : Rt (moveV l f t d n).1 :=
  thenV_rt h (addV_rt (addV_rt h (by rw [bKey_size]; omega) (by rw [bKey_size]; omega)) (by rw [bKey_size]; omega) (by rw [bKey_size]; omega))
theorem rt_store {l : List IP} (h : storeB l = true) (hk : ∀ x ∈ l, (1 ≤ x.f0.size ∧ x.f0.size ≤ 60) ∧ x.f1.size ≤ 1000) : Rt l := by
  unfold storeB at h
  rw [Bool.and_eq_true, decide_eq_true_iff] at h
  exact ⟨h.2, fun x hx => ⟨(hk x hx).1.1, by have := (hk x hx).1.2; omega, (hk x hx).2⟩⟩
end Go.Proofs.YtggemblkhckbpaaGreatDoor.U

/- Keys that rise: where a search ends, and which pairs begin so. -/

namespace Go.Proofs.YtggemblkhckbpaaGreatDoor.U
open Go Go.RowKit Go.Proofs.YtggemblkhckbpaaGreatDoor.Q Go.Proofs.YtggemblkhckbpaaGreatDoorW.PrintWords Go.Proofs.YtggemblkhckbpaaGreatDoorW.PrintLast Go.Proofs.YtggemblkhckbpaaGreatDoorW.PrintMore
set_option linter.unusedVariables false
set_option linter.unusedSimpArgs false

theorem less_cons (a b : UInt8) (x y : List UInt8) : Op.bytesLess (a :: x) (b :: y) = true ↔ a < b ∨ (a = b ∧ Op.bytesLess x y = true) := by
  rw [Op.bytesLess, Bool.or_eq_true, Bool.and_eq_true, decide_eq_true_iff, beq_iff_eq]
theorem less_trans : ∀ a b c : List UInt8, Op.bytesLess a b = true → Op.bytesLess b c = true → Op.bytesLess a c = true
  | _, [], _, h, _ => by rw [Op.bytesLess] at h; cases h
  | _, _ :: _, [], _, h => by rw [Op.bytesLess] at h; cases h
  | [], _ :: _, _ :: _, _, _ => by rw [Op.bytesLess]
  | a :: x, b :: y, c :: z, h1, h2 => by
    rw [less_cons] at *
    rcases h1 with h1 | ⟨rfl, h1⟩
    · rcases h2 with h2 | ⟨rfl, h2⟩
      · exact .inl (UInt8.lt_trans h1 h2)
      · exact .inl h1
    · rcases h2 with h2 | ⟨rfl, h2⟩
      · exact .inl h2
      · exact .inr ⟨rfl, less_trans x y z h1 h2⟩
/-- It begins so. -/
def preL (p x : List UInt8) : Bool := x.take p.length == p
theorem preL_cons (c d : UInt8) (p x : List UInt8) : preL (c :: p) (d :: x) = true ↔ d = c ∧ preL p x = true := by
  unfold preL
  simp
theorem preL_ge : ∀ p x : List UInt8, preL p x = true → Op.bytesLess x p = false
  | [], x, _ => by cases x <;> rw [Op.bytesLess]
  | c :: p, [], h => by simp [preL] at h
  | c :: p, d :: x, h => by
    rw [preL_cons] at h
    obtain ⟨rfl, h⟩ := h
    have := preL_ge p x h
    rw [Bool.eq_false_iff] at *
    intro h2
    rw [less_cons] at h2
    rcases h2 with h2 | ⟨_, h2⟩
    · exact UInt8.lt_irrefl _ h2
    · exact this h2
theorem preL_past : ∀ p x y : List UInt8, Op.bytesLess x p = false → preL p x = false → Op.bytesLess x y = true → preL p y = false
  | [], x, y, _, h, _ => by simp [preL] at h
  | c :: p, [], y, h, _, _ => by rw [Op.bytesLess] at h; cases h
  | c :: p, d :: x, [], _, _, _ => by simp [preL]
  | c :: p, d :: x, e :: y, h1, h2, h3 => by
    rw [Bool.eq_false_iff] at *
    intro h4
    rw [less_cons] at h3
    rw [ne_eq, less_cons] at h1
    rw [preL_cons] at h4
    obtain ⟨rfl, h4⟩ := h4
    rcases h3 with h3 | ⟨rfl, h3⟩
    · exact h1 (.inl h3)
    · have g1 : Op.bytesLess x p = false := by rw [Bool.eq_false_iff]; exact fun h => h1 (.inr ⟨rfl, h⟩)
      have g2 : preL p x = false := by rw [Bool.eq_false_iff]; exact fun h => h2 ((preL_cons _ _ _ _).2 ⟨rfl, h⟩)
      have := preL_past p x y g1 g2 h3
      rw [this] at h4; cases h4
/-- Keys rise. -/
def Rises (l : List IP) : Prop := ∀ i (h : i + 1 < l.length), Op.bytesLess (l[i]'(by omega)).f0.toList l[i + 1].f0.toList = true
theorem Rises.lt {l : List IP} (h : Rises l) : ∀ (d i : Nat) (hd : i + 1 + d < l.length), Op.bytesLess (l[i]'(by omega)).f0.toList (l[i + 1 + d]).f0.toList = true
  | 0, i, hd => h i hd
  | d + 1, i, hd => less_trans _ _ _ (Rises.lt h d i (by omega)) (h (i + 1 + d) (by omega))
theorem Rises.lt' {l : List IP} (h : Rises l) {i j : Nat} (hij : i < j) (hj : j < l.length) : Op.bytesLess (l[i]'(by omega)).f0.toList l[j].f0.toList = true := by
  have := h.lt (j - i - 1) i (by omega)
  have e : i + 1 + (j - i - 1) = j := by omega
  simp only [e] at this
  exact this
theorem fromB_pair (l : List IP) : ∀ (d i j : Nat), fromB l d i = true → i ≤ j → j < i + d → pairB l j = true
  | 0, i, j, _, h1, h2 => by omega
  | d + 1, i, j, h, h1, h2 => by
    rw [fromB, Bool.and_eq_true] at h
    by_cases e : i = j
    · subst e; exact h.1
    · exact fromB_pair l d (i + 1) j h.2 (by omega) (by omega)
theorem storeB_pair {l : List IP} (h : storeB l = true) (i : Nat) (hi : i < l.length) : pairB l i = true := by
  unfold storeB at h
  rw [Bool.and_eq_true] at h
  exact fromB_pair l l.length 0 i h.1 (by omega) (by omega)
theorem storeB_len {l : List IP} (h : storeB l = true) : l.length ≤ 400 := by
  unfold storeB at h
  rw [Bool.and_eq_true, decide_eq_true_iff] at h
  exact h.2
theorem storeB_rises {l : List IP} (h : storeB l = true) : Rises l := by
  intro i hi
  have hp := storeB_pair h (i + 1) hi
  unfold pairB lessB at hp
  rw [Bool.and_eq_true, Bool.and_eq_true, Bool.or_eq_true, decide_eq_true_iff] at hp
  rcases hp.2.2 with h0 | h0
  · omega
  · rw [rdI l (i + 1) hi, show (((i + 1 : Nat) : Int) - 1) = (i : Int) by omega, rdI l i (by omega)] at h0
    exact h0
theorem storeB_key {l : List IP} (h : storeB l = true) : ∀ x ∈ l, (1 ≤ x.f0.size ∧ x.f0.size ≤ 60) ∧ x.f1.size ≤ 1000 := by
  intro x hx
  obtain ⟨i, hi, rfl⟩ := List.getElem_of_mem hx
  have hp := storeB_pair h i hi
  unfold pairB keyB valueB at hp
  rw [Bool.and_eq_true, Bool.and_eq_true, decide_eq_true_iff, decide_eq_true_iff, rdI l i hi] at hp
  exact ⟨hp.1, hp.2.1⟩
theorem atV_spec {l : List IP} (h : Rises l) (key : ByteArray) : ∀ (f i j : Nat), j - i < f → i ≤ j → (hj : j ≤ l.length) →
    (∀ n (hn : n < l.length), n < i → Op.bytesLess l[n].f0.toList key.toList = true) → (∀ n (hn : n < l.length), j ≤ n → Op.bytesLess l[n].f0.toList key.toList = false) →
    (∀ n (hn : n < l.length), n < atV l key f i j → Op.bytesLess l[n].f0.toList key.toList = true) ∧ (∀ n (hn : n < l.length), atV l key f i j ≤ n → Op.bytesLess l[n].f0.toList key.toList = false)
  | 0, i, j, hf, _, _, _, _ => by omega
  | f + 1, i, j, hf, hij, hj, h1, h2 => by
    rw [atV]
    by_cases hlt : i < j
    · rw [if_pos hlt, rdI l ((i + j) / 2) (by omega)]
      split
      · rename_i hm
        refine atV_spec h key f _ _ (by omega) (by omega) hj (fun n hn hni => ?_) h2
        by_cases e : n = (i + j) / 2
        · subst e; exact hm
        · exact less_trans _ _ _ (h.lt' (show n < (i + j) / 2 by omega) (by omega)) hm
      · rename_i hm
        refine atV_spec h key f _ _ (by omega) (by omega) (by omega) h1 (fun n hn hni => ?_)
        by_cases e : n = (i + j) / 2
        · subst e; rw [Bool.eq_false_iff]; exact hm
        · rw [Bool.eq_false_iff]
          intro hc
          exact hm (less_trans _ _ _ (h.lt' (show (i + j) / 2 < n by omega) hn) hc)
    · rw [if_neg hlt]
      exact ⟨h1, fun n hn hni => h2 n hn (by omega)⟩
theorem atOf_spec {l : List IP} (h : Rises l) (key : ByteArray) :
    (∀ n (hn : n < l.length), n < atOf l key → Op.bytesLess l[n].f0.toList key.toList = true) ∧ (∀ n (hn : n < l.length), atOf l key ≤ n → Op.bytesLess l[n].f0.toList key.toList = false) :=
  atV_spec h key (l.length + 1) 0 l.length (by omega) (by omega) (Nat.le_refl _) (fun n _ h => by omega) (fun n hn h => by omega)
end Go.Proofs.YtggemblkhckbpaaGreatDoor.U

/- Rows of pairs that are marked and read again. -/
namespace Go.Proofs.YtggemblkhckbpaaGreatDoor.U
open Go Go.RowKit Go.Proofs.YtggemblkhckbpaaGreatDoor.Q Go.Proofs.YtggemblkhckbpaaGreatDoorW.PrintWords Go.Proofs.YtggemblkhckbpaaGreatDoorW.PrintLast Go.Proofs.YtggemblkhckbpaaGreatDoorW.PrintMore
set_option linter.unusedVariables false
set_option linter.unusedSimpArgs false

theorem wsP (m m' : Nat) (h : m ≤ 9000000000000000000) (e : m' = m + 1) : wrap64 ((m : Int) + 1) = (m' : Int) := by subst e; rw [wid (by omega) (by omega)]; omega
theorem heldPairS_go (l : List IP) (n : Nat) (hN : l.length ≤ 1048576) (hn : n ≤ 1000000) : ∀ (d i : Nat), i + d = l.length →
    Ev (fun k => laws_heldPairS.l0 k (markPs n l) ((n + 2 * i : Nat) : Int) (i : Int)) ((n + 2 * l.length : Nat) : Int) := by
  intro d
  have hlen : (markPs n l).length = l.length := by unfold markPs; simp
  induction d with
  | zero =>
    intro i hi
    refine Ev.step (fun k => ?_) (Ev.now _)
    rw [laws_heldPairS.l0, if_neg (by omega), show i = l.length by omega]
  | succ d ih =>
    intro i hi
    have hlt : i < (markPs n l).length := by omega
    have er : rd_T61 (markPs n l) (i : Int) = markP n i := by
      rw [rdI' _ i hlt]
      simp [markPs]
    refine Ev.step (fun k => by rw [laws_heldPairS.l0, if_pos (by omega), if_pos (by omega), er, wsP (n + 2 * i) (n + 2 * i + 1) (by omega) rfl, wsP (n + 2 * i + 1) (n + 2 * (i + 1)) (by omega) (by omega), wsP i (i + 1) (by omega) rfl]) (Ev.bind (markText_ev _ (by omega)) ?_)
    simp only [markP, if_true]
    refine Ev.bind (markText_ev _ (by omega)) ?_
    simp only [if_true]
    exact ih (i + 1) (by omega)
theorem heldPairS_ev (l : List IP) (n : Nat) (hN : l.length ≤ 1048576) (hn : n ≤ 1000000) : Ev (fun k => laws_heldPairS.f k (markPs n l) (n : Int)) ((n + 2 * l.length : Nat) : Int) := by
  unfold laws_heldPairS.f
  have := heldPairS_go l n hN hn l.length 0 (by omega)
  simpa using this
def chainB (a : ByteArray) : Bool := a.toList == ([120] : List UInt8) || a.toList == ([121] : List UInt8)
theorem chain_size {a : ByteArray} (h : chainB a = true) : a.size = 1 := by
  unfold chainB at h
  rw [Bool.or_eq_true, beq_iff_eq, beq_iff_eq] at h
  have e : a.toList.length = a.size := by rw [Lib.toList_data]; exact size_data a
  rcases h with h | h <;> (rw [h] at e; exact e.symm)
theorem isText_eq (l : List ByteArray) : impl_isText.f l = some (decide (∀ t ∈ l, t.size ≤ 65536)) := by
  unfold impl_isText.f
  simp only [Option.bind_some, Option.some.injEq]
  rw [Bool.eq_iff_iff]
  simp only [Bool.not_eq_true', List.any_eq_false, decide_eq_true_eq]
  constructor
  · intro h t ht; have := h t ht; omega
  · intro h t ht; have := h t ht; omega
theorem rt_of {l : List IP} (h : storeB l = true) : Rt l := rt_store h (fun x hx => ⟨(storeB_key h x hx).1, (storeB_key h x hx).2⟩)
end Go.Proofs.YtggemblkhckbpaaGreatDoor.U

/- Words of 32 bits: the program's operations on them, as operations on bit vectors. -/
namespace Go.Proofs.YtggemblkhckbpaaGreatDoor.U
open Go Go.RowKit Go.Proofs.YtggemblkhckbpaaGreatDoorW.PrintWords Go.Proofs.YtggemblkhckbpaaGreatDoorW.PrintMore
set_option linter.unusedVariables false
set_option linter.unusedSimpArgs false

def u32 (b : BitVec 32) : Int := (b.toNat : Int)
theorem u32_bd (b : BitVec 32) : 0 ≤ u32 b ∧ u32 b < 4294967296 := by
  unfold u32
  have := b.isLt
  omega
theorem u32_wrap (n : Int) : IntKind.u32.wrap n = n % 4294967296 := rfl
theorem u32_nat (n : Nat) : IntKind.u32.wrap (n : Int) = u32 (BitVec.ofNat 32 n) := by
  rw [u32_wrap]
  unfold u32
  rw [BitVec.toNat_ofNat]
  omega
theorem int_b32 (b : BitVec 32) : BitVec.ofInt 32 (u32 b) = b := by
  unfold u32
  apply BitVec.eq_of_toNat_eq
  rw [BitVec.toNat_ofInt]
  have := b.isLt
  omega
theorem of32 (b : BitVec 32) : IntKind.u32.wrap ((b.toNat : Nat) : Int) = u32 b := by rw [u32_nat, BitVec.ofNat_toNat, BitVec.setWidth_eq]
theorem and32 (a b : BitVec 32) : Go.bits .and .u32 (u32 a) (u32 b) = u32 (a &&& b) := by
  show IntKind.u32.wrap (((BitVec.ofInt 32 (u32 a) &&& BitVec.ofInt 32 (u32 b)).toNat : Nat) : Int) = _
  rw [int_b32, int_b32, of32]
theorem or32 (a b : BitVec 32) : Go.bits .or .u32 (u32 a) (u32 b) = u32 (a ||| b) := by
  show IntKind.u32.wrap (((BitVec.ofInt 32 (u32 a) ||| BitVec.ofInt 32 (u32 b)).toNat : Nat) : Int) = _
  rw [int_b32, int_b32, of32]
theorem xor32 (a b : BitVec 32) : Go.bits .xor .u32 (u32 a) (u32 b) = u32 (a ^^^ b) := by
  show IntKind.u32.wrap (((BitVec.ofInt 32 (u32 a) ^^^ BitVec.ofInt 32 (u32 b)).toNat : Nat) : Int) = _
  rw [int_b32, int_b32, of32]
theorem add32 (a b : BitVec 32) : IntKind.u32.wrap (u32 a + u32 b) = u32 (a + b) := by
  unfold u32
  rw [← Int.natCast_add, u32_nat]
  unfold u32
  rw [BitVec.toNat_ofNat, BitVec.toNat_add]
theorem shl32 (a : BitVec 32) (n : Nat) (h : n ≤ 32) : shl .u32 (u32 a) (n : Int) = u32 (a <<< n) := by
  unfold shl
  have e : IntKind.u32.bits = 32 := rfl
  rw [e, Int.toNat_natCast, Nat.min_eq_left h]
  unfold u32
  have e2 : ((a.toNat : Int) * 2 ^ n) = ((a.toNat * 2 ^ n : Nat) : Int) := by push_cast; rfl
  rw [e2, u32_nat]
  unfold u32
  rw [BitVec.toNat_ofNat, BitVec.toNat_shiftLeft, Nat.shiftLeft_eq]
theorem shr32 (a : BitVec 32) (n : Nat) (h : n ≤ 32) : shr .u32 (u32 a) (n : Int) = u32 (a >>> n) := by
  unfold shr
  have e : IntKind.u32.bits = 32 := rfl
  rw [e, Int.toNat_natCast, Nat.min_eq_left h]
  unfold u32
  rw [BitVec.toNat_ushiftRight, Nat.shiftRight_eq_div_pow]
  push_cast
  rfl
theorem not32 (a : BitVec 32) : IntKind.u32.wrap (-(u32 a) - 1) = u32 (~~~a) := by
  rw [u32_wrap]
  unfold u32
  rw [BitVec.toNat_not]
  have := a.isLt
  omega
theorem ch32 (e f g : BitVec 32) : (e &&& f) ||| (~~~e &&& g) = (e &&& f) ^^^ (~~~e &&& g) := by
  apply BitVec.eq_of_getLsbD_eq
  intro i hi
  simp only [BitVec.getLsbD_or, BitVec.getLsbD_and, BitVec.getLsbD_xor, BitVec.getLsbD_not]
  cases e.getLsbD i <;> cases f.getLsbD i <;> cases g.getLsbD i <;> simp [hi]
theorem maj32 (a b c : BitVec 32) : (a &&& b) ||| (a &&& c) ||| (b &&& c) = (a &&& b) ^^^ (a &&& c) ^^^ (b &&& c) := by
  apply BitVec.eq_of_getLsbD_eq
  intro i hi
  simp only [BitVec.getLsbD_or, BitVec.getLsbD_and, BitVec.getLsbD_xor]
  cases a.getLsbD i <;> cases b.getLsbD i <;> cases c.getLsbD i <;> rfl
end Go.Proofs.YtggemblkhckbpaaGreatDoor.U

/- The hash of the program and the hash of the reference are one. -/
namespace Go.Proofs.YtggemblkhckbpaaGreatDoor.U
open Go Go.RowKit Go.Proofs.YtggemblkhckbpaaGreatDoor.Q Go.Proofs.YtggemblkhckbpaaGreatDoorW.PrintWords Go.Proofs.YtggemblkhckbpaaGreatDoorW.PrintLast Go.Proofs.YtggemblkhckbpaaGreatDoorW.PrintMore
set_option linter.unusedVariables false
set_option linter.unusedSimpArgs false

theorem bits_of (op : BinOp) (x y : Int) (f : BitVec 32 → BitVec 32 → BitVec 32) (h : ∀ a b : BitVec 32, Go.bits op .u32 (u32 a) (u32 b) = u32 (f a b)) (hd : Go.bits op .u32 x y = Go.bits op .u32 (u32 (BitVec.ofInt 32 x)) (u32 (BitVec.ofInt 32 y))) : Go.bits op .u32 x y = u32 (f (BitVec.ofInt 32 x) (BitVec.ofInt 32 y)) := hd.trans (h _ _)
theorem andI (x y : Int) : Go.bits .and .u32 x y = u32 (BitVec.ofInt 32 x &&& BitVec.ofInt 32 y) := by
  show IntKind.u32.wrap (((BitVec.ofInt 32 x &&& BitVec.ofInt 32 y).toNat : Nat) : Int) = _
  rw [of32]
theorem orI (x y : Int) : Go.bits .or .u32 x y = u32 (BitVec.ofInt 32 x ||| BitVec.ofInt 32 y) := by
  show IntKind.u32.wrap (((BitVec.ofInt 32 x ||| BitVec.ofInt 32 y).toNat : Nat) : Int) = _
  rw [of32]
theorem xorI (x y : Int) : Go.bits .xor .u32 x y = u32 (BitVec.ofInt 32 x ^^^ BitVec.ofInt 32 y) := by
  show IntKind.u32.wrap (((BitVec.ofInt 32 x ^^^ BitVec.ofInt 32 y).toNat : Nat) : Int) = _
  rw [of32]
theorem turn_eq (x n : Int) : turnV x n = sturnV x n := by
  unfold turnV sturnV
  rw [orI, orI, BitVec.or_comm]
theorem not_bits (a : BitVec 32) : BitVec.ofInt 32 IntKind.u32.max ^^^ a = ~~~a := by
  have e : BitVec.ofInt 32 IntKind.u32.max = BitVec.allOnes 32 := by decide
  rw [e]
  exact BitVec.allOnes_xor
theorem ch_eq (e f g : Int) : Go.bits .or .u32 (Go.bits .and .u32 e f) (Go.bits .and .u32 (Go.bits .xor .u32 IntKind.u32.max e) g) = Go.bits .xor .u32 (Go.bits .and .u32 e f) (Go.bits .and .u32 (Go.bits .xor .u32 IntKind.u32.max e) g) := by
  rw [andI, xorI, andI, or32, xor32, int_b32, not_bits, ch32]
theorem maj_eq (a b c : Int) : Go.bits .or .u32 (Go.bits .or .u32 (Go.bits .and .u32 a b) (Go.bits .and .u32 a c)) (Go.bits .and .u32 b c) = Go.bits .xor .u32 (Go.bits .xor .u32 (Go.bits .and .u32 a b) (Go.bits .and .u32 a c)) (Go.bits .and .u32 b c) := by
  rw [andI, andI, andI, or32, or32, xor32, xor32, maj32]
theorem p5_eq (K W v : List Int) (i : Nat) : impl_blockHash.p5 K W v i = spec_l01Block.p5 K W v i := by
  unfold impl_blockHash.p5 spec_l01Block.p5
  rw [ch_eq, turn_eq, turn_eq, turn_eq]
theorem q5_eq (v : List Int) : impl_blockHash.q5 v = spec_l01Block.q5 v := by
  unfold impl_blockHash.q5 spec_l01Block.q5
  rw [maj_eq, turn_eq, turn_eq, turn_eq]
theorem step_eq (K W v : List Int) (i : Nat) : impl_blockHash.step K W v i = spec_l01Block.step K W v i := by
  unfold impl_blockHash.step spec_l01Block.step
  rw [p5_eq, q5_eq]
  generalize spec_l01Block.p5 K W v i = p
  generalize spec_l01Block.q5 v = q
  rw [show (p % 4294967296 + q % 4294967296) % 4294967296 = (p + q) % 4294967296 by omega, show (rd v 3 + p % 4294967296) % 4294967296 = (rd v 3 + p) % 4294967296 by omega]
theorem rounds_eq (K W v : List Int) : ∀ i, impl_blockHash.rounds K W v i = spec_l01Block.rounds K W v i
  | 0 => rfl
  | i + 1 => by unfold impl_blockHash.rounds spec_l01Block.rounds; rw [rounds_eq K W v i, step_eq]
theorem sg_eq (x a b c : Int) : impl_wordsOf.sg x a b c = spec_l01Block.sg x a b c := by
  unfold impl_wordsOf.sg spec_l01Block.sg
  rw [turn_eq, turn_eq]
theorem upto_eq (b : ByteArray) (B : List Int) (h : ∀ j : Nat, j < 64 → bt b (j : Int) = rd B (j : Int)) : ∀ i, impl_wordsOf.upto b i = spec_l01Block.upto B i
  | 0 => rfl
  | i + 1 => by
    unfold impl_wordsOf.upto spec_l01Block.upto
    rw [upto_eq b B h i]
    congr 1
    unfold impl_wordsOf.at spec_l01Block.at
    by_cases hi : i < 16
    · rw [if_pos hi, if_pos hi]
      unfold impl_wordsOf.wd spec_l01Block.wd
      have h0 := h (4 * i) (by omega)
      have h1 := h (4 * i + 1) (by omega)
      have h2 := h (4 * i + 2) (by omega)
      have h3 := h (4 * i + 3) (by omega)
      rw [show ((4 * i : Nat) : Int) = 4 * (i : Int) by omega] at h0
      rw [show ((4 * i + 1 : Nat) : Int) = 4 * (i : Int) + 1 by omega] at h1
      rw [show ((4 * i + 2 : Nat) : Int) = 4 * (i : Int) + 2 by omega] at h2
      rw [show ((4 * i + 3 : Nat) : Int) = 4 * (i : Int) + 3 by omega] at h3
      rw [h0, h1, h2, h3]
    · rw [if_neg hi, if_neg hi, sg_eq, sg_eq]
theorem eight (l : List Int) (h : l.length = 8) : ∃ a b c d e f g i, l = [a, b, c, d, e, f, g, i] := by
  match l, h with
  | [a, b, c, d, e, f, g, i], _ => exact ⟨a, b, c, d, e, f, g, i, rfl⟩
theorem adds_comm (x y : List Int) (hx : x.length = 8) (hy : y.length = 8) : impl_blockHash.adds x y 8 = impl_blockHash.adds y x 8 := by
  obtain ⟨a, b, c, d, e, f, g, i, rfl⟩ := eight x hx
  obtain ⟨a', b', c', d', e', f', g', i', rfl⟩ := eight y hy
  show [(a + a') % 4294967296, (b + b') % 4294967296, (c + c') % 4294967296, (d + d') % 4294967296, (e + e') % 4294967296, (f + f') % 4294967296, (g + g') % 4294967296, (i + i') % 4294967296] = [(a' + a) % 4294967296, (b' + b) % 4294967296, (c' + c) % 4294967296, (d' + d) % 4294967296, (e' + e) % 4294967296, (f' + f) % 4294967296, (g' + g) % 4294967296, (i' + i) % 4294967296]
  rw [Int.add_comm a, Int.add_comm b, Int.add_comm c, Int.add_comm d, Int.add_comm e, Int.add_comm f, Int.add_comm g, Int.add_comm i]
theorem block_eq (H K : List Int) (b : ByteArray) (B : List Int) (hH : H.length = 8) (h : ∀ j : Nat, j < 64 → bt b (j : Int) = rd B (j : Int)) : impl_blockHash.out H K b = spec_l01Block.v H B K := by
  unfold impl_blockHash.out spec_l01Block.v
  rw [rounds_eq, upto_eq b B h]
  exact adds_comm _ _ (spec_l01Block.rounds_len _ _ _ hH 64) hH
end Go.Proofs.YtggemblkhckbpaaGreatDoor.U

/- The hash of the program and the hash of the reference are one: whole texts. -/
namespace Go.Proofs.YtggemblkhckbpaaGreatDoor.U
open Go Go.RowKit Go.Proofs.YtggemblkhckbpaaGreatDoor.Q Go.Proofs.YtggemblkhckbpaaGreatDoorW.PrintWords Go.Proofs.YtggemblkhckbpaaGreatDoorW.PrintLast Go.Proofs.YtggemblkhckbpaaGreatDoorW.PrintMore
set_option linter.unusedVariables false
set_option linter.unusedSimpArgs false

/-- The bytes of a text as numbers. -/
def bytesI (s : ByteArray) : List Int := s.data.toList.map fun b => (b.toNat : Int)
theorem bytesI_len (s : ByteArray) : (bytesI s).length = s.size := by unfold bytesI; rw [List.length_map, Array.length_toList]; rfl
theorem bt_bytes (s : ByteArray) (j : Nat) : bt s (j : Int) = rd (bytesI s) (j : Int) := by
  show (if h : ((j : Int)).toNat < s.size then ((s[((j : Int)).toNat]'h).toNat : Int) else 0) = (bytesI s).getD ((j : Int)).toNat 0
  rw [Int.toNat_natCast, List.getD_eq_getElem?_getD]
  unfold bytesI
  rw [List.getElem?_map]
  by_cases h : j < s.size
  · rw [dif_pos h]
    have h2 : j < s.data.toList.length := by rw [Array.length_toList]; exact h
    rw [List.getElem?_eq_getElem h2]
    rfl
  · rw [dif_neg h]
    have h2 : s.data.toList.length ≤ j := by rw [Array.length_toList]; exact Nat.le_of_not_lt h
    rw [List.getElem?_eq_none h2]
    rfl
theorem bytesI_append (a b : ByteArray) : bytesI (a ++ b) = bytesI a ++ bytesI b := by
  unfold bytesI
  rw [← List.map_append]
  congr 1
theorem bytesI_nums (l : List Int) (h : ∀ x ∈ l, 0 ≤ x ∧ x < 256) : bytesI (strOfNums l) = l := by
  unfold bytesI strOfNums
  simp only [List.map_map]
  conv => rhs; rw [← List.map_id l]
  apply List.map_congr_left
  intro x hx
  have := h x hx
  simp only [Function.comp, id]
  have e : (UInt8.ofNat x.toNat).toNat = x.toNat := by
    rw [UInt8.toNat_ofNat']
    omega
  rw [e]
  omega
theorem bytesI_zeros (n : Nat) : bytesI (impl_hash.zeros n) = List.replicate n 0 := by
  have key : ∀ n : Nat, (Lib.repeatL [(0 : UInt8)] n).map (fun b => (b.toNat : Int)) = List.replicate n 0 := by
    intro n
    induction n with
    | zero => rfl
    | succ n ih =>
      show ([(0 : UInt8)] ++ Lib.repeatL [(0 : UInt8)] n).map _ = _
      rw [List.map_append, ih, List.replicate_succ]
      rfl
  exact key n
theorem bytesI_n8 (n : Nat) : bytesI (impl_hash.n8 (8 * (n : Int))) = spec_l01Hash.lb n 8 := by
  unfold impl_hash.n8
  rw [bytesI_nums]
  · show _ = [8 * (n : Int) / 2 ^ (8 * (7 - 0)) % 256, 8 * (n : Int) / 2 ^ (8 * (7 - 1)) % 256, 8 * (n : Int) / 2 ^ (8 * (7 - 2)) % 256, 8 * (n : Int) / 2 ^ (8 * (7 - 3)) % 256, 8 * (n : Int) / 2 ^ (8 * (7 - 4)) % 256, 8 * (n : Int) / 2 ^ (8 * (7 - 5)) % 256, 8 * (n : Int) / 2 ^ (8 * (7 - 6)) % 256, 8 * (n : Int) / 2 ^ (8 * (7 - 7)) % 256]
    generalize 8 * (n : Int) = x
    have p0 : (2 : Int) ^ (8 * (7 - 0)) = 72057594037927936 := by rfl
    have p1 : (2 : Int) ^ (8 * (7 - 1)) = 281474976710656 := by rfl
    have p2 : (2 : Int) ^ (8 * (7 - 2)) = 1099511627776 := by rfl
    have p3 : (2 : Int) ^ (8 * (7 - 3)) = 4294967296 := by rfl
    have p4 : (2 : Int) ^ (8 * (7 - 4)) = 16777216 := by rfl
    have p5 : (2 : Int) ^ (8 * (7 - 5)) = 65536 := by rfl
    have p6 : (2 : Int) ^ (8 * (7 - 6)) = 256 := by rfl
    have p7 : (2 : Int) ^ (8 * (7 - 7)) = 1 := by rfl
    rw [p0, p1, p2, p3, p4, p5, p6, p7]
    have q0 : x / 256 / 256 / 256 / 256 / 256 / 256 / 256 % 256 = x / 72057594037927936 % 256 := by omega
    have q1 : x / 256 / 256 / 256 / 256 / 256 / 256 % 256 = x / 281474976710656 % 256 := by omega
    have q2 : x / 256 / 256 / 256 / 256 / 256 % 256 = x / 1099511627776 % 256 := by omega
    have q3 : x / 256 / 256 / 256 / 256 % 256 = x / 4294967296 % 256 := by omega
    have q4 : x / 256 / 256 / 256 % 256 = x / 16777216 % 256 := by omega
    have q5 : x / 256 / 256 % 256 = x / 65536 % 256 := by omega
    have q7 : x % 256 = x / 1 % 256 := by omega
    rw [q0, q1, q2, q3, q4, q5, ← q7]
  · intro x hx
    simp only [List.mem_cons, List.mem_nil_iff, or_false] at hx
    rcases hx with rfl | rfl | rfl | rfl | rfl | rfl | rfl | rfl <;> omega
theorem pad_eq (s : ByteArray) : bytesI (((s ++ (⟨#[128]⟩ : ByteArray)) ++ impl_hash.zeros ((119 - s.size % 64) % 64)) ++ impl_hash.n8 (8 * (s.size : Int))) = spec_l01Hash.pad (bytesI s) := by
  rw [bytesI_append, bytesI_append, bytesI_append, bytesI_zeros, bytesI_n8]
  unfold spec_l01Hash.pad
  rw [bytesI_len, List.nil_append]
  rfl
theorem bytesI_extract (t : ByteArray) (a : Nat) : bytesI (t.extract a (a + 64)) = ((bytesI t).drop a).take 64 := by
  unfold bytesI
  rw [← List.map_drop, ← List.map_take]
  congr 1
  rw [ByteArray.data_extract, Array.toList_extract, List.extract_eq_take_drop]
  rw [Nat.add_sub_cancel_left]
theorem st_eq (K H : List Int) (t : ByteArray) (hH : H.length = 8) : ∀ i, impl_hash.st K H t i = spec_l01Hash.st K H (bytesI t) i
  | 0 => rfl
  | i + 1 => by
    unfold impl_hash.st spec_l01Hash.st
    rw [st_eq K H t hH i]
    refine block_eq _ _ _ _ (spec_l01Hash.st_len K H (bytesI t) hH i) fun j hj => ?_
    rw [bt_bytes, bytesI_extract]
theorem nums_append (a b : List Int) : strOfNums (a ++ b) = strOfNums a ++ strOfNums b := by
  unfold strOfNums
  rw [List.map_append]
  apply ByteArray.ext
  simp [ByteArray.append_eq]
theorem tx_eq (ST : List Int) : ∀ j, impl_hash.tx ST j = strOfNums (spec_l01Hash.ol ST j)
  | 0 => rfl
  | j + 1 => by
    unfold impl_hash.tx spec_l01Hash.ol
    rw [nums_append, tx_eq ST j]
    congr 1
    unfold impl_hash.n4
    have hw : ∃ q : Int, wrap64 (rd ST (j : Int)) = rd ST (j : Int) - q * 18446744073709551616 := by
      have e : wrap64 (rd ST (j : Int)) = IntKind.i64.wrap (rd ST (j : Int)) := (i64_w (rd ST (j : Int))).symm
      rw [e, IntKind.wrap_i64]
      generalize rd ST (j : Int) = x
      refine ⟨(x + 9223372036854775808) / 18446744073709551616, ?_⟩
      omega
    obtain ⟨q, hq⟩ := hw
    rw [hq]
    generalize rd ST (j : Int) = x
    have u8w : ∀ y : Int, IntKind.u8.wrap y = y % 256 := fun y => rfl
    rw [u8w, u8w, u8w, u8w]
    congr 1
    simp only [List.cons.injEq, and_true]
    refine ⟨?_, ?_, ?_, ?_⟩ <;> omega
theorem hash_eq (s : ByteArray) : impl_hash.v s = spec_l01Hash.v (bytesI s) := by
  unfold impl_hash.v spec_l01Hash.v
  rw [tx_eq, st_eq _ _ _ (by rfl), pad_eq, ← bytesI_len, pad_eq]
  rfl
end Go.Proofs.YtggemblkhckbpaaGreatDoor.U

/- Numbers in bytes, as they stand in what is hashed; hashes have 32 bytes. -/
namespace Go.Proofs.YtggemblkhckbpaaGreatDoor.U
open Go Go.RowKit Go.Proofs.YtggemblkhckbpaaGreatDoor.Q Go.Proofs.YtggemblkhckbpaaGreatDoorW.PrintWords Go.Proofs.YtggemblkhckbpaaGreatDoorW.PrintLast Go.Proofs.YtggemblkhckbpaaGreatDoorW.PrintMore
set_option linter.unusedVariables false
set_option linter.unusedSimpArgs false

theorem num1_ev (n : Int) : Ev (fun k => impl_number.f k n 1) (strOfNums [n % 256]) := by
  unfold impl_number.f
  simp only [if_pos (show (0 : Int) ≤ 1 by decide), if_pos (show (1 : Int).toNat ≤ 281474976710656 by decide)]
  refine Ev.step (f := fun k => impl_number.l0 k (n / 256) [n % 256] (-1)) (fun k => ?_) (Ev.step (fun k => by rw [impl_number.l0, if_neg (by decide)]) (Ev.now _))
  have w00 : wrap64 (1 - 1) = 0 := by rw [wid (by decide) (by decide)]; rfl
  have w0 : wrap64 (0 - 1) = -1 := by rw [wid (by decide) (by decide)]; rfl
  rw [w00, impl_number.l0, if_pos (by decide), if_pos (by decide), if_pos (by decide), w0]
  rfl
theorem num4_ev (n : Int) : Ev (fun k => impl_number.f k n 4) (impl_hash.n4 n) := Ev.of (fun k => impl_number.mono _ _ k) (impl_hash.num4 n)
theorem nsz (l : List Int) : (strOfNums l).size = l.length := by simp [strOfNums, ByteArray.size]
theorem b1_bytes (n : Int) : bytesI (strOfNums [n % 256]) = [IntKind.u8.wrap n] := by
  rw [bytesI_nums _ (by intro x hx; simp at hx; omega)]
  rfl
theorem b4_bytes (n : Int) : bytesI (impl_hash.n4 n) = [IntKind.u8.wrap (n / 16777216), IntKind.u8.wrap (n / 65536), IntKind.u8.wrap (n / 256), IntKind.u8.wrap n] := by
  unfold impl_hash.n4
  rw [bytesI_nums _ (by intro x hx; simp at hx; omega)]
  have u8w : ∀ y : Int, IntKind.u8.wrap y = y % 256 := fun y => rfl
  simp only [u8w]
  have e1 : n / 256 / 256 / 256 = n / 16777216 := by omega
  have e2 : n / 256 / 256 = n / 65536 := by omega
  rw [e1, e2]
theorem ol_bd8 (ST : List Int) : ∀ n, ∀ x ∈ spec_l01Hash.ol ST n, 0 ≤ x ∧ x < 256
  | 0, x, hx => absurd hx (by simp [spec_l01Hash.ol])
  | n + 1, x, hx => by
    rw [spec_l01Hash.ol, List.mem_append] at hx
    rcases hx with hx | hx
    · exact ol_bd8 ST n x hx
    · have u8w : ∀ y : Int, IntKind.u8.wrap y = y % 256 := fun y => rfl
      simp only [List.mem_cons, List.mem_nil_iff, or_false, u8w] at hx
      rcases hx with rfl | rfl | rfl | rfl <;> omega
theorem hash_size (L : List Int) : (spec_l01Hash.v L).size = 32 := by
  unfold spec_l01Hash.v
  rw [nsz, spec_l01Hash.ol_len]
theorem firstBytes : bytesI (⟨#[102, 105, 114, 115, 116]⟩ : ByteArray) = [102, 105, 114, 115, 116] := by rfl
/-- What the first header has ahead of it. -/
def firstV : ByteArray := spec_l01Hash.v [102, 105, 114, 115, 116]
end Go.Proofs.YtggemblkhckbpaaGreatDoor.U

/- Packets that are sent: what the program and the reference answer. -/
namespace Go.Proofs.YtggemblkhckbpaaGreatDoor.U
open Go Go.RowKit Go.Proofs.YtggemblkhckbpaaGreatDoor.Q Go.Proofs.YtggemblkhckbpaaGreatDoorW.PrintWords Go.Proofs.YtggemblkhckbpaaGreatDoorW.PrintLast Go.Proofs.YtggemblkhckbpaaGreatDoorW.PrintMore
set_option linter.unusedVariables false
set_option linter.unusedSimpArgs false

def nKey : ByteArray := ⟨#[110, 47, 115, 101, 110, 100]⟩
def twoV (n : Int) : ByteArray := strOfNums ([(wrap64 (48 + (wrap64 (Int.tdiv n 10)))) % 256, (wrap64 (48 + (Int.tmod n 10))) % 256] : List Int)
def cKey (n : Int) : ByteArray := (⟨#[99, 47]⟩ : ByteArray) ++ twoV n
theorem twoV_size (n : Int) : (twoV n).size = 2 := by unfold twoV; rw [nsz]; rfl
theorem cKey_size (n : Int) : (cKey n).size = 4 := by
  unfold cKey
  rw [ByteArray.size_append, twoV_size]
  rfl
theorem commitKey_eq (n : Int) : impl_commitKey.f n = some (cKey n) := by
  have h := twoV_size n
  unfold impl_commitKey.f impl_twoDigits.f
  rw [Option.bind_some]
  exact if_pos (by unfold twoV at h; omega)
theorem l07Key_eq (n : Int) : spec_l07Key.f (⟨#[99]⟩ : ByteArray) n = some (cKey n) := by
  have h := twoV_size n
  unfold spec_l07Key.f
  have e : ((⟨#[99]⟩ : ByteArray) ++ (⟨#[47]⟩ : ByteArray)) = ⟨#[99, 47]⟩ := by rfl
  have e2 : (⟨#[99, 47]⟩ : ByteArray).size = 2 := rfl
  rw [if_pos (by decide), Option.bind_some, e]
  exact if_pos (by unfold twoV at h; omega)
/-- A packet's hash. -/
def packV (q t : Int) (d : ByteArray) : ByteArray := spec_l01Hash.v (([112, 97, 99, 107, 101, 116] : List Int) ++ (([q % 256, t % 256] : List Int) ++ bytesOf d))
theorem specPackHash_eq (q t : Int) (d : ByteArray) (hd : d.size ≤ 500000) : spec_l07Hash.f q t d = some (packV q t d) := by
  unfold spec_l07Hash.f spec_l07Bytes.f
  have hl : (([q % 256, t % 256] : List Int) ++ bytesOf d).length = 2 + d.size := by rw [List.length_append, bytesOf_length]; rfl
  rw [Option.bind_some, if_pos (by simp only [List.length_cons, List.length_nil]; omega), Option.bind_some, if_pos (by rw [hl]; omega), spec_l01Hash.f, if_pos (by rw [List.length_append, hl]; simp only [List.length_cons, List.length_nil]; omega)]
  rfl
theorem packBytes : bytesI (⟨#[112, 97, 99, 107, 101, 116]⟩ : ByteArray) = [112, 97, 99, 107, 101, 116] := by rfl
theorem implPackHash_ev (q t : Int) (d : ByteArray) (hd : d.size ≤ 500000) : Ev (fun k => impl_Packet_hash.f k q t d) (packV q t d) := by
  unfold impl_Packet_hash.f impl_Packet_bytes.f
  have s1 : ∀ n : Int, (strOfNums [n % 256]).size = 1 := fun n => by rw [nsz]; rfl
  have a1 := s1 q
  have a2 := s1 t
  refine Ev.bind (a := (strOfNums [q % 256] ++ strOfNums [t % 256]) ++ d) (Ev.bind (num1_ev q) (Ev.bind (num1_ev t) ?_)) ?_
  · rw [if_pos (by omega), if_pos (by rw [ByteArray.size_append]; omega)]
    exact Ev.now _
  · have hs : ((strOfNums [q % 256] ++ strOfNums [t % 256]) ++ d).size = 2 + d.size := by simp only [ByteArray.size_append]; omega
    have e : impl_hash.f ((⟨#[112, 97, 99, 107, 101, 116]⟩ : ByteArray) ++ ((strOfNums [q % 256] ++ strOfNums [t % 256]) ++ d)) = some (packV q t d) := by
      have e6 : (⟨#[112, 97, 99, 107, 101, 116]⟩ : ByteArray).size = 6 := rfl
      unfold impl_hash.f
      rw [if_pos (by rw [ByteArray.size_append, hs, e6]; omega), hash_eq]
      congr 1
      unfold packV
      congr 1
      simp only [bytesI_append, packBytes, b1_bytes]
      rfl
    rw [if_pos (by rw [hs]; omega), e]
    exact Ev.now _
/-- The changes that a packet makes. -/
noncomputable def sendS (l : List IP) (q t : Int) (d : ByteArray) : List IP × Int := thenV l (putV l nKey (digV q.toNat)) (fun m => putV m (cKey q) (packV q t d))
noncomputable def sendV (l : List IP) (d : ByteArray) (t : Int) : List IP × Int × Int × ByteArray × Int :=
  if amtAt l nKey + 1 > 99 then (l, 0, 0, (⟨#[]⟩ : ByteArray), 7) else if (sendS l (amtAt l nKey + 1) t d).2 = 0 then ((sendS l (amtAt l nKey + 1) t d).1, amtAt l nKey + 1, t, d, 0) else (l, 0, 0, (⟨#[]⟩ : ByteArray), (sendS l (amtAt l nKey + 1) t d).2)
theorem put_n {l : List IP} (h : Rt l) (q : Int) (h1 : q ≤ 99) : Rt (putV l nKey (digV q.toNat)).1 := putV_rt h (by decide) (by decide) (digV_small _ (by omega))
theorem put_c {l : List IP} (h : Rt l) (q t : Int) (d : ByteArray) : Rt (putV l (cKey q) (packV q t d)).1 := putV_rt h (by rw [cKey_size]; decide) (by rw [cKey_size]; decide) (by unfold packV; rw [hash_size]; decide)
theorem sendV_rt {l : List IP} {d : ByteArray} {t : Int} (hr : Rt l) : Rt (sendV l d t).1 := by
  unfold sendV
  have hb := amtAt_bd l nKey
  split
  · exact hr
  · split
    · unfold sendS
      exact thenV_rt hr (put_c (put_n hr _ (by omega)) _ _ _)
    · exact hr
theorem implSend_ev (l : List IP) (d : ByteArray) (t : Int) (hr : Rt l) (hd : d.size ≤ 500000) : Ev (fun k => impl_sendPacket.f k l d t) (sendV l d t) := by
  unfold impl_sendPacket.f sendV
  refine Ev.bind (amountAt_ev l nKey hr) ?_
  have hb := amtAt_bd l nKey
  generalize amtAt l nKey = x at *
  rw [wid (n := x + 1) (by omega) (by omega)]
  generalize hq : x + 1 = q
  by_cases c : q > 99
  · simp only [if_pos c]
    have e : slices_Clone_impl_Pair_impl_Pair.f l = some l := by unfold slices_Clone_impl_Pair_impl_Pair.f; rw [if_pos (by have := hr.1; omega)]
    rw [e]
    exact Ev.now _
  · simp only [if_neg c]
    have ha : Ev (fun k => impl_all.f k l (impl_sendPacket.Fs k q t d)) (sendS l q t d) := by
      unfold sendS
      rw [← seq_two l (fun m => putV m nKey (digV q.toNat)) (fun m => putV m (cKey q) (packV q t d))]
      refine all_ev l hr [fun k m => impl_putAmount.f k m nKey q, fun k m => (impl_commitKey.f q).bind fun key => (impl_Packet_hash.f k q t d).bind fun hh => impl_put.f k m key hh] _ rfl (two_cases (fun m hm => ⟨?_, ?_⟩) (fun m hm => ⟨?_, ?_⟩))
      · have := putAmount_ev m nKey q (by have := hm.1; omega) (by omega) (by omega)
        rwa [if_neg (by omega)] at this
      · exact put_n hm q (by omega)
      · simp only [commitKey_eq, Option.bind_some]
        exact Ev.bind (implPackHash_ev q t d hd) (implPut_ev m _ _ (by have := hm.1; omega))
      · exact put_c hm q t d
    refine Ev.bind ha ?_
    have hbad : ¬ (sendS l q t d).2 = 0 → (sendS l q t d).1 = l := fun h => by
      unfold sendS thenV at *
      split
      · rename_i h1
        rw [if_pos h1] at h
        split
        · rename_i h2
          rw [if_pos h2] at h
          exact absurd rfl h
        · rfl
      · rfl
    generalize sendS l q t d = y at *
    by_cases c2 : y.2 = 0
    · simp only [if_pos c2]; exact Ev.now _
    · simp only [if_neg c2, hbad c2]; exact Ev.now _
theorem specSend_ev (l : List IP) (d : ByteArray) (t : Int) (hr : Rt l) (hd : d.size ≤ 500000) : Ev (fun k => spec_l07Send.f k l d t) (sendV l d t) := by
  unfold spec_l07Send.f sendV
  refine Ev.bind (l05Read_ev l nKey hr) ?_
  have hb := amtAt_bd l nKey
  generalize amtAt l nKey = x at *
  rw [wid (n := x + 1) (by omega) (by omega)]
  generalize hq : x + 1 = q
  by_cases c : q > 99
  · simp only [if_pos c]; exact Ev.now _
  · simp only [if_neg c]
    have e := digits_ev q.toNat (by omega)
    rw [show ((q.toNat : Nat) : Int) = q by omega] at e
    refine Ev.bind e (Ev.bind (specPut_ev l nKey _ (by have := hr.1; omega)) ?_)
    have hm := put_n hr q (by omega)
    unfold sendS thenV
    generalize putV l nKey (digV q.toNat) = p at *
    by_cases c1 : p.2 = 0
    · simp only [if_pos c1, l07Key_eq, specPackHash_eq q t d hd, Option.bind_some]
      refine Ev.bind (specPut_ev p.1 _ _ (by have := hm.1; omega)) ?_
      by_cases c2 : (putV p.1 (cKey q) (packV q t d)).2 = 0
      · simp only [if_pos c2]; exact Ev.now _
      · simp only [if_neg c2]; exact Ev.now _
    · simp only [if_neg c1]; exact Ev.now _
noncomputable def sendX (l : List IP) (d : ByteArray) (t : Int) : List IP × Int × Int × ByteArray × Int :=
  if l.length ≤ 4096 ∧ d.size ≤ 65536 then (if storeB l = true then (if (1 ≤ d.size ∧ d.size ≤ 500) ∧ (1 ≤ t ∧ t ≤ 60) then sendV l d t else ([], 0, 0, (⟨#[]⟩ : ByteArray), 4)) else ([], 0, 0, (⟨#[]⟩ : ByteArray), 1)) else ([], 0, 0, (⟨#[]⟩ : ByteArray), 2)
theorem sendX_len (l : List IP) (d : ByteArray) (t : Int) : (sendX l d t).1.length ≤ 400 := by
  unfold sendX
  split
  · split
    · split
      · exact (sendV_rt (rt_of (by assumption))).1
      · exact Nat.zero_le _
    · exact Nat.zero_le _
  · exact Nat.zero_le _
theorem implSendX_ev (l : List IP) (d : ByteArray) (t : Int) (hl : l.length ≤ 1048576) : Ev (fun k => impl_SendPacket.f k l d t) (sendX l d t) := by
  unfold impl_SendPacket.f sendX
  refine Ev.bind (storeCode_ev l [d] hl) ?_
  simp only [List.any_cons, List.any_nil, Bool.or_false, decide_eq_false_iff_not, gt_iff_lt, Int.not_lt]
  by_cases h0 : l.length ≤ 4096 ∧ d.size ≤ 65536
  · rw [if_pos h0, if_pos ⟨h0.1, by omega⟩]
    cases hs : storeB l with
    | false => simp only [Bool.false_eq_true, if_false, if_neg (show ¬ (1 : Int) = 0 by decide)]; exact Ev.now _
    | true =>
      simp only [if_true]
      have e : impl_PacketOK.f 1 t d = some (decide ((1 ≤ d.size ∧ d.size ≤ 500) ∧ (1 ≤ t ∧ t ≤ 60))) := by
        unfold impl_PacketOK.f
        simp only [within_eq, Option.bind_some, decide_eq_true (show (1 : Int) ≤ 1 ∧ (1 : Int) ≤ 99 by decide), if_true]
        by_cases ht : 1 ≤ t ∧ t ≤ 60
        · rw [if_pos (decide_eq_true ht)]
          congr 1
          exact decide_eq_decide.2 ⟨fun h => ⟨by omega, ht⟩, fun h => by omega⟩
        · rw [if_neg (by rw [decide_eq_true_iff]; exact ht), decide_eq_false (fun h => ht h.2)]
      simp only [e, Option.bind_some]
      by_cases hc : (1 ≤ d.size ∧ d.size ≤ 500) ∧ (1 ≤ t ∧ t ≤ 60)
      · simp only [decide_eq_true hc, if_true, if_pos hc]
        exact Ev.bind (implSend_ev l d t (rt_of hs) (by omega)) (Ev.now _)
      · simp only [decide_eq_false hc, Bool.false_eq_true, if_false, if_neg hc]; exact Ev.now _
  · rw [if_neg h0, if_neg (fun h => h0 ⟨h.1, by omega⟩)]
    simp only [if_neg (show ¬ (2 : Int) = 0 by decide)]
    exact Ev.now _
theorem specSendX_ev (l : List IP) (d : ByteArray) (t : Int) (hl : l.length ≤ 1048576) : Ev (fun k => spec_SendPacket.f k l d t) (sendX l d t) := by
  unfold spec_SendPacket.f sendX
  by_cases h1 : (4096 : Int) < (l.length : Int)
  · simp only [if_pos h1, if_neg (show ¬ (l.length ≤ 4096 ∧ d.size ≤ 65536) by omega)]; exact Ev.now _
  simp only [if_neg h1]
  by_cases h2 : (65536 : Int) < (d.size : Int)
  · simp only [if_pos h2, if_neg (show ¬ (l.length ≤ 4096 ∧ d.size ≤ 65536) by omega)]; exact Ev.now _
  simp only [if_neg h2, if_pos (show l.length ≤ 4096 ∧ d.size ≤ 65536 by omega)]
  refine Ev.bind (specStoreOK_ev l hl) ?_
  cases hs : storeB l with
  | false => simp only [Bool.false_eq_true, if_false]; exact Ev.now _
  | true =>
    simp only [if_true, l01In_eq, Option.bind_some]
    by_cases hd : (1 : Int) ≤ (d.size : Int) ∧ (d.size : Int) ≤ 500
    · simp only [decide_eq_true hd, if_true]
      by_cases ht : 1 ≤ t ∧ t ≤ 60
      · simp only [decide_eq_true ht, if_true, if_pos (show (1 ≤ d.size ∧ d.size ≤ 500) ∧ (1 ≤ t ∧ t ≤ 60) by omega)]
        refine Ev.bind (specSend_ev l d t (rt_of hs) (by omega)) ?_
        rw [if_pos (by have := (sendV_rt (d := d) (t := t) (rt_of hs)).1; omega)]
        exact Ev.now _
      · simp only [decide_eq_false ht, Bool.false_eq_true, if_false, if_neg (show ¬ ((1 ≤ d.size ∧ d.size ≤ 500) ∧ (1 ≤ t ∧ t ≤ 60)) from fun h => ht h.2)]; exact Ev.now _
    · simp only [decide_eq_false hd, Bool.false_eq_true, if_false, if_neg (show ¬ ((1 ≤ d.size ∧ d.size ≤ 500) ∧ (1 ≤ t ∧ t ≤ 60)) by omega)]; exact Ev.now _
end Go.Proofs.YtggemblkhckbpaaGreatDoor.U

/- SendPacket of the program answers what the reference's answers: for every store, text and number. -/
namespace Go.Proofs.YtggemblkhckbpaaGreatDoor.Pure
open Go Go.RowKit Go.Proofs.YtggemblkhckbpaaGreatDoor.Q Go.Proofs.YtggemblkhckbpaaGreatDoor.U Go.Proofs.YtggemblkhckbpaaGreatDoorW.PrintWords Go.Proofs.YtggemblkhckbpaaGreatDoorW.PrintLast Go.Proofs.YtggemblkhckbpaaGreatDoorW.PrintMore
set_option linter.unusedVariables false
set_option linter.unusedSimpArgs false
theorem FnExactSendPacket (aList : List LP) (h_aList : aList.length ≤ maxLen ∧ ∀ x ∈ aList, (x.f0.size ≤ maxLen ∧ x.f1.size ≤ maxLen)) (aData : ByteArray) (h_aData : aData.size ≤ maxLen) (aTimeout : Int) (h_aTimeout : (Lit.int .i64 aTimeout).wf = true) : ∃ k, laws_FnExactSendPacket.f k aList aData aTimeout = some true := by
  refine Ev.rounds (?_ : Ev (fun k => laws_FnExactSendPacket.f k aList aData aTimeout) true)
  have hm : maxLen = 9223372036854775807 := rfl
  rw [hm] at h_aList
  unfold laws_FnExactSendPacket.f
  by_cases q0 : (aData.size : Int) > 1048576
  · simp only [if_pos q0]; exact Ev.now _
  simp only [if_neg q0]
  obtain ⟨z, e, hz⟩ := szPairS_ev aList 1048576 h_aList.1 h_aList.2 (by decide) (by decide)
  refine Ev.bind e ?_
  by_cases hneg : z < 0
  · simp only [if_pos hneg]; exact Ev.now _
  simp only [if_neg hneg]
  rcases hz with hz | ⟨_, _, hs⟩
  · exact absurd hz hneg
  have hl : (aList.map toP).length ≤ 1048576 := by rw [List.length_map]; exact hs.1
  have hlen := sendX_len (aList.map toP) aData aTimeout
  have ti := implSendX_ev (aList.map toP) aData aTimeout hl
  have ts := specSendX_ev (aList.map toP) aData aTimeout hl
  generalize hX : sendX (aList.map toP) aData aTimeout = r at hlen ti ts
  clear hX
  obtain ⟨r0, r1, r2, r3, r4⟩ := r
  simp only at hlen
  have tp := toPairS_ev aList hs.1
  have e0 := eqPairS_ev r0 (by omega)
  have e1 := eqPairS_ev (aList.map toP) hl
  have m1 := markPairS_ev (aList.map toP) 1 hl (by decide)
  have m2 := markPairS_ev r0 1 (by omega) (by decide)
  have hd := heldPairS_ev r0 1 (by omega) (by decide)
  have ek : laws_eqPacket.f r1 r2 r3 r1 r2 r3 = some true := by
    unfold laws_eqPacket.f
    rw [if_pos rfl, if_pos rfl, if_pos rfl]
  have one : ((1 : Nat) : Int) = 1 := rfl
  rw [one] at m1 m2 hd
  refine Ev.bind tp (Ev.bind ts (Ev.bind tp (Ev.bind ti (Ev.bind e0 ?_))))
  simp only [if_true, ek, Option.bind_some, bne_self_eq_false, Bool.false_eq_true, if_false]
  refine Ev.step (fun k => by rw [laws_FnExactSendPacket.j0, if_neg (by decide)]) (Ev.bind tp (Ev.bind e1 ?_))
  simp only [if_true]
  refine Ev.bind m1 ?_
  simp only [if_neg (show ¬ ((1 + 2 * (aList.map toP).length : Nat) : Int) < 0 by omega)]
  refine Ev.bind e0 ?_
  simp only [if_true, ek, Option.bind_some, bne_self_eq_false, Bool.false_eq_true, if_false]
  refine Ev.step (fun k => by rw [laws_FnExactSendPacket.j1, if_neg (by decide)]) (Ev.bind m2 (Ev.bind hd ?_))
  simp only [if_neg (show ¬ ((1 + 2 * r0.length : Nat) : Int) < 0 by omega), if_true]
  refine Ev.bind tp (Ev.bind ti (Ev.bind e0 ?_))
  simp only [if_true, ek, Option.bind_some, bne_self_eq_false, Bool.false_eq_true, if_false]
  refine Ev.step (fun k => by rw [laws_FnExactSendPacket.j2, if_neg (by decide)]) (Ev.bind hd ?_)
  simp only [if_neg (show ¬ ((1 + 2 * r0.length : Nat) : Int) < 0 by omega), if_true]
  exact Ev.now _
end Go.Proofs.YtggemblkhckbpaaGreatDoor.Pure

/- An argument of a law, whatever its type: read whole from what was handed over. -/
namespace Go.Proofs.YtggemblkhckbpaaGreatDoor.U
open Go Go.ChangeShapes Go.WideShapes Go.ChangeAt Go.RowKit Go.Proofs.YtggemblkhckbpaaGreatDoorW.PrintWords
set_option linter.unusedVariables false
set_option linter.unusedSimpArgs false

theorem addr_add_add (a : Addr) (i j : Nat) : (a.add i).add j = a.add (i + j) := by
  unfold Addr.add
  by_cases h0 : i = 0
  · subst h0; simp
  by_cases h1 : j = 0
  · subst h1; simp
  rw [if_neg h0, if_neg h1, if_neg (by omega)]
  simp only [Nat.add_assoc]
/-- What is handed over as a t can be read as a d. -/
structure Opens {α : Type} (P : Program) (t : TypeId) (d : Kd α) (wf : α → Prop) : Prop where
  out : ∀ {H : Type} (enc : TypeId × Value → H) (w : World) (base : Nat) (sp : Nat → Bool) (held : Bool) (n : Nat) (cs : List Value) (x : DataW H × List MemPlace),
    DataW.trod enc P w base sp held n t cs = some x → ∃ a, d.K w a cs ∧ wf a
theorem Opens.int {P : Program} {t : TypeId} {k : IntKind} (ht : P.underlying t = some (.int k)) : Opens P t (Kd.int k) (fun n => (Lit.int k n).wf = true) := by
  constructor
  intro H enc w base sp held n cs x h
  obtain ⟨m, rfl, rfl, hw⟩ := DataW.trod_int ht h
  exact ⟨m, rfl, hw⟩
theorem Opens.bool {P : Program} {t : TypeId} (ht : P.underlying t = some .bool) : Opens P t Kd.bool (fun _ => True) := by
  constructor
  intro H enc w base sp held n cs x h
  obtain ⟨m, rfl, rfl⟩ := DataW.trod_bool ht h
  exact ⟨m, rfl, trivial⟩
theorem Opens.string {P : Program} {t : TypeId} (ht : P.underlying t = some .string) : Opens P t Kd.string (fun s => s.size ≤ maxLen) := by
  constructor
  intro H enc w base sp held n cs x h
  obtain ⟨m, rfl, rfl, hw⟩ := DataW.trod_string ht h
  exact ⟨m, rfl, hw⟩
theorem all_of_each {α : Type} : ∀ (n : Nat) (p : Nat → α → Prop), (∀ i, i < n → ∃ a, p i a) → ∃ xs : List α, xs.length = n ∧ ∀ i a, xs[i]? = some a → p i a
  | 0, _, _ => ⟨[], rfl, fun i a h => by simp at h⟩
  | n + 1, p, h => by
    obtain ⟨a, ha⟩ := h 0 (by omega)
    obtain ⟨xs, hl, hx⟩ := all_of_each n (fun i => p (i + 1)) (fun i hi => h (i + 1) (by omega))
    refine ⟨a :: xs, by simp [hl], fun i b hb => ?_⟩
    cases i with
    | zero => simp at hb; subst hb; exact ha
    | succ j => exact hx j b (by simpa using hb)
theorem Opens.slice {α : Type} {P : Program} {t e : TypeId} {d : Kd α} {wf : α → Prop} (ht : P.underlying t = some (.slice e)) (hs : P.cellsOf e = d.sz) (hd : Opens P e d wf) :
    Opens P t (Kd.slice e d) (fun xs => xs.length ≤ maxLen ∧ ∀ x ∈ xs, wf x) := by
  constructor
  intro H enc w base sp held n cs x h
  rcases DataW.trod_slice ht h with ⟨rfl, rfl⟩ | ⟨a, len, cap, elems, rest, m, rfl, rfl, rfl, hb, hl, hm, hlen, hel, _, _⟩
  · exact ⟨[], ⟨none, 0, rfl, by simp, rfl, by simp, by simp⟩, by simp, by simp⟩
  obtain ⟨xs, hxl, hx⟩ := all_of_each len (fun i y => wf y ∧ ∃ c, c.length = d.sz ∧ d.K w y c ∧ ∀ j u, c[j]? = some u → w.cell? (a.add (i * d.sz + j)) = some u) (fun i hi => by
    have h1 := hel i hi
    rw [List.getElem?_eq_getElem (by omega)] at h1
    obtain ⟨c, hc, hy⟩ := Option.bind_eq_some_iff.mp h1
    obtain ⟨_, hcl, hcell⟩ := World.cells?_some hc
    obtain ⟨y, hk, hw⟩ := hd.out _ _ _ _ _ _ _ _ hy
    refine ⟨y, hw, c, by omega, hk, fun j u hu => ?_⟩
    have hj : j < P.cellsOf e := by
      rcases Nat.lt_or_ge j c.length with h' | h'
      · omega
      · rw [List.getElem?_eq_none h'] at hu; cases hu
    have h2 := hcell j hj
    rw [hu] at h2
    rw [← hs, ← h2, addr_add_add])
  subst hxl
  refine ⟨xs, ⟨some a, cap, rfl, hl, rfl, by have : maxLen = 9223372036854775807 := rfl; omega, fun _ => ⟨a, rfl, fun j p hp => (hx j p hp).2⟩⟩, by omega, fun x hxm => ?_⟩
  obtain ⟨i, hi, rfl⟩ := List.getElem_of_mem hxm
  exact (hx i _ (List.getElem?_eq_getElem hi)).1
/-- The fields of a struct, from a cell on. -/
structure OpensF {α : Type} (P : Program) (fs : List Field) (off : Nat) (d : Kd α) (wf : α → Prop) : Prop where
  out : ∀ {H : Type} (enc : TypeId × Value → H) (w : World) (base : Nat) (sp : Nat → Bool) (held : Bool) (n : Nat) (cs : List Value),
    cs.length = off + d.sz → (∀ f ∈ fs, ∃ y, DataW.trod enc P w base sp held n f.type ((cs.drop f.offset).take (P.cellsOf f.type)) = some y) → ∃ a, d.K w a (cs.drop off) ∧ wf a
theorem OpensF.one {α : Type} {P : Program} {f : Field} {d : Kd α} {wf : α → Prop} (hd : Opens P f.type d wf) (hs : P.cellsOf f.type = d.sz) : OpensF P [f] f.offset d wf := by
  constructor
  intro H enc w base sp held n cs hl hf
  obtain ⟨y, hy⟩ := hf f (by simp)
  rw [List.take_of_length_le (by rw [List.length_drop]; omega)] at hy
  exact hd.out _ _ _ _ _ _ _ _ hy
theorem OpensF.cons {α β : Type} {P : Program} {f : Field} {fs : List Field} {d : Kd α} {d1 : Kd β} {wf : α → Prop} {wf1 : β → Prop} (hd : Opens P f.type d wf) (hs : P.cellsOf f.type = d.sz) (h1 : OpensF P fs (f.offset + d.sz) d1 wf1) :
    OpensF P (f :: fs) f.offset (Kd.pair d d1) (fun p => wf p.1 ∧ wf1 p.2) := by
  constructor
  intro H enc w base sp held n cs hl hf
  have hl' : cs.length = f.offset + (d.sz + d1.sz) := hl
  obtain ⟨y, hy⟩ := hf f (by simp)
  obtain ⟨a, ha, wa⟩ := hd.out _ _ _ _ _ _ _ _ hy
  obtain ⟨b, hb, wb⟩ := h1.out enc w base sp held n cs (by omega) (fun g hg => hf g (by simp [hg]))
  refine ⟨(a, b), ⟨_, _, ?_, ha, hb⟩, wa, wb⟩
  rw [hs, ← List.drop_drop, List.take_append_drop]
theorem Opens.struct {α : Type} {P : Program} {t : TypeId} {fs : Array Field} {d : Kd α} {wf : α → Prop} (ht : P.underlying t = some (.struct fs)) (hs : P.cellsOf t = d.sz) (hf : OpensF P fs.toList 0 d wf) : Opens P t d wf := by
  constructor
  intro H enc w base sp held n cs x h
  obtain ⟨xs, m, rfl, rfl, hl, hxl, hx⟩ := DataW.trod_struct ht h
  have := hf.out enc w base sp held m cs (by omega) (fun f hfm => by
    obtain ⟨i, hi, rfl⟩ := List.getElem_of_mem hfm
    have hi' : i < fs.size := by simpa using hi
    refine ⟨xs[i]'(by omega), ?_⟩
    rw [hx i _ (by simp [hi'])]
    rw [List.getElem?_eq_getElem])
  simpa using this
theorem Opens.iso {α β : Type} {P : Program} {t : TypeId} {d : Kd α} {wf : α → Prop} {f : β → α} (h : Opens P t d wf) (g : ∀ a, ∃ b, f b = a) : Opens P t (Kd.iso d f) (fun b => wf (f b)) := by
  constructor
  intro H enc w base sp held n cs x hx
  obtain ⟨a, ha, wa⟩ := h.out enc w base sp held n cs x hx
  obtain ⟨b, rfl⟩ := g a
  exact ⟨b, ha, wa⟩
end Go.Proofs.YtggemblkhckbpaaGreatDoor.U
