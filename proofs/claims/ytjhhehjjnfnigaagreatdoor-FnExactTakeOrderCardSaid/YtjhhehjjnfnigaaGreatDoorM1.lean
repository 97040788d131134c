/- Parts of the proof: what single Go functions compute, each with its walk, and plain laws over these. -/
import Derived.Test.YtjhhehjjnfnigaaGreatDoorVMac
import Derived.Test.YtjhhehjjnfnigaaGreatDoorM0
namespace Go.Proofs.YtjhhehjjnfnigaaGreatDoor.Q
open Go.RowKit Go.Proofs.YtjhhehjjnfnigaaGreatDoorW.PrintWords Go.Proofs.YtjhhehjjnfnigaaGreatDoorW.PrintLast Go.Proofs.YtjhhehjjnfnigaaGreatDoorW.PrintMore
open Go.Proofs.YtjhhehjjnfnigaaGreatDoorW.PrintWords renaming cell_far → δt, gate_dst → δx, below_step → δr, gate_callee → δv, below_size → δs, blk_cell → δl, blk_frozen → δm, blk_put → δw, below_set → δq, blk_drew → δp, below_drew1 → δj, pw_below_drewN → δi, blk_drewN → δn
open Go.Proofs.YtjhhehjjnfnigaaGreatDoorW.PrintWords.Aside0 renaming mk → ζa
open Go.Act renaming put → ζl
open List renaming setIfInBounds_toArray → δa, set_cons_zero → δb, set_cons_succ → δc
open Go.Proofs.YtjhhehjjnfnigaaGreatDoorW.PrintWords.Kd renaming R_drew → ζe, R_reads' → ζg, R_below → ζh, R_drewN → ζc, R_ne → ζf, R_far → ζi
open Go.Proofs.YtjhhehjjnfnigaaGreatDoorW.PrintLast renaming pure_ → ζk, any_of → ζj
open Bool renaming true → τ, false → φ
attribute [local go_sem] max2_int min2_int max_two min_two max_three min_three max_four min_four   -- for this text's walks alone
set_option linter.unusedVariables false
set_option linter.unusedSimpArgs false
set_option maxHeartbeats 8000000
set_option maxRecDepth 100000

/-! ### spec_l09Read: function 44 -/
def spec_l09Read.j0:Nat→ByteArray→List ByteArray→Bool→Option (ByteArray × ByteArray × Int × Int × Int × Bool × Bool)
 | 0,_,_,_=>none
 | k+1,x0,x6,x20=>if x20=τ then (some ((⟨#[]⟩:ByteArray),(⟨#[]⟩:ByteArray),0,0,0,φ,φ)) else (if 0<(x6.length:Int) then (if 1<(x6.length:Int) then ((spec_l02Of.f k (rdOf ByteArray.empty x6 1)).bind fun t171=>(if 2<(x6.length:Int) then ((spec_l02Of.f k (rdOf ByteArray.empty x6 2)).bind fun t173=>(if 3<(x6.length:Int) then ((spec_l02Of.f k (rdOf ByteArray.empty x6 3)).bind fun t175=>(if 4<(x6.length:Int) then ((spec_OrderOK.f k x0 (rdOf ByteArray.empty x6 0) t171 t173 t175 ((rdOf ByteArray.empty x6 4).toList == ([111,112,101,110]:List UInt8))).bind fun t178=>(if t178=τ then (if (rdOf ByteArray.empty x6 4).toList=([111,112,101,110]:List UInt8) then (some (x0,rdOf ByteArray.empty x6 0,t171,t173,t175,((rdOf ByteArray.empty x6 4).toList == ([111,112,101,110]:List UInt8)),τ)) else (some (x0,rdOf ByteArray.empty x6 0,t171,t173,t175,((rdOf ByteArray.empty x6 4).toList == ([111,112,101,110]:List UInt8)),((rdOf ByteArray.empty x6 4).toList == ([99,108,111,115,101,100]:List UInt8))))) else (some (x0,rdOf ByteArray.empty x6 0,t171,t173,t175,((rdOf ByteArray.empty x6 4).toList == ([111,112,101,110]:List UInt8)),φ)))) else (none))) else (none))) else (none))) else (none)) else (none))
def spec_l09Read.f (k:Nat) (a0:ByteArray) (a1:ByteArray):Option (ByteArray × ByteArray × Int × Int × Int × Bool × Bool):=(spec_l02Read.f k a1).bind fun bt165=>(if bt165.2=τ then (spec_l09Read.j0 k a0 bt165.1 ((bt165.1.length:Int) != 5)) else (spec_l09Read.j0 k a0 bt165.1 τ))
def spec_l09Read.T4:Bool × List (List Nat × List Nat):=(τ,[([],[]),([],[]),([1],[1]),([2],[2]),([],[]),([4],[4]),([5],[5]),([6],[6]),([],[]),([8],[8]),([9],[9]),([10,7],[10]),([],[]),([12],[12]),([13],[13]),([14,11],[14]),([],[]),([16],[16]),([17],[17]),([18],[18]),([0,3,7,11,15,19],[0,3,7,11,15,19]),([],[]),([21,20,15,0,1,2,3,4,5,6,7,8,9,10,11,12,13,14,15,16,17,18,19,20,21],[20,21])])
def spec_l09Read.B4:List Nat:=[0,0,2,6,0,16,48,112,0,256,768,2032,0,4096,12288,32752,0,65536,196608,458752,1048575,0,4194303]
theorem spec_l09Read.tab4:rtab .any (opsOf Tryz.f44 4)=spec_l09Read.T4:=by kernel_rfl
theorem spec_l09Read.bits4:waitsOk spec_l09Read.T4.2 spec_l09Read.B4=τ:=by kernel_rfl
def spec_l09Read.T5:Bool × List (List Nat × List Nat):=(τ,[([],[]),([],[]),([1],[1]),([2,2],[2]),([3],[3]),([4,3],[3,4]),([5,3,3],[3,5]),([6],[6]),([7,6],[6,7]),([8,6],[6,8]),([9,6],[6,9]),([6,10,3],[3,6,10]),([3,11],[3,11]),([0,6,0],[0]),([12,13,0,1,2,3,4,5,6,7,8,9,10,11,12,13],[12])])
def spec_l09Read.B5:List Nat:=[0,0,2,6,14,30,62,126,254,510,1022,2046,4094,127,16383]
theorem spec_l09Read.tab5:rtab .any (opsOf Tryz.f44 5)=spec_l09Read.T5:=by kernel_rfl
theorem spec_l09Read.bits5:waitsOk spec_l09Read.T5.2 spec_l09Read.B5=τ:=by kernel_rfl
theorem spec_l09Read.far6 {W:World} {g:Nat} {a:Addr} {i0 i1 i2 i3 i4 i5:Nat} (h:a.block≠g) (u0 u1 u2 u3 u4 u5:Value):((((((W.setCell ⟨g,i0,none⟩ u0).setCell ⟨g,i1,none⟩ u1).setCell ⟨g,i2,none⟩ u2).setCell ⟨g,i3,none⟩ u3).setCell ⟨g,i4,none⟩ u4).setCell ⟨g,i5,none⟩ u5).cell? a=W.cell? a :=
 (δt (p:=⟨g,i5,none⟩) h _).trans ((δt (p:=⟨g,i4,none⟩) h _).trans ((δt (p:=⟨g,i3,none⟩) h _).trans ((δt (p:=⟨g,i2,none⟩) h _).trans ((δt (p:=⟨g,i1,none⟩) h _).trans (δt (p:=⟨g,i0,none⟩) h _)))))
theorem spec_l09Read.calls (k:Nat) (a0:ByteArray) (a1:ByteArray) (r1:ByteArray) (r2:ByteArray) (r3:Int) (r4:Int) (r5:Int) (r6:Bool) (r7:Bool) (w:World) (h:spec_l09Read.f k a0 a1=some (r1,r2,r3,r4,r5,r6,r7)) :
  Calls Tryz.prog 44 #[.string a0,.string a1] w fun e w'=>e = .returned (.tuple #[.agg #[.string r1,.string r2,.int .i64 r3,.int .i64 r4,.int .i64 r5,.bool r6],.bool r7])∧Below w.heap.size w w':=by
 have hu46:=Tryz.underlying46
 have HB:=ζa (Below.refl w.heap.size w)
 have H:((spec_l02Read.f k a1).bind fun bt165=>(if bt165.2=τ then (spec_l09Read.j0 k a0 bt165.1 ((bt165.1.length:Int) != 5)) else (spec_l09Read.j0 k a0 bt165.1 τ)))=some (r1,r2,r3,r4,r5,r6,r7):=h
 clear h
 obtain ⟨⟨t165,t166⟩,A3,H⟩:=bsm H
 dsimp only at H
 have HC4:=ζa H
 clear H
 go_enter Tryz.func44,Tryz.ntmps44
 go_upto_region 2 with (first|((with_reducible refine δx (N:=4) rfl ?_);(try (refine gate_guard (by rfl) ?_;dsimp only));refine bev 4 #[.string (⟨#[]⟩:ByteArray),.string (⟨#[]⟩:ByteArray),.int .i64 0,.int .i64 0,.int .i64 0,.bool φ] 46 ?_;intro gb164 hg w5 hbox hb;have BK164:=ζa (hbox);have GW164:=ζa (gbw hg (by exact HB.out));have GE164:=ζa (gbw hg (by exact HB.out));replace HB:=ζa (δr (by exact HB.out) hb);clear hb hbox hg)|((with_reducible refine δv (f:=39) rfl ?_);refine gl 11 Tryz.func39 #[.string a1] ?_;(with_reducible refine (spec_l02Read.calls k a1 t165 t166 _ A3.out).mono ?_);rintro e w6 ⟨v167,rfl,ho0,hb⟩;refine ⟨_,rfl,?_⟩;have HO168:=ζa (Kd.R_lower ho0 (δs (by exact HB.out)));replace BK164:=ζa (blk_below (g:=gb164) (o:=.cells #[.string (⟨#[]⟩:ByteArray),.string (⟨#[]⟩:ByteArray),.int .i64 0,.int .i64 0,.int .i64 0,.bool φ] 46 (0,0)) (by exact BK164.out) hb);replace HB:=ζa (δr (by exact HB.out) hb);(try clear hb);(try clear hb2);(try clear hk);(try clear hi);(try clear ho0)))
 (try simp only [ζl,δa,δb,δc])
 go_cut [20] (fun v20 wc => ∃ (kq:Nat) (x20_3:Bool),v20 = .bool x20_3∧Aside0 (spec_l09Read.j0 kq a0 t165 x20_3=some (r1,r2,r3,r4,r5,r6,r7))∧Aside0 (kq≤k)∧Aside0 (Kd.R Kd.string 9 wc w.heap.size (fun _=>True) v167 t165)∧Aside0 (wc.heap[gb164]? = some (.cells #[.string (⟨#[]⟩:ByteArray),.string (⟨#[]⟩:ByteArray),.int .i64 0,.int .i64 0,.int .i64 0,.bool φ] 46 (0,0)))∧Aside0 (Below w.heap.size w wc))
 case first =>
  have H:=HC4.out
  clear HC4
  by_cases c7:t166=τ
  ·
   subst c7
   rw [ifT] at H
   have H':=ζa H
   clear H
   obtain ⟨Ao8,co8,eo8⟩:=Kd.R_slice HO168.out
   subst eo8
   go_wp2
   go_meet
   case rel=>exact ⟨_,(((t165.length:Int) != 5)),(by rfl),H',⟨by omega⟩,⟨by exact HO168.out⟩,⟨by exact BK164.out⟩,⟨by repeat ((with_reducible exact HB.out))⟩⟩
  ·
   replace c7:=Bool.eq_false_iff.mpr c7
   subst c7
   rw [ifF] at H
   have H':=ζa H
   clear H
   go_wp2
   go_meet
   case rel=>exact ⟨_,(τ),(by rfl),H',⟨by omega⟩,⟨by exact HO168.out⟩,⟨by exact BK164.out⟩,⟨by repeat ((with_reducible exact HB.out))⟩⟩
 case rest =>
  clear HC4
  try clear p2
  try clear c3
  try clear c4
  try clear c7
  obtain ⟨kq,x20_3,rfl,HA,HJ3,HO_6,BK164,HB⟩:=hcut
  cases kq with
  | zero=>exact absurd HA.out (by simp [spec_l09Read.j0])
  | succ kj3 =>
   have H:=HA.out
   clear HA
   simp only [spec_l09Read.j0] at H
   by_cases c9:x20_3=τ
   ·
    subst c9
    rw [ifT] at H
    simp only [Option.some.injEq,Prod.mk.injEq] at H
    obtain ⟨rfl,rfl,rfl,rfl,rfl,rfl,rfl⟩:=H
    have hcz10_0:wc.cell? ⟨gb164,0,none⟩=some (.string (⟨#[]⟩:ByteArray)):=(δl BK164.out 0).trans rfl
    have hcz10_1:wc.cell? ⟨gb164,1,none⟩=some (.string (⟨#[]⟩:ByteArray)):=(δl BK164.out 1).trans rfl
    have hcz10_2:wc.cell? ⟨gb164,2,none⟩=some (.int .i64 0):=(δl BK164.out 2).trans rfl
    have hcz10_3:wc.cell? ⟨gb164,3,none⟩=some (.int .i64 0):=(δl BK164.out 3).trans rfl
    have hcz10_4:wc.cell? ⟨gb164,4,none⟩=some (.int .i64 0):=(δl BK164.out 4).trans rfl
    have hcz10_5:wc.cell? ⟨gb164,5,none⟩=some (.bool φ):=(δl BK164.out 5).trans rfl
    have hfz10_0:=δm BK164.out 0
    have hfz10_1:=δm BK164.out 1
    have hfz10_2:=δm BK164.out 2
    have hfz10_3:=δm BK164.out 3
    have hfz10_4:=δm BK164.out 4
    have hfz10_5:=δm BK164.out 5
    go_wp2
    refine bodyPost_ret (results_ct rfl _ _ gb164 46 #[.string (⟨#[]⟩:ByteArray),.string (⟨#[]⟩:ByteArray),.int .i64 0,.int .i64 0,.int .i64 0,.bool φ] (0,0) _ rfl (by refine δw (cs:=#[.string (⟨#[]⟩:ByteArray),.string (⟨#[]⟩:ByteArray),.int .i64 0,.int .i64 0,.int .i64 0,.bool φ]) ?_ 5 _ (by rfl);refine δw (cs:=#[.string (⟨#[]⟩:ByteArray),.string (⟨#[]⟩:ByteArray),.int .i64 0,.int .i64 0,.int .i64 0,.bool φ]) ?_ 4 _ rfl;refine δw (cs:=#[.string (⟨#[]⟩:ByteArray),.string (⟨#[]⟩:ByteArray),.int .i64 0,.int .i64 0,.int .i64 0,.bool φ]) ?_ 3 _ rfl;refine δw (cs:=#[.string (⟨#[]⟩:ByteArray),.string (⟨#[]⟩:ByteArray),.int .i64 0,.int .i64 0,.int .i64 0,.bool φ]) ?_ 2 _ rfl;refine δw (cs:=#[.string (⟨#[]⟩:ByteArray),.string (⟨#[]⟩:ByteArray),.int .i64 0,.int .i64 0,.int .i64 0,.bool φ]) ?_ 1 _ rfl;refine δw (cs:=#[.string (⟨#[]⟩:ByteArray),.string (⟨#[]⟩:ByteArray),.int .i64 0,.int .i64 0,.int .i64 0,.bool φ]) ?_ 0 _ rfl;exact BK164.out) Tryz.underlying46 rfl (by kernel_rfl)) rfl ?_
    exact ⟨by rfl,by repeat ((with_reducible first|exact HB.out|refine δq ?_ GE164.out))⟩
   ·
    replace c9:=Bool.eq_false_iff.mpr c9
    subst c9
    rw [ifF] at H
    by_cases c11:0<(t165.length:Int)
    ·
     rw [if_pos c11] at H
     have c11b0:=decide_eq_true c11
     have c11b1:decide (0<t165.length)=τ:=decide_eq_true (by omega)
     clear c11
     by_cases c12:1<(t165.length:Int)
     ·
      rw [if_pos c12] at H
      have c12b0:=decide_eq_true c12
      have c12b1:decide (1<t165.length)=τ:=decide_eq_true (by omega)
      clear c12
      obtain ⟨t171,A13,H⟩:=bsm H
      by_cases c14:2<(t165.length:Int)
      ·
       rw [if_pos c14] at H
       have c14b0:=decide_eq_true c14
       have c14b1:decide (2<t165.length)=τ:=decide_eq_true (by omega)
       clear c14
       obtain ⟨t173,A15,H⟩:=bsm H
       by_cases c16:3<(t165.length:Int)
       ·
        rw [if_pos c16] at H
        have c16b0:=decide_eq_true c16
        have c16b1:decide (3<t165.length)=τ:=decide_eq_true (by omega)
        clear c16
        obtain ⟨t175,A17,H⟩:=bsm H
        by_cases c18:4<(t165.length:Int)
        ·
         rw [if_pos c18] at H
         have c18b0:=decide_eq_true c18
         have c18b1:decide (4<t165.length)=τ:=decide_eq_true (by omega)
         clear c18
         obtain ⟨t178,A19,H⟩:=bsm H
         try go_wp2
         replace HO_6:=ζa (ζe HO_6.out)
         replace BK164:=ζa (δp BK164.out)
         replace HB:=ζa (δj HB.out)
         obtain ⟨Ao42,co42,eo42⟩:=Kd.R_slice HO_6.out
         (subst eo42)
         have p169:0≤(0:Int):=(by omega)
         have q169:0<(t165.length:Int):=of_decide_eq_true (by (with_reducible assumption))
         obtain ⟨ad169,e169,hx169_0⟩:=Kd.at_string (ζg HO_6.out).2.2 0 p169 q169
         cases e169
         have qi169:(0<t165.length)=True:=eq_true (by omega)
         (try rw [show ((0:Int)).toNat=0 from rfl] at hx169_0)
         (try rw [Addr.add_zero'] at hx169_0)
         replace p169:=eq_true p169
         replace q169:=eq_true q169
         have p170:0≤(1:Int):=(by omega)
         have q170:1<(t165.length:Int):=of_decide_eq_true (by (with_reducible assumption))
         obtain ⟨ad170,e170,hx170_0⟩:=Kd.at_string (ζg HO_6.out).2.2 1 p170 q170
         obtain rfl:ad169=ad170:=(by injection e170)
         (try simp only [show (1:Int).toNat=1 from rfl,Nat.reduceMul,Nat.reduceEqDiff,Go.Addr.add,↓reduceIte] at hx170_0)
         have qi170:(1<t165.length)=True:=eq_true (by omega)
         (try rw [show ((1:Int)).toNat=1 from rfl] at hx170_0)
         replace p170:=eq_true p170
         replace q170:=eq_true q170
         have p172:0≤(2:Int):=(by omega)
         have q172:2<(t165.length:Int):=of_decide_eq_true (by (with_reducible assumption))
         obtain ⟨ad172,e172,hx172_0⟩:=Kd.at_string (ζg HO_6.out).2.2 2 p172 q172
         obtain rfl:ad169=ad172:=(by injection e172)
         (try simp only [show (2:Int).toNat=2 from rfl,Nat.reduceMul,Nat.reduceEqDiff,Go.Addr.add,↓reduceIte] at hx172_0)
         have qi172:(2<t165.length)=True:=eq_true (by omega)
         (try rw [show ((2:Int)).toNat=2 from rfl] at hx172_0)
         replace p172:=eq_true p172
         replace q172:=eq_true q172
         have p174:0≤(3:Int):=(by omega)
         have q174:3<(t165.length:Int):=of_decide_eq_true (by (with_reducible assumption))
         obtain ⟨ad174,e174,hx174_0⟩:=Kd.at_string (ζg HO_6.out).2.2 3 p174 q174
         obtain rfl:ad169=ad174:=(by injection e174)
         (try simp only [show (3:Int).toNat=3 from rfl,Nat.reduceMul,Nat.reduceEqDiff,Go.Addr.add,↓reduceIte] at hx174_0)
         have qi174:(3<t165.length)=True:=eq_true (by omega)
         (try rw [show ((3:Int)).toNat=3 from rfl] at hx174_0)
         replace p174:=eq_true p174
         replace q174:=eq_true q174
         have p176:0≤(4:Int):=(by omega)
         have q176:4<(t165.length:Int):=of_decide_eq_true (by (with_reducible assumption))
         obtain ⟨ad176,e176,hx176_0⟩:=Kd.at_string (ζg HO_6.out).2.2 4 p176 q176
         obtain rfl:ad169=ad176:=(by injection e176)
         (try simp only [show (4:Int).toNat=4 from rfl,Nat.reduceMul,Nat.reduceEqDiff,Go.Addr.add,↓reduceIte] at hx176_0)
         have qi176:(4<t165.length)=True:=eq_true (by omega)
         (try rw [show ((4:Int)).toNat=4 from rfl] at hx176_0)
         replace p176:=eq_true p176
         replace q176:=eq_true q176
         refine sta 23 (fun w'=>w'.cell? ad169=some (.string (rdOf ByteArray.empty t165 0))∧w'.cell? ⟨ad169.block,ad169.off+1,none⟩=some (.string (rdOf ByteArray.empty t165 1))∧w'.cell? ⟨ad169.block,ad169.off+2,none⟩=some (.string (rdOf ByteArray.empty t165 2))∧w'.cell? ⟨ad169.block,ad169.off+3,none⟩=some (.string (rdOf ByteArray.empty t165 3))∧w'.cell? ⟨ad169.block,ad169.off+4,none⟩=some (.string (rdOf ByteArray.empty t165 4))) [] spec_l09Read.tab4 spec_l09Read.bits4 ⟨hx169_0,hx170_0,hx172_0,hx174_0,hx176_0⟩ (fun hHeld HT_ HW_ => ?_)
         generalize wc.drew=w41 at HO_6 BK164 HB hx169_0 hx170_0 hx172_0 hx174_0 hx176_0 hHeld ⊢
         refine pu 0 22 ?_
         refine pu 1 23 ?_
         refine pu 2 24 ?_
         refine pu 4 26 ?_
         refine pu 5 27 ?_
         refine pu 8 30 ?_
         refine pu 9 31 ?_
         refine pu 12 34 ?_
         refine pu 13 35 ?_
         refine pu 16 38 ?_
         refine pu 17 39 ?_
         refine ta 3 25 ?_
         refine ta 6 28 ?_
         refine ta 10 32 ?_
         refine ta 14 36 ?_
         refine ta 18 40 ?_
         refine pu 19 41 ?_
         refine join_ (σ:=Nat) 1 #[τ,τ,τ,τ,τ,τ,τ,τ,τ,τ,τ,τ,τ,τ,τ,τ,τ,τ,τ,τ,τ,τ,φ] (fun s_ => [(29,.int .i64 t171),(33,.int .i64 t173),(37,.int .i64 t175),(8,.pointer (some ⟨s_,0,none⟩)),(42,.agg #[.string a0,.string (rdOf ByteArray.empty t165 0),.int .i64 t171,.int .i64 t173,.int .i64 t175,.bool ((rdOf ByteArray.empty t165 4).toList == ([111,112,101,110]:List UInt8))])]) (fun s_ w'=>(w'.cell? ad169=some (.string (rdOf ByteArray.empty t165 0))∧w'.cell? ⟨ad169.block,ad169.off+1,none⟩=some (.string (rdOf ByteArray.empty t165 1))∧w'.cell? ⟨ad169.block,ad169.off+2,none⟩=some (.string (rdOf ByteArray.empty t165 2))∧w'.cell? ⟨ad169.block,ad169.off+3,none⟩=some (.string (rdOf ByteArray.empty t165 3))∧w'.cell? ⟨ad169.block,ad169.off+4,none⟩=some (.string (rdOf ByteArray.empty t165 4)))∧(Kd.R Kd.string 9 w' w.heap.size (fun _=>True) (.slice (some ad169) t165.length co42) t165)∧(w'.heap[gb164]? = some (.cells #[.string (⟨#[]⟩:ByteArray),.string (⟨#[]⟩:ByteArray),.int .i64 0,.int .i64 0,.int .i64 0,.bool φ] 46 (0,0)))∧(w'.heap[s_]? = some (.cells #[.string (⟨#[]⟩:ByteArray),.string (⟨#[]⟩:ByteArray),.int .i64 0,.int .i64 0,.int .i64 0,.bool φ] 46 (0,0)))∧(w.heap.size≤s_)∧(w.heap.size≤s_)∧(gb164≠s_)∧(s_≠gb164)∧(Below w.heap.size w w')) ?_ ?_
         rotate_left
         ·
          intro hCont
          refine tw 7 21 29 8 (fun K hK => ?_) (fun K hK => ?_)
          ·
           skip
           refine gs Tryz.func42 #[.string (rdOf ByteArray.empty t165 1)] ?_
           with_reducible refine (spec_l02Of.calls kj3 (rdOf ByteArray.empty t165 1) t171 _ A13.out).mono ?_
           rintro e w' ⟨rfl,⟨nd,rfl⟩⟩
           refine ⟨_,rfl,?_⟩
           refine hK.out _ _ ⟨hHeld.1,hHeld.2.1,hHeld.2.2.1,hHeld.2.2.2.1,hHeld.2.2.2.2⟩ (fun hHeld => ?_)
           clear hK K
           refine nm 29 ?_
           refine tw 11 21 33 8 (fun K hK => ?_) (fun K hK => ?_)
           ·
            skip
            refine gs Tryz.func42 #[.string (rdOf ByteArray.empty t165 2)] ?_
            with_reducible refine (spec_l02Of.calls kj3 (rdOf ByteArray.empty t165 2) t173 _ A15.out).mono ?_
            rintro e w' ⟨rfl,⟨nd,rfl⟩⟩
            refine ⟨_,rfl,?_⟩
            refine hK.out _ _ ⟨hHeld.1,hHeld.2.1,hHeld.2.2.1,hHeld.2.2.2.1,hHeld.2.2.2.2⟩ (fun hHeld => ?_)
            clear hK K
            refine nm 33 ?_
            refine tw 15 21 37 8 (fun K hK => ?_) (fun K hK => ?_)
            ·
             skip
             refine gs Tryz.func42 #[.string (rdOf ByteArray.empty t165 3)] ?_
             with_reducible refine (spec_l02Of.calls kj3 (rdOf ByteArray.empty t165 3) t175 _ A17.out).mono ?_
             rintro e w' ⟨rfl,⟨nd,rfl⟩⟩
             refine ⟨_,rfl,?_⟩
             refine hK.out _ _ ⟨hHeld.1,hHeld.2.1,hHeld.2.2.1,hHeld.2.2.2.1,hHeld.2.2.2.2⟩ (fun hHeld => ?_)
             clear hK K
             refine nm 37 ?_
             refine pu 20 42 ?_
             refine on 21 8 (fun K hK => ?_)
             refine box_step ?hg (N:=8) ?hd (cs:=#[.string (⟨#[]⟩:ByteArray),.string (⟨#[]⟩:ByteArray),.int .i64 0,.int .i64 0,.int .i64 0,.bool φ]) (t:=46) ?hr ?_;(case hd=>rfl);(case hg=>rfl);(case hr=>(go_simp;done))
             intro gb177 hg w43 hbox hb
             have HS0_:=(hb.cell (World.block_lt_of_cell? _ _ (hHeld.1))).trans (hHeld.1)
             have HS1_:=(hb.cell (World.block_lt_of_cell? _ _ (hHeld.2.1))).trans (hHeld.2.1)
             have HS2_:=(hb.cell (World.block_lt_of_cell? _ _ (hHeld.2.2.1))).trans (hHeld.2.2.1)
             have HS3_:=(hb.cell (World.block_lt_of_cell? _ _ (hHeld.2.2.2.1))).trans (hHeld.2.2.2.1)
             have HS4_:=(hb.cell (World.block_lt_of_cell? _ _ (hHeld.2.2.2.2))).trans (hHeld.2.2.2.2)
             replace HO_6:=ζa (ζh (by (with_reducible repeat (apply ζc));exact HO_6.out) hb)
             have BK177:=ζa (hbox)
             have GW177:=ζa (gbw hg (by repeat ((with_reducible first|exact HB.out|apply δi))))
             have GE177:=ζa (gbw hg (by repeat ((with_reducible first|exact HB.out|apply δi))))
             replace HB:=ζa (δr (by repeat ((with_reducible first|exact HB.out|apply δi))) hb)
             have NB164_177:=ζa ((by rw [hg];exact Nat.ne_of_lt (blk_lt (g:=gb164) (o:=.cells #[.string (⟨#[]⟩:ByteArray),.string (⟨#[]⟩:ByteArray),.int .i64 0,.int .i64 0,.int .i64 0,.bool φ] 46 (0,0)) (by (with_reducible repeat (refine δn ?_ _));exact BK164.out)):gb164≠gb177))
             have NB177_164:=ζa ((by rw [hg];exact Nat.ne_of_gt (blk_lt (g:=gb164) (o:=.cells #[.string (⟨#[]⟩:ByteArray),.string (⟨#[]⟩:ByteArray),.int .i64 0,.int .i64 0,.int .i64 0,.bool φ] 46 (0,0)) (by (with_reducible repeat (refine δn ?_ _));exact BK164.out)):gb177≠gb164))
             replace BK164:=ζa (blk_below (g:=gb164) (o:=.cells #[.string (⟨#[]⟩:ByteArray),.string (⟨#[]⟩:ByteArray),.int .i64 0,.int .i64 0,.int .i64 0,.bool φ] 46 (0,0)) (by (with_reducible repeat (refine δn ?_ _));exact BK164.out) hb)
             clear hb hbox hg
             refine hK.out _ _ ⟨HS0_,HS1_,HS2_,HS3_,HS4_⟩ (fun hHeld => ?_)
             clear hK K
             refine nm 8 ?_
             exact norm_ (by simp only [putAll,ζl,δa,δb,δc]) (hCont (gb177) _ ⟨hHeld,(by exact HO_6.out),(by exact BK164.out),(by exact BK177.out),GW177.out,GE177.out,NB164_177.out,NB177_164.out,(by exact HB.out)⟩)
            ·
             skip
             refine box_step ?hg (N:=8) ?hd (cs:=#[.string (⟨#[]⟩:ByteArray),.string (⟨#[]⟩:ByteArray),.int .i64 0,.int .i64 0,.int .i64 0,.bool φ]) (t:=46) ?hr ?_;(case hd=>rfl);(case hg=>rfl);(case hr=>(go_simp;done))
             intro gb177 hg w43 hbox hb
             have HS0_:=(hb.cell (World.block_lt_of_cell? _ _ (hHeld.1))).trans (hHeld.1)
             have HS1_:=(hb.cell (World.block_lt_of_cell? _ _ (hHeld.2.1))).trans (hHeld.2.1)
             have HS2_:=(hb.cell (World.block_lt_of_cell? _ _ (hHeld.2.2.1))).trans (hHeld.2.2.1)
             have HS3_:=(hb.cell (World.block_lt_of_cell? _ _ (hHeld.2.2.2.1))).trans (hHeld.2.2.2.1)
             have HS4_:=(hb.cell (World.block_lt_of_cell? _ _ (hHeld.2.2.2.2))).trans (hHeld.2.2.2.2)
             replace HO_6:=ζa (ζh (by (with_reducible repeat (apply ζc));exact HO_6.out) hb)
             have BK177:=ζa (hbox)
             have GW177:=ζa (gbw hg (by repeat ((with_reducible first|exact HB.out|apply δi))))
             have GE177:=ζa (gbw hg (by repeat ((with_reducible first|exact HB.out|apply δi))))
             replace HB:=ζa (δr (by repeat ((with_reducible first|exact HB.out|apply δi))) hb)
             have NB164_177:=ζa ((by rw [hg];exact Nat.ne_of_lt (blk_lt (g:=gb164) (o:=.cells #[.string (⟨#[]⟩:ByteArray),.string (⟨#[]⟩:ByteArray),.int .i64 0,.int .i64 0,.int .i64 0,.bool φ] 46 (0,0)) (by (with_reducible repeat (refine δn ?_ _));exact BK164.out)):gb164≠gb177))
             have NB177_164:=ζa ((by rw [hg];exact Nat.ne_of_gt (blk_lt (g:=gb164) (o:=.cells #[.string (⟨#[]⟩:ByteArray),.string (⟨#[]⟩:ByteArray),.int .i64 0,.int .i64 0,.int .i64 0,.bool φ] 46 (0,0)) (by (with_reducible repeat (refine δn ?_ _));exact BK164.out)):gb177≠gb164))
             replace BK164:=ζa (blk_below (g:=gb164) (o:=.cells #[.string (⟨#[]⟩:ByteArray),.string (⟨#[]⟩:ByteArray),.int .i64 0,.int .i64 0,.int .i64 0,.bool φ] 46 (0,0)) (by (with_reducible repeat (refine δn ?_ _));exact BK164.out) hb)
             clear hb hbox hg
             refine hK.out _ _ ⟨HS0_,HS1_,HS2_,HS3_,HS4_⟩ (fun hHeld => ?_)
             clear hK K
             refine nm 8 ?_
             refine on 15 37 (fun K hK => ?_)
             refine gs Tryz.func42 #[.string (rdOf ByteArray.empty t165 3)] ?_
             with_reducible refine (spec_l02Of.calls kj3 (rdOf ByteArray.empty t165 3) t175 _ A17.out).mono ?_
             rintro e w' ⟨rfl,⟨nd,rfl⟩⟩
             refine ⟨_,rfl,?_⟩
             refine hK.out _ _ ⟨hHeld.1,hHeld.2.1,hHeld.2.2.1,hHeld.2.2.2.1,hHeld.2.2.2.2⟩ (fun hHeld => ?_)
             clear hK K
             refine nm 37 ?_
             refine pu 20 42 ?_
             exact norm_ (by simp only [putAll,ζl,δa,δb,δc]) (hCont (gb177) _ ⟨hHeld,(by (with_reducible repeat (apply ζc));exact HO_6.out),(by (with_reducible repeat (refine δn ?_ _));exact BK164.out),(by (with_reducible repeat (refine δn ?_ _));exact BK177.out),GW177.out,GE177.out,NB164_177.out,NB177_164.out,(by repeat ((with_reducible first|exact HB.out|apply δi)))⟩)
           ·
            skip
            refine box_step ?hg (N:=8) ?hd (cs:=#[.string (⟨#[]⟩:ByteArray),.string (⟨#[]⟩:ByteArray),.int .i64 0,.int .i64 0,.int .i64 0,.bool φ]) (t:=46) ?hr ?_;(case hd=>rfl);(case hg=>rfl);(case hr=>(go_simp;done))
            intro gb177 hg w43 hbox hb
            have HS0_:=(hb.cell (World.block_lt_of_cell? _ _ (hHeld.1))).trans (hHeld.1)
            have HS1_:=(hb.cell (World.block_lt_of_cell? _ _ (hHeld.2.1))).trans (hHeld.2.1)
            have HS2_:=(hb.cell (World.block_lt_of_cell? _ _ (hHeld.2.2.1))).trans (hHeld.2.2.1)
            have HS3_:=(hb.cell (World.block_lt_of_cell? _ _ (hHeld.2.2.2.1))).trans (hHeld.2.2.2.1)
            have HS4_:=(hb.cell (World.block_lt_of_cell? _ _ (hHeld.2.2.2.2))).trans (hHeld.2.2.2.2)
            replace HO_6:=ζa (ζh (by (with_reducible repeat (apply ζc));exact HO_6.out) hb)
            have BK177:=ζa (hbox)
            have GW177:=ζa (gbw hg (by repeat ((with_reducible first|exact HB.out|apply δi))))
            have GE177:=ζa (gbw hg (by repeat ((with_reducible first|exact HB.out|apply δi))))
            replace HB:=ζa (δr (by repeat ((with_reducible first|exact HB.out|apply δi))) hb)
            have NB164_177:=ζa ((by rw [hg];exact Nat.ne_of_lt (blk_lt (g:=gb164) (o:=.cells #[.string (⟨#[]⟩:ByteArray),.string (⟨#[]⟩:ByteArray),.int .i64 0,.int .i64 0,.int .i64 0,.bool φ] 46 (0,0)) (by (with_reducible repeat (refine δn ?_ _));exact BK164.out)):gb164≠gb177))
            have NB177_164:=ζa ((by rw [hg];exact Nat.ne_of_gt (blk_lt (g:=gb164) (o:=.cells #[.string (⟨#[]⟩:ByteArray),.string (⟨#[]⟩:ByteArray),.int .i64 0,.int .i64 0,.int .i64 0,.bool φ] 46 (0,0)) (by (with_reducible repeat (refine δn ?_ _));exact BK164.out)):gb177≠gb164))
            replace BK164:=ζa (blk_below (g:=gb164) (o:=.cells #[.string (⟨#[]⟩:ByteArray),.string (⟨#[]⟩:ByteArray),.int .i64 0,.int .i64 0,.int .i64 0,.bool φ] 46 (0,0)) (by (with_reducible repeat (refine δn ?_ _));exact BK164.out) hb)
            clear hb hbox hg
            refine hK.out _ _ ⟨HS0_,HS1_,HS2_,HS3_,HS4_⟩ (fun hHeld => ?_)
            clear hK K
            refine nm 8 ?_
            refine on 11 33 (fun K hK => ?_)
            refine gs Tryz.func42 #[.string (rdOf ByteArray.empty t165 2)] ?_
            with_reducible refine (spec_l02Of.calls kj3 (rdOf ByteArray.empty t165 2) t173 _ A15.out).mono ?_
            rintro e w' ⟨rfl,⟨nd,rfl⟩⟩
            refine ⟨_,rfl,?_⟩
            refine hK.out _ _ ⟨hHeld.1,hHeld.2.1,hHeld.2.2.1,hHeld.2.2.2.1,hHeld.2.2.2.2⟩ (fun hHeld => ?_)
            clear hK K
            refine nm 33 ?_
            refine on 15 37 (fun K hK => ?_)
            refine gs Tryz.func42 #[.string (rdOf ByteArray.empty t165 3)] ?_
            with_reducible refine (spec_l02Of.calls kj3 (rdOf ByteArray.empty t165 3) t175 _ A17.out).mono ?_
            rintro e w' ⟨rfl,⟨nd,rfl⟩⟩
            refine ⟨_,rfl,?_⟩
            refine hK.out _ _ ⟨hHeld.1,hHeld.2.1,hHeld.2.2.1,hHeld.2.2.2.1,hHeld.2.2.2.2⟩ (fun hHeld => ?_)
            clear hK K
            refine nm 37 ?_
            refine pu 20 42 ?_
            exact norm_ (by simp only [putAll,ζl,δa,δb,δc]) (hCont (gb177) _ ⟨hHeld,(by (with_reducible repeat (apply ζc));exact HO_6.out),(by (with_reducible repeat (refine δn ?_ _));exact BK164.out),(by (with_reducible repeat (refine δn ?_ _));exact BK177.out),GW177.out,GE177.out,NB164_177.out,NB177_164.out,(by repeat ((with_reducible first|exact HB.out|apply δi)))⟩)
          ·
           skip
           refine box_step ?hg (N:=8) ?hd (cs:=#[.string (⟨#[]⟩:ByteArray),.string (⟨#[]⟩:ByteArray),.int .i64 0,.int .i64 0,.int .i64 0,.bool φ]) (t:=46) ?hr ?_;(case hd=>rfl);(case hg=>rfl);(case hr=>(go_simp;done))
           intro gb177 hg w43 hbox hb
           have HS0_:=(hb.cell (World.block_lt_of_cell? _ _ (hHeld.1))).trans (hHeld.1)
           have HS1_:=(hb.cell (World.block_lt_of_cell? _ _ (hHeld.2.1))).trans (hHeld.2.1)
           have HS2_:=(hb.cell (World.block_lt_of_cell? _ _ (hHeld.2.2.1))).trans (hHeld.2.2.1)
           have HS3_:=(hb.cell (World.block_lt_of_cell? _ _ (hHeld.2.2.2.1))).trans (hHeld.2.2.2.1)
           have HS4_:=(hb.cell (World.block_lt_of_cell? _ _ (hHeld.2.2.2.2))).trans (hHeld.2.2.2.2)
           replace HO_6:=ζa (ζh (by exact HO_6.out) hb)
           have BK177:=ζa (hbox)
           have GW177:=ζa (gbw hg (by exact HB.out))
           have GE177:=ζa (gbw hg (by exact HB.out))
           replace HB:=ζa (δr (by exact HB.out) hb)
           have NB164_177:=ζa ((by rw [hg];exact Nat.ne_of_lt (blk_lt (g:=gb164) (o:=.cells #[.string (⟨#[]⟩:ByteArray),.string (⟨#[]⟩:ByteArray),.int .i64 0,.int .i64 0,.int .i64 0,.bool φ] 46 (0,0)) (by exact BK164.out)):gb164≠gb177))
           have NB177_164:=ζa ((by rw [hg];exact Nat.ne_of_gt (blk_lt (g:=gb164) (o:=.cells #[.string (⟨#[]⟩:ByteArray),.string (⟨#[]⟩:ByteArray),.int .i64 0,.int .i64 0,.int .i64 0,.bool φ] 46 (0,0)) (by exact BK164.out)):gb177≠gb164))
           replace BK164:=ζa (blk_below (g:=gb164) (o:=.cells #[.string (⟨#[]⟩:ByteArray),.string (⟨#[]⟩:ByteArray),.int .i64 0,.int .i64 0,.int .i64 0,.bool φ] 46 (0,0)) (by exact BK164.out) hb)
           clear hb hbox hg
           refine hK.out _ _ ⟨HS0_,HS1_,HS2_,HS3_,HS4_⟩ (fun hHeld => ?_)
           clear hK K
           refine nm 8 ?_
           refine on 7 29 (fun K hK => ?_)
           refine gs Tryz.func42 #[.string (rdOf ByteArray.empty t165 1)] ?_
           with_reducible refine (spec_l02Of.calls kj3 (rdOf ByteArray.empty t165 1) t171 _ A13.out).mono ?_
           rintro e w' ⟨rfl,⟨nd,rfl⟩⟩
           refine ⟨_,rfl,?_⟩
           refine hK.out _ _ ⟨hHeld.1,hHeld.2.1,hHeld.2.2.1,hHeld.2.2.2.1,hHeld.2.2.2.2⟩ (fun hHeld => ?_)
           clear hK K
           refine nm 29 ?_
           refine on 11 33 (fun K hK => ?_)
           refine gs Tryz.func42 #[.string (rdOf ByteArray.empty t165 2)] ?_
           with_reducible refine (spec_l02Of.calls kj3 (rdOf ByteArray.empty t165 2) t173 _ A15.out).mono ?_
           rintro e w' ⟨rfl,⟨nd,rfl⟩⟩
           refine ⟨_,rfl,?_⟩
           refine hK.out _ _ ⟨hHeld.1,hHeld.2.1,hHeld.2.2.1,hHeld.2.2.2.1,hHeld.2.2.2.2⟩ (fun hHeld => ?_)
           clear hK K
           refine nm 33 ?_
           refine on 15 37 (fun K hK => ?_)
           refine gs Tryz.func42 #[.string (rdOf ByteArray.empty t165 3)] ?_
           with_reducible refine (spec_l02Of.calls kj3 (rdOf ByteArray.empty t165 3) t175 _ A17.out).mono ?_
           rintro e w' ⟨rfl,⟨nd,rfl⟩⟩
           refine ⟨_,rfl,?_⟩
           refine hK.out _ _ ⟨hHeld.1,hHeld.2.1,hHeld.2.2.1,hHeld.2.2.2.1,hHeld.2.2.2.2⟩ (fun hHeld => ?_)
           clear hK K
           refine nm 37 ?_
           refine pu 20 42 ?_
           exact norm_ (by simp only [putAll,ζl,δa,δb,δc]) (hCont (gb177) _ ⟨hHeld,(by (with_reducible repeat (apply ζc));exact HO_6.out),(by (with_reducible repeat (refine δn ?_ _));exact BK164.out),(by (with_reducible repeat (refine δn ?_ _));exact BK177.out),GW177.out,GE177.out,NB164_177.out,NB177_164.out,(by repeat ((with_reducible first|exact HB.out|apply δi)))⟩)
         rintro gb177 w44 ⟨hS_,h0_,h1_,h2_,h3_,h4_,h5_,h6_,h7_⟩
         have n0_:Aside0 (Kd.R Kd.string 9 w44 w.heap.size (fun _=>True) (.slice (some ad169) t165.length co42) t165):=⟨h0_⟩
         have n1_:Aside0 (w44.heap[gb164]? = some (.cells #[.string (⟨#[]⟩:ByteArray),.string (⟨#[]⟩:ByteArray),.int .i64 0,.int .i64 0,.int .i64 0,.bool φ] 46 (0,0))):=⟨h1_⟩
         have n2_:Aside0 (w44.heap[gb177]? = some (.cells #[.string (⟨#[]⟩:ByteArray),.string (⟨#[]⟩:ByteArray),.int .i64 0,.int .i64 0,.int .i64 0,.bool φ] 46 (0,0))):=⟨h2_⟩
         have n3_:Aside0 (w.heap.size≤gb177):=⟨h3_⟩
         have n4_:Aside0 (w.heap.size≤gb177):=⟨h4_⟩
         have n5_:Aside0 (gb164≠gb177):=⟨h5_⟩
         have n6_:Aside0 (gb177≠gb164):=⟨h6_⟩
         have n7_:Aside0 (Below w.heap.size w w44):=⟨h7_⟩
         clear HO_6
         clear BK164
         clear HB
         clear h0_ h1_ h2_ h3_ h4_ h5_ h6_ h7_
         have HO_6:=n0_
         have BK164:=n1_
         have BK177:=n2_
         have GW177:=n3_
         have GE177:=n4_
         have NB164_177:=n5_
         have NB177_164:=n6_
         have HB:=n7_
         clear n0_ n1_ n2_ n3_ n4_ n5_ n6_ n7_
         have hHeld:w44.cell? ad169=some (.string (rdOf ByteArray.empty t165 0))∧w44.cell? ⟨ad169.block,ad169.off+1,none⟩=some (.string (rdOf ByteArray.empty t165 1))∧w44.cell? ⟨ad169.block,ad169.off+2,none⟩=some (.string (rdOf ByteArray.empty t165 2))∧w44.cell? ⟨ad169.block,ad169.off+3,none⟩=some (.string (rdOf ByteArray.empty t165 3))∧w44.cell? ⟨ad169.block,ad169.off+4,none⟩=some (.string (rdOf ByteArray.empty t165 4)):=hS_
         refine norm_ (a':=?_) ?_ ?_
         rotate_left
         · simp only [putAll,ζl,δa,δb,δc];rfl
         refine one_ (i:=22) (N:=none) #[τ,τ,τ,τ,τ,τ,τ,τ,τ,τ,τ,τ,τ,τ,τ,τ,τ,τ,τ,τ,τ,τ,τ] rfl rfl (one_of HT_.out (by kernel_rfl)) (by decide) (fun K hK => ?_)
         have hs45:w44.cell? ⟨gb177,0,none⟩=some (.string (⟨#[]⟩:ByteArray)):=(δl BK177.out 0).trans rfl
         have hfs45:=δm BK177.out 0
         have hns45_0:=NB164_177.out
         have hms45_0:=NB177_164.out
         have hs46:w44.cell? ⟨gb177,1,none⟩=some (.string (⟨#[]⟩:ByteArray)):=(δl BK177.out 1).trans rfl
         have hfs46:=δm BK177.out 1
         have hns46_0:=NB164_177.out
         have hms46_0:=NB177_164.out
         have hs47:w44.cell? ⟨gb177,2,none⟩=some (.int .i64 0):=(δl BK177.out 2).trans rfl
         have hfs47:=δm BK177.out 2
         have hns47_0:=NB164_177.out
         have hms47_0:=NB177_164.out
         have hs48:w44.cell? ⟨gb177,3,none⟩=some (.int .i64 0):=(δl BK177.out 3).trans rfl
         have hfs48:=δm BK177.out 3
         have hns48_0:=NB164_177.out
         have hms48_0:=NB177_164.out
         have hs49:w44.cell? ⟨gb177,4,none⟩=some (.int .i64 0):=(δl BK177.out 4).trans rfl
         have hfs49:=δm BK177.out 4
         have hns49_0:=NB164_177.out
         have hms49_0:=NB177_164.out
         have hs50:w44.cell? ⟨gb177,5,none⟩=some (.bool φ):=(δl BK177.out 5).trans rfl
         have hfs50:=δm BK177.out 5
         have hns50_0:=NB164_177.out
         have hms50_0:=NB177_164.out
         refine skip_ (w1:=?_) (by rfl) rfl ?_ ?_
         rotate_left
         ·
          go_simp
          rfl
         refine hK.out _ _ ⟨(spec_l09Read.far6 (g:=gb177) (fun e_=>ζf HO_6.out BK177.out (by decide) (by rw [← e_];rfl)) _ _ _ _ _ _).trans hHeld.1,(spec_l09Read.far6 (g:=gb177) (fun e_=>ζf HO_6.out BK177.out (by decide) (by rw [← e_];rfl)) _ _ _ _ _ _).trans hHeld.2.1,(spec_l09Read.far6 (g:=gb177) (fun e_=>ζf HO_6.out BK177.out (by decide) (by rw [← e_];rfl)) _ _ _ _ _ _).trans hHeld.2.2.1,(spec_l09Read.far6 (g:=gb177) (fun e_=>ζf HO_6.out BK177.out (by decide) (by rw [← e_];rfl)) _ _ _ _ _ _).trans hHeld.2.2.2.1,(spec_l09Read.far6 (g:=gb177) (fun e_=>ζf HO_6.out BK177.out (by decide) (by rw [← e_];rfl)) _ _ _ _ _ _).trans hHeld.2.2.2.2⟩ (fun hHeld => ?_)
         clear hK K
         refine done_ (done_of HT_.out (by kernel_rfl)) ?_
         try go_wp2
         have n0_:Aside0 (Kd.R Kd.string 9 ((((((w44.setCell ⟨gb177,0,none⟩ (.string a0)).setCell ⟨gb177,1,none⟩ (.string (rdOf ByteArray.empty t165 0))).setCell ⟨gb177,2,none⟩ (.int .i64 t171)).setCell ⟨gb177,3,none⟩ (.int .i64 t173)).setCell ⟨gb177,4,none⟩ (.int .i64 t175)).setCell ⟨gb177,5,none⟩ (.bool ((rdOf ByteArray.empty t165 4).toList == ([111,112,101,110]:List UInt8)))) w.heap.size (fun _=>True) (.slice (some ad169) t165.length co42) t165):=⟨by exact Kd.R_mono (ζi (p:=⟨gb177,5,none⟩) (ζi (p:=⟨gb177,4,none⟩) (ζi (p:=⟨gb177,3,none⟩) (ζi (p:=⟨gb177,2,none⟩) (ζi (p:=⟨gb177,1,none⟩) (ζi (p:=⟨gb177,0,none⟩) (Kd.R_types HO_6.out BK177.out (by decide)) (fun _ hk=>hk.2) (.string a0)) (fun _ hk=>hk.2) (.string (rdOf ByteArray.empty t165 0))) (fun _ hk=>hk.2) (.int .i64 t171)) (fun _ hk=>hk.2) (.int .i64 t173)) (fun _ hk=>hk.2) (.int .i64 t175)) (fun _ hk=>hk.2) (.bool ((rdOf ByteArray.empty t165 4).toList == ([111,112,101,110]:List UInt8)))) (fun _ hk=>trivial)⟩
         have n1_:Aside0 (((((((w44.setCell ⟨gb177,0,none⟩ (.string a0)).setCell ⟨gb177,1,none⟩ (.string (rdOf ByteArray.empty t165 0))).setCell ⟨gb177,2,none⟩ (.int .i64 t171)).setCell ⟨gb177,3,none⟩ (.int .i64 t173)).setCell ⟨gb177,4,none⟩ (.int .i64 t175)).setCell ⟨gb177,5,none⟩ (.bool ((rdOf ByteArray.empty t165 4).toList == ([111,112,101,110]:List UInt8)))).heap[gb164]? = some (.cells #[.string (⟨#[]⟩:ByteArray),.string (⟨#[]⟩:ByteArray),.int .i64 0,.int .i64 0,.int .i64 0,.bool φ] 46 (0,0))):=⟨by refine blk_far ?_ NB164_177.out _;refine blk_far ?_ NB164_177.out _;refine blk_far ?_ NB164_177.out _;refine blk_far ?_ NB164_177.out _;refine blk_far ?_ NB164_177.out _;refine blk_far ?_ NB164_177.out _;exact BK164.out⟩
         have n2_:Aside0 (((((((w44.setCell ⟨gb177,0,none⟩ (.string a0)).setCell ⟨gb177,1,none⟩ (.string (rdOf ByteArray.empty t165 0))).setCell ⟨gb177,2,none⟩ (.int .i64 t171)).setCell ⟨gb177,3,none⟩ (.int .i64 t173)).setCell ⟨gb177,4,none⟩ (.int .i64 t175)).setCell ⟨gb177,5,none⟩ (.bool ((rdOf ByteArray.empty t165 4).toList == ([111,112,101,110]:List UInt8)))).heap[gb177]? = some (.cells #[.string a0,.string (rdOf ByteArray.empty t165 0),.int .i64 t171,.int .i64 t173,.int .i64 t175,.bool ((rdOf ByteArray.empty t165 4).toList == ([111,112,101,110]:List UInt8))] 46 (0,0))):=⟨by refine δw (cs:=#[.string a0,.string (rdOf ByteArray.empty t165 0),.int .i64 t171,.int .i64 t173,.int .i64 t175,.bool φ]) ?_ 5 _ rfl;refine δw (cs:=#[.string a0,.string (rdOf ByteArray.empty t165 0),.int .i64 t171,.int .i64 t173,.int .i64 0,.bool φ]) ?_ 4 _ rfl;refine δw (cs:=#[.string a0,.string (rdOf ByteArray.empty t165 0),.int .i64 t171,.int .i64 0,.int .i64 0,.bool φ]) ?_ 3 _ rfl;refine δw (cs:=#[.string a0,.string (rdOf ByteArray.empty t165 0),.int .i64 0,.int .i64 0,.int .i64 0,.bool φ]) ?_ 2 _ rfl;refine δw (cs:=#[.string a0,.string (⟨#[]⟩:ByteArray),.int .i64 0,.int .i64 0,.int .i64 0,.bool φ]) ?_ 1 _ rfl;refine δw (cs:=#[.string (⟨#[]⟩:ByteArray),.string (⟨#[]⟩:ByteArray),.int .i64 0,.int .i64 0,.int .i64 0,.bool φ]) ?_ 0 _ rfl;exact BK177.out⟩
         have n3_:Aside0 (Below w.heap.size w ((((((w44.setCell ⟨gb177,0,none⟩ (.string a0)).setCell ⟨gb177,1,none⟩ (.string (rdOf ByteArray.empty t165 0))).setCell ⟨gb177,2,none⟩ (.int .i64 t171)).setCell ⟨gb177,3,none⟩ (.int .i64 t173)).setCell ⟨gb177,4,none⟩ (.int .i64 t175)).setCell ⟨gb177,5,none⟩ (.bool ((rdOf ByteArray.empty t165 4).toList == ([111,112,101,110]:List UInt8))))):=⟨by repeat ((with_reducible first|exact HB.out|refine δq ?_ GE177.out))⟩
         (try clear HO_6)
         (try clear BK164)
         (try clear BK177)
         (try clear HB)
         generalize ((((((w44.setCell ⟨gb177,0,none⟩ (.string a0)).setCell ⟨gb177,1,none⟩ (.string (rdOf ByteArray.empty t165 0))).setCell ⟨gb177,2,none⟩ (.int .i64 t171)).setCell ⟨gb177,3,none⟩ (.int .i64 t173)).setCell ⟨gb177,4,none⟩ (.int .i64 t175)).setCell ⟨gb177,5,none⟩ (.bool ((rdOf ByteArray.empty t165 4).toList == ([111,112,101,110]:List UInt8))))=w51 at n0_ n1_ n2_ n3_ ⊢
         have HO_6:=n0_
         have BK164:=n1_
         have BK177:=n2_
         have HB:=n3_
         clear n0_ n1_ n2_ n3_
         replace HO_6:=ζa (ζe HO_6.out)
         replace BK164:=ζa (δp BK164.out)
         replace BK177:=ζa (δp BK177.out)
         replace HB:=ζa (δj HB.out)
         have p179:0≤(4:Int):=(by omega)
         have q179:4<(t165.length:Int):=of_decide_eq_true (by (with_reducible assumption))
         obtain ⟨ad179,e179,hx179_0⟩:=Kd.at_string (ζg HO_6.out).2.2 4 p179 q179
         obtain rfl:ad169=ad179:=(by injection e179)
         (try simp only [show (4:Int).toNat=4 from rfl,Nat.reduceMul,Nat.reduceEqDiff,Go.Addr.add,↓reduceIte] at hx179_0)
         have qi179:(4<t165.length)=True:=eq_true (by omega)
         (try rw [show ((4:Int)).toNat=4 from rfl] at hx179_0)
         replace p179:=eq_true p179
         replace q179:=eq_true q179
         by_cases c20:t178=τ
         ·
          subst c20
          rw [ifT] at H
          by_cases c21:(rdOf ByteArray.empty t165 4).toList=([111,112,101,110]:List UInt8)
          ·
           rw [if_pos c21] at H
           have c21b0:=beq_iff_eq.mpr c21
           have c21b1:=bne_eq_false_iff_eq.mpr c21
           clear c21
           simp only [Option.some.injEq,Prod.mk.injEq] at H
           obtain ⟨rfl,rfl,rfl,rfl,rfl,rfl,rfl⟩:=H
           have C21B0_:=ζa c21b0
           clear c21b0
           have C21B1_:=ζa c21b1
           clear c21b1
           refine sta 15 (fun w'=>w'.cell? ⟨gb177,0,none⟩=some (.string a0)∧w'.cell? ⟨gb177,1,none⟩=some (.string (rdOf ByteArray.empty t165 0))∧w'.cell? ⟨gb177,2,none⟩=some (.int .i64 t171)∧w'.cell? ⟨gb177,3,none⟩=some (.int .i64 t173)∧w'.cell? ⟨gb177,4,none⟩=some (.int .i64 t175)∧w'.cell? ⟨gb177,5,none⟩=some (.bool ((rdOf ByteArray.empty t165 4).toList == ([111,112,101,110]:List UInt8)))) [] spec_l09Read.tab5 spec_l09Read.bits5 ⟨(δl BK177.out 0).trans rfl,(δl BK177.out 1).trans rfl,(δl BK177.out 2).trans rfl,(δl BK177.out 3).trans rfl,(δl BK177.out 4).trans rfl,(δl BK177.out 5).trans rfl⟩ (fun hHeld HT_ HW_ => ?_)
           generalize w51.drew=w33 at HO_6 BK164 BK177 HB hHeld ⊢
           refine ta 0 43 ?_
           refine ta 1 44 ?_
           refine on 2 45 (fun K hK => ?_)
           refine gs Tryz.func76 #[.agg #[.string a0,.string (rdOf ByteArray.empty t165 0),.int .i64 t171,.int .i64 t173,.int .i64 t175,.bool ((rdOf ByteArray.empty t165 4).toList == ([111,112,101,110]:List UInt8))]] ?_
           with_reducible refine (spec_OrderOK.calls kj3 a0 (rdOf ByteArray.empty t165 0) t171 t173 t175 ((rdOf ByteArray.empty t165 4).toList == ([111,112,101,110]:List UInt8)) τ _ A19.out).mono ?_
           rintro e w34 ⟨rfl,hb⟩
           have c21b0:=C21B0_.out
           have c21b1:=C21B1_.out
           refine ⟨_,rfl,?_⟩
           replace HO_6:=ζa (ζh (by exact HO_6.out) hb)
           replace BK164:=ζa (blk_below (g:=gb164) (o:=.cells #[.string (⟨#[]⟩:ByteArray),.string (⟨#[]⟩:ByteArray),.int .i64 0,.int .i64 0,.int .i64 0,.bool φ] 46 (0,0)) (by exact BK164.out) hb)
           replace BK177:=ζa (blk_below (g:=gb177) (o:=.cells #[.string a0,.string (rdOf ByteArray.empty t165 0),.int .i64 t171,.int .i64 t173,.int .i64 t175,.bool ((rdOf ByteArray.empty t165 4).toList == ([111,112,101,110]:List UInt8))] 46 (0,0)) (by exact BK177.out) hb)
           replace HB:=ζa (δr (by exact HB.out) hb)
           (try clear hb)
           (try clear hb2)
           (try clear hk)
           (try clear hi)
           refine hK.out _ _ ⟨(δl BK177.out 0).trans rfl,(δl BK177.out 1).trans rfl,(δl BK177.out 2).trans rfl,(δl BK177.out 3).trans rfl,(δl BK177.out 4).trans rfl,(δl BK177.out 5).trans rfl⟩ (fun hHeld => ?_)
           clear hK K
           refine nm 45 ?_
           refine pu 3 46 ?_
           refine pu 4 47 ?_
           refine ta 5 48 ?_
           refine pu 6 49 ?_
           refine ζk (i:=7) (N:=some 50) (v:=undef) (a':=?_) #[τ,τ,τ,τ,τ,τ,τ,τ,φ,φ,φ,φ,φ,φ,φ] rfl rfl (ζj HT_.out (by kernel_rfl)) (fun _ _ _ h=>h) (Or.inr ⟨by rfl,rfl⟩) ?_ ?_
           rotate_left
           · simp only [ζl,δa,δb,δc,i64_w,i32_w];rfl
           refine ζk (i:=8) (N:=some 51) (v:=undef) (a':=?_) #[τ,τ,τ,τ,τ,τ,τ,τ,τ,φ,φ,φ,φ,φ,φ] rfl rfl (ζj HT_.out (by kernel_rfl)) (fun _ _ _ h=>h) (Or.inr ⟨by rfl,rfl⟩) ?_ ?_
           rotate_left
           · simp only [ζl,δa,δb,δc,i64_w,i32_w];rfl
           refine ζk (i:=9) (N:=some 52) (v:=undef) (a':=?_) #[τ,τ,τ,τ,τ,τ,τ,τ,τ,τ,φ,φ,φ,φ,φ] rfl rfl (ζj HT_.out (by kernel_rfl)) (fun _ _ _ h=>h) (Or.inr ⟨by rfl,rfl⟩) ?_ ?_
           rotate_left
           · simp only [ζl,δa,δb,δc,i64_w,i32_w];rfl
           refine ζk (i:=10) (N:=some 53) (v:=undef) (a':=?_) #[τ,τ,τ,τ,τ,τ,τ,τ,τ,τ,τ,φ,φ,φ,φ] rfl rfl (ζj HT_.out (by kernel_rfl)) (fun _ _ _ h=>h) (Or.inr ⟨by rfl,rfl⟩) ?_ ?_
           rotate_left
           · simp only [ζl,δa,δb,δc,i64_w,i32_w];rfl
           refine pu 11 54 ?_
           refine pu 12 55 ?_
           refine one_ (i:=13) (N:=none) #[τ,τ,τ,τ,τ,τ,τ,τ,τ,τ,τ,τ,τ,τ,φ] rfl rfl (one_of HT_.out (by kernel_rfl)) (by decide) (fun K hK => ?_)
           have hs35:w34.cell? ⟨gb164,0,none⟩=some (.string (⟨#[]⟩:ByteArray)):=(δl BK164.out 0).trans rfl
           have hfs35:=δm BK164.out 0
           have hns35_1:=NB177_164.out
           have hms35_1:=NB164_177.out
           have hs36:w34.cell? ⟨gb164,1,none⟩=some (.string (⟨#[]⟩:ByteArray)):=(δl BK164.out 1).trans rfl
           have hfs36:=δm BK164.out 1
           have hns36_1:=NB177_164.out
           have hms36_1:=NB164_177.out
           have hs37:w34.cell? ⟨gb164,2,none⟩=some (.int .i64 0):=(δl BK164.out 2).trans rfl
           have hfs37:=δm BK164.out 2
           have hns37_1:=NB177_164.out
           have hms37_1:=NB164_177.out
           have hs38:w34.cell? ⟨gb164,3,none⟩=some (.int .i64 0):=(δl BK164.out 3).trans rfl
           have hfs38:=δm BK164.out 3
           have hns38_1:=NB177_164.out
           have hms38_1:=NB164_177.out
           have hs39:w34.cell? ⟨gb164,4,none⟩=some (.int .i64 0):=(δl BK164.out 4).trans rfl
           have hfs39:=δm BK164.out 4
           have hns39_1:=NB177_164.out
           have hms39_1:=NB164_177.out
           have hs40:w34.cell? ⟨gb164,5,none⟩=some (.bool φ):=(δl BK164.out 5).trans rfl
           have hfs40:=δm BK164.out 5
           have hns40_1:=NB177_164.out
           have hms40_1:=NB164_177.out
           refine skip_ (w1:=?_) (by rfl) rfl ?_ ?_
           rotate_left
           ·
            go_simp
            rfl
           refine hK.out _ _ ⟨(spec_l09Read.far6 (g:=gb164) NB177_164.out _ _ _ _ _ _).trans hHeld.1,(spec_l09Read.far6 (g:=gb164) NB177_164.out _ _ _ _ _ _).trans hHeld.2.1,(spec_l09Read.far6 (g:=gb164) NB177_164.out _ _ _ _ _ _).trans hHeld.2.2.1,(spec_l09Read.far6 (g:=gb164) NB177_164.out _ _ _ _ _ _).trans hHeld.2.2.2.1,(spec_l09Read.far6 (g:=gb164) NB177_164.out _ _ _ _ _ _).trans hHeld.2.2.2.2.1,(spec_l09Read.far6 (g:=gb164) NB177_164.out _ _ _ _ _ _).trans hHeld.2.2.2.2.2⟩ (fun hHeld => ?_)
           clear hK K
           refine pu 14 5 ?_
           refine done_ (done_of HT_.out (by kernel_rfl)) ?_
           try go_wp2
           refine bodyPost_ret (results_ct rfl _ _ gb164 46 #[.string a0,.string (rdOf ByteArray.empty t165 0),.int .i64 t171,.int .i64 t173,.int .i64 t175,.bool ((rdOf ByteArray.empty t165 4).toList == ([111,112,101,110]:List UInt8))] (0,0) _ rfl (by refine δw (cs:=#[.string a0,.string (rdOf ByteArray.empty t165 0),.int .i64 t171,.int .i64 t173,.int .i64 t175,.bool φ]) ?_ 5 _ (by (rw [c21b0];rfl));refine δw (cs:=#[.string a0,.string (rdOf ByteArray.empty t165 0),.int .i64 t171,.int .i64 t173,.int .i64 0,.bool φ]) ?_ 4 _ rfl;refine δw (cs:=#[.string a0,.string (rdOf ByteArray.empty t165 0),.int .i64 t171,.int .i64 0,.int .i64 0,.bool φ]) ?_ 3 _ rfl;refine δw (cs:=#[.string a0,.string (rdOf ByteArray.empty t165 0),.int .i64 0,.int .i64 0,.int .i64 0,.bool φ]) ?_ 2 _ rfl;refine δw (cs:=#[.string a0,.string (⟨#[]⟩:ByteArray),.int .i64 0,.int .i64 0,.int .i64 0,.bool φ]) ?_ 1 _ rfl;refine δw (cs:=#[.string (⟨#[]⟩:ByteArray),.string (⟨#[]⟩:ByteArray),.int .i64 0,.int .i64 0,.int .i64 0,.bool φ]) ?_ 0 _ rfl;exact BK164.out) Tryz.underlying46 rfl (by kernel_rfl)) rfl ?_
           exact ⟨by first|(simp [*,errW_none,errW_some] <;> rfl),by repeat ((with_reducible first|exact HB.out|refine δq ?_ GE164.out))⟩
          ·
           rw [if_neg c21] at H
           have c21b0:=beq_eq_false_iff_ne.mpr c21
           have c21b1:=bne_iff_ne.mpr c21
           simp only [Option.some.injEq,Prod.mk.injEq] at H
           obtain ⟨rfl,rfl,rfl,rfl,rfl,rfl,rfl⟩:=H
           have C21B0_:=ζa c21b0
           clear c21b0
           have C21B1_:=ζa c21b1
           clear c21b1
           refine sta 15 (fun w'=>w'.cell? ⟨gb177,0,none⟩=some (.string a0)∧w'.cell? ⟨gb177,1,none⟩=some (.string (rdOf ByteArray.empty t165 0))∧w'.cell? ⟨gb177,2,none⟩=some (.int .i64 t171)∧w'.cell? ⟨gb177,3,none⟩=some (.int .i64 t173)∧w'.cell? ⟨gb177,4,none⟩=some (.int .i64 t175)∧w'.cell? ⟨gb177,5,none⟩=some (.bool ((rdOf ByteArray.empty t165 4).toList == ([111,112,101,110]:List UInt8)))∧w'.cell? ⟨ad169.block,ad169.off+4,none⟩=some (.string (rdOf ByteArray.empty t165 4))) [] spec_l09Read.tab5 spec_l09Read.bits5 ⟨(δl BK177.out 0).trans rfl,(δl BK177.out 1).trans rfl,(δl BK177.out 2).trans rfl,(δl BK177.out 3).trans rfl,(δl BK177.out 4).trans rfl,(δl BK177.out 5).trans rfl,hx179_0⟩ (fun hHeld HT_ HW_ => ?_)
           generalize w51.drew=w52 at HO_6 BK164 BK177 HB hx179_0 hHeld ⊢
           refine ta 0 43 ?_
           refine ta 1 44 ?_
           refine on 2 45 (fun K hK => ?_)
           refine gs Tryz.func76 #[.agg #[.string a0,.string (rdOf ByteArray.empty t165 0),.int .i64 t171,.int .i64 t173,.int .i64 t175,.bool ((rdOf ByteArray.empty t165 4).toList == ([111,112,101,110]:List UInt8))]] ?_
           with_reducible refine (spec_OrderOK.calls kj3 a0 (rdOf ByteArray.empty t165 0) t171 t173 t175 ((rdOf ByteArray.empty t165 4).toList == ([111,112,101,110]:List UInt8)) τ _ A19.out).mono ?_
           rintro e w53 ⟨rfl,hb⟩
           have c21b0:=C21B0_.out
           have c21b1:=C21B1_.out
           have HS6_:=(hb.cell (World.block_lt_of_cell? _ _ (hHeld.2.2.2.2.2.2))).trans (hHeld.2.2.2.2.2.2)
           refine ⟨_,rfl,?_⟩
           replace HO_6:=ζa (ζh (by exact HO_6.out) hb)
           replace BK164:=ζa (blk_below (g:=gb164) (o:=.cells #[.string (⟨#[]⟩:ByteArray),.string (⟨#[]⟩:ByteArray),.int .i64 0,.int .i64 0,.int .i64 0,.bool φ] 46 (0,0)) (by exact BK164.out) hb)
           replace BK177:=ζa (blk_below (g:=gb177) (o:=.cells #[.string a0,.string (rdOf ByteArray.empty t165 0),.int .i64 t171,.int .i64 t173,.int .i64 t175,.bool ((rdOf ByteArray.empty t165 4).toList == ([111,112,101,110]:List UInt8))] 46 (0,0)) (by exact BK177.out) hb)
           replace HB:=ζa (δr (by exact HB.out) hb)
           (try clear hb)
           (try clear hb2)
           (try clear hk)
           (try clear hi)
           refine hK.out _ _ ⟨(δl BK177.out 0).trans rfl,(δl BK177.out 1).trans rfl,(δl BK177.out 2).trans rfl,(δl BK177.out 3).trans rfl,(δl BK177.out 4).trans rfl,(δl BK177.out 5).trans rfl,HS6_⟩ (fun hHeld => ?_)
           clear hK K
           refine nm 45 ?_
           refine pu 3 46 ?_
           refine pu 4 47 ?_
           refine ta 5 48 ?_
           refine pu 6 49 ?_
           refine pu 7 50 ?_
           refine pu 8 51 ?_
           refine ta 9 52 ?_
           refine pu 10 53 ?_
           refine pu 11 54 ?_
           refine pu 12 55 ?_
           refine one_ (i:=13) (N:=none) #[τ,τ,τ,τ,τ,τ,τ,τ,τ,τ,τ,τ,τ,τ,φ] rfl rfl (one_of HT_.out (by kernel_rfl)) (by decide) (fun K hK => ?_)
           have hs54:w53.cell? ⟨gb164,0,none⟩=some (.string (⟨#[]⟩:ByteArray)):=(δl BK164.out 0).trans rfl
           have hfs54:=δm BK164.out 0
           have hns54_1:=NB177_164.out
           have hms54_1:=NB164_177.out
           have hs55:w53.cell? ⟨gb164,1,none⟩=some (.string (⟨#[]⟩:ByteArray)):=(δl BK164.out 1).trans rfl
           have hfs55:=δm BK164.out 1
           have hns55_1:=NB177_164.out
           have hms55_1:=NB164_177.out
           have hs56:w53.cell? ⟨gb164,2,none⟩=some (.int .i64 0):=(δl BK164.out 2).trans rfl
           have hfs56:=δm BK164.out 2
           have hns56_1:=NB177_164.out
           have hms56_1:=NB164_177.out
           have hs57:w53.cell? ⟨gb164,3,none⟩=some (.int .i64 0):=(δl BK164.out 3).trans rfl
           have hfs57:=δm BK164.out 3
           have hns57_1:=NB177_164.out
           have hms57_1:=NB164_177.out
           have hs58:w53.cell? ⟨gb164,4,none⟩=some (.int .i64 0):=(δl BK164.out 4).trans rfl
           have hfs58:=δm BK164.out 4
           have hns58_1:=NB177_164.out
           have hms58_1:=NB164_177.out
           have hs59:w53.cell? ⟨gb164,5,none⟩=some (.bool φ):=(δl BK164.out 5).trans rfl
           have hfs59:=δm BK164.out 5
           have hns59_1:=NB177_164.out
           have hms59_1:=NB164_177.out
           refine skip_ (w1:=?_) (by rfl) rfl ?_ ?_
           rotate_left
           ·
            go_simp
            rfl
           refine hK.out _ _ ⟨(spec_l09Read.far6 (g:=gb164) NB177_164.out _ _ _ _ _ _).trans hHeld.1,(spec_l09Read.far6 (g:=gb164) NB177_164.out _ _ _ _ _ _).trans hHeld.2.1,(spec_l09Read.far6 (g:=gb164) NB177_164.out _ _ _ _ _ _).trans hHeld.2.2.1,(spec_l09Read.far6 (g:=gb164) NB177_164.out _ _ _ _ _ _).trans hHeld.2.2.2.1,(spec_l09Read.far6 (g:=gb164) NB177_164.out _ _ _ _ _ _).trans hHeld.2.2.2.2.1,(spec_l09Read.far6 (g:=gb164) NB177_164.out _ _ _ _ _ _).trans hHeld.2.2.2.2.2.1,(spec_l09Read.far6 (g:=gb164) (fun e_=>ζf HO_6.out BK164.out (by decide) (by rw [← e_];rfl)) _ _ _ _ _ _).trans hHeld.2.2.2.2.2.2⟩ (fun hHeld => ?_)
           clear hK K
           refine pu 14 5 ?_
           refine done_ (done_of HT_.out (by kernel_rfl)) ?_
           try go_wp2
           refine bodyPost_ret (results_ct rfl _ _ gb164 46 #[.string a0,.string (rdOf ByteArray.empty t165 0),.int .i64 t171,.int .i64 t173,.int .i64 t175,.bool ((rdOf ByteArray.empty t165 4).toList == ([111,112,101,110]:List UInt8))] (0,0) _ rfl (by refine δw (cs:=#[.string a0,.string (rdOf ByteArray.empty t165 0),.int .i64 t171,.int .i64 t173,.int .i64 t175,.bool φ]) ?_ 5 _ (by (rw [c21b0];rfl));refine δw (cs:=#[.string a0,.string (rdOf ByteArray.empty t165 0),.int .i64 t171,.int .i64 t173,.int .i64 0,.bool φ]) ?_ 4 _ rfl;refine δw (cs:=#[.string a0,.string (rdOf ByteArray.empty t165 0),.int .i64 t171,.int .i64 0,.int .i64 0,.bool φ]) ?_ 3 _ rfl;refine δw (cs:=#[.string a0,.string (rdOf ByteArray.empty t165 0),.int .i64 0,.int .i64 0,.int .i64 0,.bool φ]) ?_ 2 _ rfl;refine δw (cs:=#[.string a0,.string (⟨#[]⟩:ByteArray),.int .i64 0,.int .i64 0,.int .i64 0,.bool φ]) ?_ 1 _ rfl;refine δw (cs:=#[.string (⟨#[]⟩:ByteArray),.string (⟨#[]⟩:ByteArray),.int .i64 0,.int .i64 0,.int .i64 0,.bool φ]) ?_ 0 _ rfl;exact BK164.out) Tryz.underlying46 rfl (by kernel_rfl)) rfl ?_
           exact ⟨by first|(simp [*,errW_none,errW_some] <;> rfl),by repeat ((with_reducible first|exact HB.out|refine δq ?_ GE164.out))⟩
         ·
          replace c20:=Bool.eq_false_iff.mpr c20
          subst c20
          rw [ifF] at H
          simp only [Option.some.injEq,Prod.mk.injEq] at H
          obtain ⟨rfl,rfl,rfl,rfl,rfl,rfl,rfl⟩:=H
          refine sta 15 (fun w'=>w'.cell? ⟨gb177,0,none⟩=some (.string a0)∧w'.cell? ⟨gb177,1,none⟩=some (.string (rdOf ByteArray.empty t165 0))∧w'.cell? ⟨gb177,2,none⟩=some (.int .i64 t171)∧w'.cell? ⟨gb177,3,none⟩=some (.int .i64 t173)∧w'.cell? ⟨gb177,4,none⟩=some (.int .i64 t175)∧w'.cell? ⟨gb177,5,none⟩=some (.bool ((rdOf ByteArray.empty t165 4).toList == ([111,112,101,110]:List UInt8)))) [] spec_l09Read.tab5 spec_l09Read.bits5 ⟨(δl BK177.out 0).trans rfl,(δl BK177.out 1).trans rfl,(δl BK177.out 2).trans rfl,(δl BK177.out 3).trans rfl,(δl BK177.out 4).trans rfl,(δl BK177.out 5).trans rfl⟩ (fun hHeld HT_ HW_ => ?_)
          generalize w51.drew=w71 at HO_6 BK164 BK177 HB hHeld ⊢
          refine ta 0 43 ?_
          refine ta 1 44 ?_
          refine on 2 45 (fun K hK => ?_)
          refine gs Tryz.func76 #[.agg #[.string a0,.string (rdOf ByteArray.empty t165 0),.int .i64 t171,.int .i64 t173,.int .i64 t175,.bool ((rdOf ByteArray.empty t165 4).toList == ([111,112,101,110]:List UInt8))]] ?_
          with_reducible refine (spec_OrderOK.calls kj3 a0 (rdOf ByteArray.empty t165 0) t171 t173 t175 ((rdOf ByteArray.empty t165 4).toList == ([111,112,101,110]:List UInt8)) φ _ A19.out).mono ?_
          rintro e w72 ⟨rfl,hb⟩
          refine ⟨_,rfl,?_⟩
          replace HO_6:=ζa (ζh (by exact HO_6.out) hb)
          replace BK164:=ζa (blk_below (g:=gb164) (o:=.cells #[.string (⟨#[]⟩:ByteArray),.string (⟨#[]⟩:ByteArray),.int .i64 0,.int .i64 0,.int .i64 0,.bool φ] 46 (0,0)) (by exact BK164.out) hb)
          replace BK177:=ζa (blk_below (g:=gb177) (o:=.cells #[.string a0,.string (rdOf ByteArray.empty t165 0),.int .i64 t171,.int .i64 t173,.int .i64 t175,.bool ((rdOf ByteArray.empty t165 4).toList == ([111,112,101,110]:List UInt8))] 46 (0,0)) (by exact BK177.out) hb)
          replace HB:=ζa (δr (by exact HB.out) hb)
          (try clear hb)
          (try clear hb2)
          (try clear hk)
          (try clear hi)
          refine hK.out _ _ ⟨(δl BK177.out 0).trans rfl,(δl BK177.out 1).trans rfl,(δl BK177.out 2).trans rfl,(δl BK177.out 3).trans rfl,(δl BK177.out 4).trans rfl,(δl BK177.out 5).trans rfl⟩ (fun hHeld => ?_)
          clear hK K
          refine nm 45 ?_
          refine pu 3 46 ?_
          refine ζk (i:=4) (N:=some 47) (v:=undef) (a':=?_) #[τ,τ,τ,τ,τ,φ,φ,φ,φ,φ,φ,φ,φ,φ,φ] rfl rfl (ζj HT_.out (by kernel_rfl)) (fun _ _ _ h=>h) (Or.inr ⟨by rfl,rfl⟩) ?_ ?_
          rotate_left
          · simp only [ζl,δa,δb,δc,i64_w,i32_w];rfl
          refine ζk (i:=5) (N:=some 48) (v:=undef) (a':=?_) #[τ,τ,τ,τ,τ,τ,φ,φ,φ,φ,φ,φ,φ,φ,φ] rfl rfl (ζj HT_.out (by kernel_rfl)) (fun _ _ _ h=>h) (Or.inr ⟨by rfl,rfl⟩) ?_ ?_
          rotate_left
          · simp only [ζl,δa,δb,δc,i64_w,i32_w];rfl
          refine ζk (i:=6) (N:=some 49) (v:=undef) (a':=?_) #[τ,τ,τ,τ,τ,τ,τ,φ,φ,φ,φ,φ,φ,φ,φ] rfl rfl (ζj HT_.out (by kernel_rfl)) (fun _ _ _ h=>h) (Or.inr ⟨by rfl,rfl⟩) ?_ ?_
          rotate_left
          · simp only [ζl,δa,δb,δc,i64_w,i32_w];rfl
          refine ζk (i:=7) (N:=some 50) (v:=undef) (a':=?_) #[τ,τ,τ,τ,τ,τ,τ,τ,φ,φ,φ,φ,φ,φ,φ] rfl rfl (ζj HT_.out (by kernel_rfl)) (fun _ _ _ h=>h) (Or.inr ⟨by rfl,rfl⟩) ?_ ?_
          rotate_left
          · simp only [ζl,δa,δb,δc,i64_w,i32_w];rfl
          refine ζk (i:=8) (N:=some 51) (v:=undef) (a':=?_) #[τ,τ,τ,τ,τ,τ,τ,τ,τ,φ,φ,φ,φ,φ,φ] rfl rfl (ζj HT_.out (by kernel_rfl)) (fun _ _ _ h=>h) (Or.inr ⟨by rfl,rfl⟩) ?_ ?_
          rotate_left
          · simp only [ζl,δa,δb,δc,i64_w,i32_w];rfl
          refine ζk (i:=9) (N:=some 52) (v:=undef) (a':=?_) #[τ,τ,τ,τ,τ,τ,τ,τ,τ,τ,φ,φ,φ,φ,φ] rfl rfl (ζj HT_.out (by kernel_rfl)) (fun _ _ _ h=>h) (Or.inr ⟨by rfl,rfl⟩) ?_ ?_
          rotate_left
          · simp only [ζl,δa,δb,δc,i64_w,i32_w];rfl
          refine ζk (i:=10) (N:=some 53) (v:=undef) (a':=?_) #[τ,τ,τ,τ,τ,τ,τ,τ,τ,τ,τ,φ,φ,φ,φ] rfl rfl (ζj HT_.out (by kernel_rfl)) (fun _ _ _ h=>h) (Or.inr ⟨by rfl,rfl⟩) ?_ ?_
          rotate_left
          · simp only [ζl,δa,δb,δc,i64_w,i32_w];rfl
          refine ζk (i:=11) (N:=some 54) (v:=undef) (a':=?_) #[τ,τ,τ,τ,τ,τ,τ,τ,τ,τ,τ,τ,φ,φ,φ] rfl rfl (ζj HT_.out (by kernel_rfl)) (fun _ _ _ h=>h) (Or.inr ⟨by rfl,rfl⟩) ?_ ?_
          rotate_left
          · simp only [ζl,δa,δb,δc,i64_w,i32_w];rfl
          refine pu 12 55 ?_
          refine one_ (i:=13) (N:=none) #[τ,τ,τ,τ,τ,τ,τ,τ,τ,τ,τ,τ,τ,τ,φ] rfl rfl (one_of HT_.out (by kernel_rfl)) (by decide) (fun K hK => ?_)
          have hs73:w72.cell? ⟨gb164,0,none⟩=some (.string (⟨#[]⟩:ByteArray)):=(δl BK164.out 0).trans rfl
          have hfs73:=δm BK164.out 0
          have hns73_1:=NB177_164.out
          have hms73_1:=NB164_177.out
          have hs74:w72.cell? ⟨gb164,1,none⟩=some (.string (⟨#[]⟩:ByteArray)):=(δl BK164.out 1).trans rfl
          have hfs74:=δm BK164.out 1
          have hns74_1:=NB177_164.out
          have hms74_1:=NB164_177.out
          have hs75:w72.cell? ⟨gb164,2,none⟩=some (.int .i64 0):=(δl BK164.out 2).trans rfl
          have hfs75:=δm BK164.out 2
          have hns75_1:=NB177_164.out
          have hms75_1:=NB164_177.out
          have hs76:w72.cell? ⟨gb164,3,none⟩=some (.int .i64 0):=(δl BK164.out 3).trans rfl
          have hfs76:=δm BK164.out 3
          have hns76_1:=NB177_164.out
          have hms76_1:=NB164_177.out
          have hs77:w72.cell? ⟨gb164,4,none⟩=some (.int .i64 0):=(δl BK164.out 4).trans rfl
          have hfs77:=δm BK164.out 4
          have hns77_1:=NB177_164.out
          have hms77_1:=NB164_177.out
          have hs78:w72.cell? ⟨gb164,5,none⟩=some (.bool φ):=(δl BK164.out 5).trans rfl
          have hfs78:=δm BK164.out 5
          have hns78_1:=NB177_164.out
          have hms78_1:=NB164_177.out
          refine skip_ (w1:=?_) (by rfl) rfl ?_ ?_
          rotate_left
          ·
           go_simp
           rfl
          refine hK.out _ _ ⟨(spec_l09Read.far6 (g:=gb164) NB177_164.out _ _ _ _ _ _).trans hHeld.1,(spec_l09Read.far6 (g:=gb164) NB177_164.out _ _ _ _ _ _).trans hHeld.2.1,(spec_l09Read.far6 (g:=gb164) NB177_164.out _ _ _ _ _ _).trans hHeld.2.2.1,(spec_l09Read.far6 (g:=gb164) NB177_164.out _ _ _ _ _ _).trans hHeld.2.2.2.1,(spec_l09Read.far6 (g:=gb164) NB177_164.out _ _ _ _ _ _).trans hHeld.2.2.2.2.1,(spec_l09Read.far6 (g:=gb164) NB177_164.out _ _ _ _ _ _).trans hHeld.2.2.2.2.2⟩ (fun hHeld => ?_)
          clear hK K
          refine pu 14 5 ?_
          refine done_ (done_of HT_.out (by kernel_rfl)) ?_
          try go_wp2
          refine bodyPost_ret (results_ct rfl _ _ gb164 46 #[.string a0,.string (rdOf ByteArray.empty t165 0),.int .i64 t171,.int .i64 t173,.int .i64 t175,.bool ((rdOf ByteArray.empty t165 4).toList == ([111,112,101,110]:List UInt8))] (0,0) _ rfl (by refine δw (cs:=#[.string a0,.string (rdOf ByteArray.empty t165 0),.int .i64 t171,.int .i64 t173,.int .i64 t175,.bool φ]) ?_ 5 _ (by rfl);refine δw (cs:=#[.string a0,.string (rdOf ByteArray.empty t165 0),.int .i64 t171,.int .i64 t173,.int .i64 0,.bool φ]) ?_ 4 _ rfl;refine δw (cs:=#[.string a0,.string (rdOf ByteArray.empty t165 0),.int .i64 t171,.int .i64 0,.int .i64 0,.bool φ]) ?_ 3 _ rfl;refine δw (cs:=#[.string a0,.string (rdOf ByteArray.empty t165 0),.int .i64 0,.int .i64 0,.int .i64 0,.bool φ]) ?_ 2 _ rfl;refine δw (cs:=#[.string a0,.string (⟨#[]⟩:ByteArray),.int .i64 0,.int .i64 0,.int .i64 0,.bool φ]) ?_ 1 _ rfl;refine δw (cs:=#[.string (⟨#[]⟩:ByteArray),.string (⟨#[]⟩:ByteArray),.int .i64 0,.int .i64 0,.int .i64 0,.bool φ]) ?_ 0 _ rfl;exact BK164.out) Tryz.underlying46 rfl (by kernel_rfl)) rfl ?_
          exact ⟨by rfl,by repeat ((with_reducible first|exact HB.out|refine δq ?_ GE164.out))⟩
        ·
         rw [if_neg c18] at H
         exact absurd H (by simp)
       ·
        rw [if_neg c16] at H
        exact absurd H (by simp)
      ·
       rw [if_neg c14] at H
       exact absurd H (by simp)
     ·
      rw [if_neg c12] at H
      exact absurd H (by simp)
    ·
     rw [if_neg c11] at H
     exact absurd H (by simp)


open Go.Proofs.YtjhhehjjnfnigaaGreatDoorW.PrintWords renaming gate_dst → δx, below_step → δr, gate_callee → δv, blk_drewN → δn, pw_below_drewN → δi, blk_cell → δl, blk_frozen → δm, blk_put → δw, below_set → δq
set_option maxHeartbeats 8000000
set_option maxRecDepth 100000

/-! ### spec_l09Find: function 21 -/
def spec_l09Find.f (k:Nat) (l0:List (S37)) (a1:ByteArray):Option (ByteArray × ByteArray × Int × Int × Int × Bool × Bool):=(spec_l09Key.f a1).bind fun t181=>((spec_l03Get.f k l0 t181).bind fun bt182=>(if bt182.2=τ then ((spec_l09Read.f k a1 bt182.1).bind fun bt184=>(some (bt184.1,bt184.2.1,bt184.2.2.1,bt184.2.2.2.1,bt184.2.2.2.2.1,bt184.2.2.2.2.2.1,bt184.2.2.2.2.2.2))) else (some ((⟨#[]⟩:ByteArray),(⟨#[]⟩:ByteArray),0,0,0,φ,φ))))
theorem spec_l09Find.calls (k:Nat) (A0:Option Addr) (c0:Nat) (l0:List (S37)) (a1:ByteArray) (r1:ByteArray) (r2:ByteArray) (r3:Int) (r4:Int) (r5:Int) (r6:Bool) (r7:Bool) (w:World) (hr0:Kd.C k37 w A0 l0.length l0) (hc0:l0.length≤c0) (h:spec_l09Find.f k l0 a1=some (r1,r2,r3,r4,r5,r6,r7)) :
  Calls Tryz.prog 21 #[.slice A0 l0.length c0,.string a1] w fun e w'=>e = .returned (.tuple #[.agg #[.string r1,.string r2,.int .i64 r3,.int .i64 r4,.int .i64 r5,.bool r6],.bool r7])∧Below w.heap.size w w':=by
 have hu46:=Tryz.underlying46
 have HR0:=ζa hr0
 have HC0:=ζa hc0
 clear hr0 hc0
 have HB:=ζa (Below.refl w.heap.size w)
 have H:((spec_l09Key.f a1).bind fun t181=>((spec_l03Get.f k l0 t181).bind fun bt182=>(if bt182.2=τ then ((spec_l09Read.f k a1 bt182.1).bind fun bt184=>(some (bt184.1,bt184.2.1,bt184.2.2.1,bt184.2.2.2.1,bt184.2.2.2.2.1,bt184.2.2.2.2.2.1,bt184.2.2.2.2.2.2))) else (some ((⟨#[]⟩:ByteArray),(⟨#[]⟩:ByteArray),0,0,0,φ,φ)))))=some (r1,r2,r3,r4,r5,r6,r7):=h
 clear h
 obtain ⟨t181,A3,H⟩:=bsm H
 obtain ⟨⟨t182,t183⟩,A4,H⟩:=bsm H
 dsimp only at H
 by_cases c5:t183=τ
 ·
  subst c5
  rw [ifT] at H
  obtain ⟨⟨t184,t185,t186,t187,t188,t189,t190⟩,A6,H⟩:=bsm H
  dsimp only at H
  simp only [Option.some.injEq,Prod.mk.injEq] at H
  obtain ⟨rfl,rfl,rfl,rfl,rfl,rfl,rfl⟩:=H
  go_enter Tryz.func21,Tryz.ntmps21
  go_wp2_with (first|((with_reducible refine δx (N:=4) rfl ?_);refine bev 4 #[.string (⟨#[]⟩:ByteArray),.string (⟨#[]⟩:ByteArray),.int .i64 0,.int .i64 0,.int .i64 0,.bool φ] 46 ?_;intro gb180 hg w7 hbox hb;have BK180:=ζa (hbox);have GW180:=ζa (gbw hg (by exact HB.out));have GE180:=ζa (gbw hg (by exact HB.out));replace HB:=ζa (δr (by exact HB.out) hb);clear hb hbox hg)|((with_reducible refine δv (f:=25) rfl ?_);refine gl 11 Tryz.func25 #[.string a1] ?_;(with_reducible refine (spec_l09Key.calls a1 t181 _ A3.out).mono ?_);rintro e w' ⟨rfl,⟨nd,rfl⟩⟩;refine ⟨_,rfl,?_⟩;(try (rw [drewN_self w7];generalize hq_:World.drewN w7 _=w7;have n0_:Aside0 (w7.heap[gb180]? = some (.cells #[.string (⟨#[]⟩:ByteArray),.string (⟨#[]⟩:ByteArray),.int .i64 0,.int .i64 0,.int .i64 0,.bool φ] 46 (0,0))):=⟨by rw [← hq_];exact (by (with_reducible repeat (refine δn ?_ _));exact BK180.out)⟩;have n1_:Aside0 (Below w.heap.size w w7):=⟨by rw [← hq_];exact (by repeat ((with_reducible first|exact HB.out|apply δi)))⟩;clear BK180 HB hq_;have BK180:=n0_;have HB:=n1_;clear n0_ n1_)))|((with_reducible refine δv (f:=43) rfl ?_);refine gl 12 Tryz.func43 #[.slice A0 l0.length c0,.string t181] ?_;(with_reducible refine (spec_l03Get.calls k _ _ l0 t181 t182 τ _ ?side1 ?side2 A4.out).mono ?_);(case side1=>repeat (exact (Kd.C_below HR0.out HB.out)));(case side2=>exact HC0.out);rintro e w' ⟨rfl,⟨nd,rfl⟩⟩;refine ⟨_,rfl,?_⟩;(try (rw [drewN_self w7];generalize hq_:World.drewN w7 _=w7;have n0_:Aside0 (w7.heap[gb180]? = some (.cells #[.string (⟨#[]⟩:ByteArray),.string (⟨#[]⟩:ByteArray),.int .i64 0,.int .i64 0,.int .i64 0,.bool φ] 46 (0,0))):=⟨by rw [← hq_];exact (by (with_reducible repeat (refine δn ?_ _));exact BK180.out)⟩;have n1_:Aside0 (Below w.heap.size w w7):=⟨by rw [← hq_];exact (by repeat ((with_reducible first|exact HB.out|apply δi)))⟩;clear BK180 HB hq_;have BK180:=n0_;have HB:=n1_;clear n0_ n1_)))|((with_reducible refine δv (f:=44) rfl ?_);refine gl 20 Tryz.func44 #[.string a1,.string t182] ?_;(with_reducible refine (spec_l09Read.calls k a1 t182 t184 t185 t186 t187 t188 t189 t190 _ A6.out).mono ?_);rintro e w8 ⟨rfl,hb⟩;refine ⟨_,rfl,?_⟩;replace BK180:=ζa (blk_below (g:=gb180) (o:=.cells #[.string (⟨#[]⟩:ByteArray),.string (⟨#[]⟩:ByteArray),.int .i64 0,.int .i64 0,.int .i64 0,.bool φ] 46 (0,0)) (by exact BK180.out) hb);replace HB:=ζa (δr (by exact HB.out) hb);(try clear hb);(try clear hb2);(try clear hk);(try clear hi);have hcz9_0:w8.cell? ⟨gb180,0,none⟩=some (.string (⟨#[]⟩:ByteArray)):=(δl BK180.out 0).trans rfl;have hcz9_1:w8.cell? ⟨gb180,1,none⟩=some (.string (⟨#[]⟩:ByteArray)):=(δl BK180.out 1).trans rfl;have hcz9_2:w8.cell? ⟨gb180,2,none⟩=some (.int .i64 0):=(δl BK180.out 2).trans rfl;have hcz9_3:w8.cell? ⟨gb180,3,none⟩=some (.int .i64 0):=(δl BK180.out 3).trans rfl;have hcz9_4:w8.cell? ⟨gb180,4,none⟩=some (.int .i64 0):=(δl BK180.out 4).trans rfl;have hcz9_5:w8.cell? ⟨gb180,5,none⟩=some (.bool φ):=(δl BK180.out 5).trans rfl;have hfz9_0:=δm BK180.out 0;have hfz9_1:=δm BK180.out 1;have hfz9_2:=δm BK180.out 2;have hfz9_3:=δm BK180.out 3;have hfz9_4:=δm BK180.out 4;have hfz9_5:=δm BK180.out 5))
  refine bodyPost_ret (results_ct rfl _ _ gb180 46 #[.string t184,.string t185,.int .i64 t186,.int .i64 t187,.int .i64 t188,.bool t189] (0,0) _ rfl (by refine δw (cs:=#[.string t184,.string t185,.int .i64 t186,.int .i64 t187,.int .i64 t188,.bool φ]) ?_ 5 _ rfl;refine δw (cs:=#[.string t184,.string t185,.int .i64 t186,.int .i64 t187,.int .i64 0,.bool φ]) ?_ 4 _ rfl;refine δw (cs:=#[.string t184,.string t185,.int .i64 t186,.int .i64 0,.int .i64 0,.bool φ]) ?_ 3 _ rfl;refine δw (cs:=#[.string t184,.string t185,.int .i64 0,.int .i64 0,.int .i64 0,.bool φ]) ?_ 2 _ rfl;refine δw (cs:=#[.string t184,.string (⟨#[]⟩:ByteArray),.int .i64 0,.int .i64 0,.int .i64 0,.bool φ]) ?_ 1 _ rfl;refine δw (cs:=#[.string (⟨#[]⟩:ByteArray),.string (⟨#[]⟩:ByteArray),.int .i64 0,.int .i64 0,.int .i64 0,.bool φ]) ?_ 0 _ rfl;exact BK180.out) Tryz.underlying46 rfl (by kernel_rfl)) rfl ?_
  exact ⟨by rfl,by repeat ((with_reducible first|exact HB.out|refine δq ?_ GE180.out))⟩
 ·
  replace c5:=Bool.eq_false_iff.mpr c5
  subst c5
  rw [ifF] at H
  simp only [Option.some.injEq,Prod.mk.injEq] at H
  obtain ⟨rfl,rfl,rfl,rfl,rfl,rfl,rfl⟩:=H
  go_enter Tryz.func21,Tryz.ntmps21
  go_wp2_with (first|((with_reducible refine δx (N:=4) rfl ?_);refine bev 4 #[.string (⟨#[]⟩:ByteArray),.string (⟨#[]⟩:ByteArray),.int .i64 0,.int .i64 0,.int .i64 0,.bool φ] 46 ?_;intro gb180 hg w10 hbox hb;have BK180:=ζa (hbox);have GW180:=ζa (gbw hg (by exact HB.out));have GE180:=ζa (gbw hg (by exact HB.out));replace HB:=ζa (δr (by exact HB.out) hb);clear hb hbox hg)|((with_reducible refine δv (f:=25) rfl ?_);refine gl 11 Tryz.func25 #[.string a1] ?_;(with_reducible refine (spec_l09Key.calls a1 t181 _ A3.out).mono ?_);rintro e w' ⟨rfl,⟨nd,rfl⟩⟩;refine ⟨_,rfl,?_⟩;(try (rw [drewN_self w10];generalize hq_:World.drewN w10 _=w10;have n0_:Aside0 (w10.heap[gb180]? = some (.cells #[.string (⟨#[]⟩:ByteArray),.string (⟨#[]⟩:ByteArray),.int .i64 0,.int .i64 0,.int .i64 0,.bool φ] 46 (0,0))):=⟨by rw [← hq_];exact (by (with_reducible repeat (refine δn ?_ _));exact BK180.out)⟩;have n1_:Aside0 (Below w.heap.size w w10):=⟨by rw [← hq_];exact (by repeat ((with_reducible first|exact HB.out|apply δi)))⟩;clear BK180 HB hq_;have BK180:=n0_;have HB:=n1_;clear n0_ n1_)))|((with_reducible refine δv (f:=43) rfl ?_);refine gl 12 Tryz.func43 #[.slice A0 l0.length c0,.string t181] ?_;(with_reducible refine (spec_l03Get.calls k _ _ l0 t181 t182 φ _ ?side1 ?side2 A4.out).mono ?_);(case side1=>repeat (exact (Kd.C_below HR0.out HB.out)));(case side2=>exact HC0.out);rintro e w' ⟨rfl,⟨nd,rfl⟩⟩;refine ⟨_,rfl,?_⟩;(try (rw [drewN_self w10];generalize hq_:World.drewN w10 _=w10;have n0_:Aside0 (w10.heap[gb180]? = some (.cells #[.string (⟨#[]⟩:ByteArray),.string (⟨#[]⟩:ByteArray),.int .i64 0,.int .i64 0,.int .i64 0,.bool φ] 46 (0,0))):=⟨by rw [← hq_];exact (by (with_reducible repeat (refine δn ?_ _));exact BK180.out)⟩;have n1_:Aside0 (Below w.heap.size w w10):=⟨by rw [← hq_];exact (by repeat ((with_reducible first|exact HB.out|apply δi)))⟩;clear BK180 HB hq_;have BK180:=n0_;have HB:=n1_;clear n0_ n1_));have hcz11_0:w10.cell? ⟨gb180,0,none⟩=some (.string (⟨#[]⟩:ByteArray)):=(δl BK180.out 0).trans rfl;have hcz11_1:w10.cell? ⟨gb180,1,none⟩=some (.string (⟨#[]⟩:ByteArray)):=(δl BK180.out 1).trans rfl;have hcz11_2:w10.cell? ⟨gb180,2,none⟩=some (.int .i64 0):=(δl BK180.out 2).trans rfl;have hcz11_3:w10.cell? ⟨gb180,3,none⟩=some (.int .i64 0):=(δl BK180.out 3).trans rfl;have hcz11_4:w10.cell? ⟨gb180,4,none⟩=some (.int .i64 0):=(δl BK180.out 4).trans rfl;have hcz11_5:w10.cell? ⟨gb180,5,none⟩=some (.bool φ):=(δl BK180.out 5).trans rfl;have hfz11_0:=δm BK180.out 0;have hfz11_1:=δm BK180.out 1;have hfz11_2:=δm BK180.out 2;have hfz11_3:=δm BK180.out 3;have hfz11_4:=δm BK180.out 4;have hfz11_5:=δm BK180.out 5))
  refine bodyPost_ret (results_ct rfl _ _ gb180 46 #[.string (⟨#[]⟩:ByteArray),.string (⟨#[]⟩:ByteArray),.int .i64 0,.int .i64 0,.int .i64 0,.bool φ] (0,0) _ rfl (by refine δw (cs:=#[.string (⟨#[]⟩:ByteArray),.string (⟨#[]⟩:ByteArray),.int .i64 0,.int .i64 0,.int .i64 0,.bool φ]) ?_ 5 _ rfl;refine δw (cs:=#[.string (⟨#[]⟩:ByteArray),.string (⟨#[]⟩:ByteArray),.int .i64 0,.int .i64 0,.int .i64 0,.bool φ]) ?_ 4 _ rfl;refine δw (cs:=#[.string (⟨#[]⟩:ByteArray),.string (⟨#[]⟩:ByteArray),.int .i64 0,.int .i64 0,.int .i64 0,.bool φ]) ?_ 3 _ rfl;refine δw (cs:=#[.string (⟨#[]⟩:ByteArray),.string (⟨#[]⟩:ByteArray),.int .i64 0,.int .i64 0,.int .i64 0,.bool φ]) ?_ 2 _ rfl;refine δw (cs:=#[.string (⟨#[]⟩:ByteArray),.string (⟨#[]⟩:ByteArray),.int .i64 0,.int .i64 0,.int .i64 0,.bool φ]) ?_ 1 _ rfl;refine δw (cs:=#[.string (⟨#[]⟩:ByteArray),.string (⟨#[]⟩:ByteArray),.int .i64 0,.int .i64 0,.int .i64 0,.bool φ]) ?_ 0 _ rfl;exact BK180.out) Tryz.underlying46 rfl (by kernel_rfl)) rfl ?_
  exact ⟨by rfl,by repeat ((with_reducible first|exact HB.out|refine δq ?_ GE180.out))⟩


open Go.RowKit renaming wrap64 → ζm
set_option maxHeartbeats 8000000
set_option maxRecDepth 100000

/-! ### spec_l02Wide: function 77 -/
def spec_l02Wide.f (a0:Int) (a1:Int):Option (Int × Int):=some (ζm ((ζm ((ζm (Int.tdiv a0 1000000000)) * (ζm (Int.tdiv a1 1000000000))))+(ζm (Int.tdiv (ζm ((ζm ((ζm ((ζm (Int.tdiv a0 1000000000)) * (Int.tmod a1 1000000000)))+(ζm ((Int.tmod a0 1000000000) * (ζm (Int.tdiv a1 1000000000))))))+(ζm (Int.tdiv (ζm ((Int.tmod a0 1000000000) * (Int.tmod a1 1000000000))) 1000000000)))) 1000000000))),ζm ((ζm ((Int.tmod (ζm ((ζm ((ζm ((ζm (Int.tdiv a0 1000000000)) * (Int.tmod a1 1000000000)))+(ζm ((Int.tmod a0 1000000000) * (ζm (Int.tdiv a1 1000000000))))))+(ζm (Int.tdiv (ζm ((Int.tmod a0 1000000000) * (Int.tmod a1 1000000000))) 1000000000)))) 1000000000) * 1000000000))+(Int.tmod (ζm ((Int.tmod a0 1000000000) * (Int.tmod a1 1000000000))) 1000000000)))
theorem spec_l02Wide.calls (a0:Int) (a1:Int) (r1:Int) (r2:Int) (w:World) (h:spec_l02Wide.f a0 a1=some (r1,r2)) :
  Calls Tryz.prog 77 #[.int .i64 a0,.int .i64 a1] w fun e w'=>e = .returned (.tuple #[.int .i64 r1,.int .i64 r2])∧Drawn0 w w':=by
 have H:(some (ζm ((ζm ((ζm (Int.tdiv a0 1000000000)) * (ζm (Int.tdiv a1 1000000000))))+(ζm (Int.tdiv (ζm ((ζm ((ζm ((ζm (Int.tdiv a0 1000000000)) * (Int.tmod a1 1000000000)))+(ζm ((Int.tmod a0 1000000000) * (ζm (Int.tdiv a1 1000000000))))))+(ζm (Int.tdiv (ζm ((Int.tmod a0 1000000000) * (Int.tmod a1 1000000000))) 1000000000)))) 1000000000))),ζm ((ζm ((Int.tmod (ζm ((ζm ((ζm ((ζm (Int.tdiv a0 1000000000)) * (Int.tmod a1 1000000000)))+(ζm ((Int.tmod a0 1000000000) * (ζm (Int.tdiv a1 1000000000))))))+(ζm (Int.tdiv (ζm ((Int.tmod a0 1000000000) * (Int.tmod a1 1000000000))) 1000000000)))) 1000000000) * 1000000000))+(Int.tmod (ζm ((Int.tmod a0 1000000000) * (Int.tmod a1 1000000000))) 1000000000))))=some (r1,r2):=h
 clear h
 simp only [Option.some.injEq,Prod.mk.injEq] at H
 obtain ⟨rfl,rfl⟩:=H
 go_enter Tryz.func77,Tryz.ntmps77
 go_wp2
 go_ret2
 exact ⟨by rfl,by repeat (exact Drawn0.refl _)⟩


open Go.Proofs.YtjhhehjjnfnigaaGreatDoorW.PrintWords renaming gate_callee → δv
set_option maxHeartbeats 8000000
set_option maxRecDepth 100000

/-! ### spec_l02MulDiv: function 45 -/
mutual
def spec_l02MulDiv.l0:Nat→Int→Int→Int→Int→Int→Option (Int × Bool)
 | 0,_,_,_,_,_=>none
 | k+1,x2,x9,x10,x11,x12=>if x12 > 0 then (spec_l02MulDiv.l1 k x2 x9 x10 x11 x12 0 0 0) else (some (x10,τ))
def spec_l02MulDiv.l1:Nat→Int→Int→Int→Int→Int→Int→Int→Int→Option (Int × Bool)
 | 0,_,_,_,_,_,_,_,_=>none
 | k+1,x2,x9,x10,x11,x12,x13,x14,x15=>if x15<10 then (if (ζm (x14+x11)) ≥ x2 then (spec_l02MulDiv.l1 k x2 x9 x10 x11 x12 (ζm (x13+1)) (ζm ((ζm (x14+x11)) - x2)) (ζm (x15+1))) else (spec_l02MulDiv.l1 k x2 x9 x10 x11 x12 x13 (ζm (x14+x11)) (ζm (x15+1)))) else (if x12=0 then (none) else (if x2=0 then (none) else (spec_l02MulDiv.l0 k x2 x9 (ζm ((ζm (x10 * 10))+(ζm (x13+(ζm (Int.tdiv (ζm (x14+(Int.tmod (ζm (Int.tdiv x9 x12)) 10))) x2)))))) (Int.tmod (ζm (x14+(Int.tmod (ζm (Int.tdiv x9 x12)) 10))) x2) (ζm (Int.tdiv x12 10)))))
end
def spec_l02MulDiv.f (k:Nat) (a0:Int) (a1:Int) (a2:Int):Option (Int × Bool):=(spec_l02Wide.f a0 a1).bind fun bt191=>(if bt191.1 ≥ a2 then (if bt191.1=a2 then (some (1000000000000000000,decide (bt191.2<a2))) else (some (1000000000000000000,φ))) else (spec_l02MulDiv.l0 k a2 bt191.2 0 bt191.1 100000000000000000))
theorem spec_l02MulDiv.calls (k:Nat) (a0:Int) (a1:Int) (a2:Int) (r1:Int) (r2:Bool) (w:World) (h:spec_l02MulDiv.f k a0 a1 a2=some (r1,r2)) :
  Calls Tryz.prog 45 #[.int .i64 a0,.int .i64 a1,.int .i64 a2] w fun e w'=>e = .returned (.tuple #[.int .i64 r1,.bool r2])∧Drawn0 w w':=by
 have H:((spec_l02Wide.f a0 a1).bind fun bt191=>(if bt191.1 ≥ a2 then (if bt191.1=a2 then (some (1000000000000000000,decide (bt191.2<a2))) else (some (1000000000000000000,φ))) else (spec_l02MulDiv.l0 k a2 bt191.2 0 bt191.1 100000000000000000)))=some (r1,r2):=h
 clear h
 obtain ⟨⟨t191,t192⟩,A4,H⟩:=bsm H
 dsimp only at H
 by_cases c5:t191 ≥ a2
 ·
  rw [if_pos c5] at H
  have c5b0:decide (a2≤t191)=τ:=decide_eq_true c5
  clear c5
  by_cases c6:t191=a2
  ·
   rw [if_pos c6] at H
   have c6b0:=beq_iff_eq.mpr c6
   have c6b1:=bne_eq_false_iff_eq.mpr c6
   clear c6
   simp only [Option.some.injEq,Prod.mk.injEq] at H
   obtain ⟨rfl,rfl⟩:=H
   go_enter Tryz.func45,Tryz.ntmps45
   go_wp2_with (((with_reducible refine δv (f:=77) rfl ?_);refine gl 19 Tryz.func77 #[.int .i64 a0,.int .i64 a1] ?_;(with_reducible refine (spec_l02Wide.calls a0 a1 t191 t192 _ A4.out).mono ?_);rintro e w' ⟨rfl,⟨nd,rfl⟩⟩;refine ⟨_,rfl,?_⟩))
   go_ret2
   exact ⟨by rfl,by repeat (first|exact Drawn0.refl _|apply Drawn0.step)⟩
  ·
   rw [if_neg c6] at H
   have c6b0:=beq_eq_false_iff_ne.mpr c6
   have c6b1:=bne_iff_ne.mpr c6
   simp only [Option.some.injEq,Prod.mk.injEq] at H
   obtain ⟨rfl,rfl⟩:=H
   go_enter Tryz.func45,Tryz.ntmps45
   go_wp2_with (((with_reducible refine δv (f:=77) rfl ?_);refine gl 19 Tryz.func77 #[.int .i64 a0,.int .i64 a1] ?_;(with_reducible refine (spec_l02Wide.calls a0 a1 t191 t192 _ A4.out).mono ?_);rintro e w' ⟨rfl,⟨nd,rfl⟩⟩;refine ⟨_,rfl,?_⟩))
   go_ret2
   exact ⟨by rfl,by repeat (first|exact Drawn0.refl _|apply Drawn0.step)⟩
 ·
  rw [if_neg c5] at H
  have c5b0:decide (a2≤t191)=φ:=decide_eq_false c5
  clear c5
  have H':=ζa H
  clear H
  go_enter Tryz.func45,Tryz.ntmps45
  go_wp2_with (((with_reducible refine δv (f:=77) rfl ?_);refine gl 19 Tryz.func77 #[.int .i64 a0,.int .i64 a1] ?_;(with_reducible refine (spec_l02Wide.calls a0 a1 t191 t192 _ A4.out).mono ?_);rintro e w' ⟨rfl,⟨nd,rfl⟩⟩;refine ⟨_,rfl,?_⟩))
  go_loopg [10,11,12] k (fun kq v10 v11 v12 w' => ∃ (x10_1:Int) (x11_1:Int) (x12_1:Int),v10 = .int .i64 x10_1∧v11 = .int .i64 x11_1∧v12 = .int .i64 x12_1∧Aside0 (spec_l02MulDiv.l0 kq a2 t192 x10_1 x11_1 x12_1=some (r1,r2))∧Aside0 (kq≤k)∧Drawn0 w w')
  case atStart=>exact ⟨(0),(t191),(100000000000000000),(by rfl),(by rfl),(by rfl),H',⟨Nat.le_refl _⟩,by repeat (first|exact Drawn0.refl _|apply Drawn0.step)⟩
  case round =>
   clear H'
   try clear p2
   try clear c4
   try clear c5
   try clear c5b0
   try clear c6
   try clear c6b0
   try clear c6b1
   obtain ⟨x10_1,x11_1,x12_1,rfl,rfl,rfl,HA,HK1,⟨m1,rfl⟩⟩:=hrel
   cases gk with
   | zero=>exact absurd HA.out (by simp [spec_l02MulDiv.l0])
   | succ k1 =>
    have H:=HA.out
    clear HA
    simp only [spec_l02MulDiv.l0] at H
    by_cases c7:x12_1 > 0
    ·
     rw [if_pos c7] at H
     have c7b0:decide (0<x12_1)=τ:=decide_eq_true c7
     clear c7
     have H':=ζa H
     clear H
     go_wp2
     go_loopg [13,14,15] k1 (fun kq v13 v14 v15 w' => ∃ (x13_2:Int) (x14_2:Int) (x15_2:Int),v13 = .int .i64 x13_2∧v14 = .int .i64 x14_2∧v15 = .int .i64 x15_2∧Aside0 (spec_l02MulDiv.l1 kq a2 t192 x10_1 x11_1 x12_1 x13_2 x14_2 x15_2=some (r1,r2))∧Aside0 (kq≤k1)∧Drawn0 w w')
     case atStart=>exact ⟨(0),(0),(0),(by rfl),(by rfl),(by rfl),H',⟨Nat.le_refl _⟩,by repeat (first|exact Drawn0.refl _|apply Drawn0.step)⟩
     case round =>
      clear H'
      try clear p2
      try clear c4
      try clear c5
      try clear c5b0
      try clear c6
      try clear c6b0
      try clear c6b1
      try clear c7
      try clear c7b0
      try clear p2
      obtain ⟨x13_2,x14_2,x15_2,rfl,rfl,rfl,HA,HK2,⟨m2,rfl⟩⟩:=hrel
      cases gk with
      | zero=>exact absurd HA.out (by simp [spec_l02MulDiv.l1])
      | succ k2 =>
       have H:=HA.out
       clear HA
       simp only [spec_l02MulDiv.l1] at H
       by_cases c8:x15_2<10
       ·
        rw [if_pos c8] at H
        have c8b0:=decide_eq_true c8
        clear c8
        by_cases c9:(ζm (x14_2+x11_1)) ≥ a2
        ·
         rw [if_pos c9] at H
         have c9b0:decide (a2≤(ζm (x14_2+x11_1)))=τ:=decide_eq_true c9
         clear c9
         have H':=ζa H
         clear H
         go_wp2
         go_roundg k2
         case measure=>have:=HK1.out;have:=HK2.out;omega
         case rel=>exact ⟨(ζm (x13_2+1)),(ζm ((ζm (x14_2+x11_1)) - a2)),(ζm (x15_2+1)),(by rfl),(by rfl),(by rfl),H',⟨by have:=HK1.out;have:=HK2.out;omega⟩,by repeat (first|exact Drawn0.refl _|apply Drawn0.step)⟩
        ·
         rw [if_neg c9] at H
         have c9b0:decide (a2≤(ζm (x14_2+x11_1)))=φ:=decide_eq_false c9
         clear c9
         have H':=ζa H
         clear H
         go_wp2
         go_roundg k2
         case measure=>have:=HK1.out;have:=HK2.out;omega
         case rel=>exact ⟨(x13_2),(ζm (x14_2+x11_1)),(ζm (x15_2+1)),(by rfl),(by rfl),(by rfl),H',⟨by have:=HK1.out;have:=HK2.out;omega⟩,by repeat (first|exact Drawn0.refl _|apply Drawn0.step)⟩
       ·
        rw [if_neg c8] at H
        have c8b0:=decide_eq_false c8
        clear c8
        by_cases c10:x12_1=0
        ·
         rw [if_pos c10] at H
         exact absurd H (by simp)
        ·
         rw [if_neg c10] at H
         have c10b0:=beq_eq_false_iff_ne.mpr c10
         have c10b1:=bne_iff_ne.mpr c10
         by_cases c11:a2=0
         ·
          rw [if_pos c11] at H
          exact absurd H (by simp)
         ·
          rw [if_neg c11] at H
          have c11b0:=beq_eq_false_iff_ne.mpr c11
          have c11b1:=bne_iff_ne.mpr c11
          have H':=ζa H
          clear H
          go_wp2
          go_roundg k2
          case measure=>have:=HK1.out;have:=HK2.out;omega
          case rel=>exact ⟨(ζm ((ζm (x10_1 * 10))+(ζm (x13_2+(ζm (Int.tdiv (ζm (x14_2+(Int.tmod (ζm (Int.tdiv t192 x12_1)) 10))) a2)))))),(Int.tmod (ζm (x14_2+(Int.tmod (ζm (Int.tdiv t192 x12_1)) 10))) a2),(ζm (Int.tdiv x12_1 10)),(by rfl),(by rfl),(by rfl),H',⟨by have:=HK1.out;have:=HK2.out;omega⟩,by repeat (first|exact Drawn0.refl _|apply Drawn0.step)⟩
    ·
     rw [if_neg c7] at H
     have c7b0:decide (0<x12_1)=φ:=decide_eq_false c7
     clear c7
     simp only [Option.some.injEq,Prod.mk.injEq] at H
     obtain ⟨rfl,rfl⟩:=H
     go_wp2
     go_ret2
     exact ⟨by rfl,by repeat (first|exact Drawn0.refl _|apply Drawn0.step)⟩


open Go.Proofs.YtjhhehjjnfnigaaGreatDoorW.PrintWords renaming gate_dst → δx, below_step → δr, blk_cell → δl, blk_frozen → δm, gate_callee → δv, blk_drewN → δn, pw_below_drewN → δi
set_option maxHeartbeats 8000000
set_option maxRecDepth 100000

/-! ### spec_l09Fill: function 22 -/
def spec_l09Fill.j0:Nat→Int→Bool→Option (Int × Int)
 | 0,_,_=>none
 | k+1,x6,x20=>if x20=τ then (some (0,13)) else (if x6=0 then (some (0,17)) else (some (x6,0)))
def spec_l09Fill.f (k:Nat) (a0_0:ByteArray) (a0_1:ByteArray) (a0_2:Int) (a0_3:Int) (a0_4:Int) (a0_5:Bool) (a1:Int):Option (Int × Int):=if a0_5=τ then ((spec_l02MulDiv.f k a1 a0_2 a0_3).bind fun bt194=>(if bt194.2=τ then (spec_l09Fill.j0 k bt194.1 (decide (bt194.1 > a0_4))) else (spec_l09Fill.j0 k bt194.1 τ))) else (some (0,16))
theorem spec_l09Fill.calls (k:Nat) (a0_0:ByteArray) (a0_1:ByteArray) (a0_2:Int) (a0_3:Int) (a0_4:Int) (a0_5:Bool) (a1:Int) (r1:Int) (r2:Int) (w:World) (h:spec_l09Fill.f k a0_0 a0_1 a0_2 a0_3 a0_4 a0_5 a1=some (r1,r2)) :
  Calls Tryz.prog 22 #[.agg #[.string a0_0,.string a0_1,.int .i64 a0_2,.int .i64 a0_3,.int .i64 a0_4,.bool a0_5],.int .i64 a1] w fun e w'=>e = .returned (.tuple #[.int .i64 r1,.int .i64 r2])∧Below w.heap.size w w':=by
 have hu46:=Tryz.underlying46
 have HB:=ζa (Below.refl w.heap.size w)
 have H:(if a0_5=τ then ((spec_l02MulDiv.f k a1 a0_2 a0_3).bind fun bt194=>(if bt194.2=τ then (spec_l09Fill.j0 k bt194.1 (decide (bt194.1 > a0_4))) else (spec_l09Fill.j0 k bt194.1 τ))) else (some (0,16)))=some (r1,r2):=h
 clear h
 by_cases c3:a0_5=τ
 ·
  subst c3
  rw [ifT] at H
  obtain ⟨⟨t194,t195⟩,A4,H⟩:=bsm H
  dsimp only at H
  have HC5:=ζa H
  clear H
  go_enter Tryz.func22,Tryz.ntmps22
  go_upto_region 4 with (first|((with_reducible refine δx (N:=2) rfl ?_);refine bev 2 #[.string a0_0,.string a0_1,.int .i64 a0_2,.int .i64 a0_3,.int .i64 a0_4,.bool τ] 46 ?_;intro gb193 hg w6 hbox hb;have BK193:=ζa (hbox);have GW193:=ζa (gbw hg (by exact HB.out));have GE193:=ζa (gbw hg (by exact HB.out));replace HB:=ζa (δr (by exact HB.out) hb);clear hb hbox hg;have hcz7_0:w6.cell? ⟨gb193,0,none⟩=some (.string a0_0):=(δl BK193.out 0).trans rfl;have hcz7_1:w6.cell? ⟨gb193,1,none⟩=some (.string a0_1):=(δl BK193.out 1).trans rfl;have hcz7_2:w6.cell? ⟨gb193,2,none⟩=some (.int .i64 a0_2):=(δl BK193.out 2).trans rfl;have hcz7_3:w6.cell? ⟨gb193,3,none⟩=some (.int .i64 a0_3):=(δl BK193.out 3).trans rfl;have hcz7_4:w6.cell? ⟨gb193,4,none⟩=some (.int .i64 a0_4):=(δl BK193.out 4).trans rfl;have hcz7_5:w6.cell? ⟨gb193,5,none⟩=some (.bool τ):=(δl BK193.out 5).trans rfl;have hfz7_0:=δm BK193.out 0;have hfz7_1:=δm BK193.out 1;have hfz7_2:=δm BK193.out 2;have hfz7_3:=δm BK193.out 3;have hfz7_4:=δm BK193.out 4;have hfz7_5:=δm BK193.out 5)|((with_reducible refine δv (f:=45) rfl ?_);refine gl 17 Tryz.func45 #[.int .i64 a1,.int .i64 a0_2,.int .i64 a0_3] ?_;(with_reducible refine (spec_l02MulDiv.calls k a1 a0_2 a0_3 t194 t195 _ A4.out).mono ?_);rintro e w' ⟨rfl,⟨nd,rfl⟩⟩;refine ⟨_,rfl,?_⟩))
  (try simp only [ζl,δa,δb,δc])
  go_cut [20] (fun v20 wc => ∃ (kq:Nat) (x20_4:Bool),v20 = .bool x20_4∧Aside0 (spec_l09Fill.j0 kq t194 x20_4=some (r1,r2))∧Aside0 (kq≤k)∧Aside0 (wc.heap[gb193]? = some (.cells #[.string a0_0,.string a0_1,.int .i64 a0_2,.int .i64 a0_3,.int .i64 a0_4,.bool τ] 46 (0,0)))∧Aside0 (Below w.heap.size w wc))
  case first =>
   have H:=HC5.out
   clear HC5
   by_cases c8:t195=τ
   ·
    subst c8
    rw [ifT] at H
    have H':=ζa H
    clear H
    have hcz9_0:w6.cell? ⟨gb193,0,none⟩=some (.string a0_0):=(δl BK193.out 0).trans rfl
    have hcz9_1:w6.cell? ⟨gb193,1,none⟩=some (.string a0_1):=(δl BK193.out 1).trans rfl
    have hcz9_2:w6.cell? ⟨gb193,2,none⟩=some (.int .i64 a0_2):=(δl BK193.out 2).trans rfl
    have hcz9_3:w6.cell? ⟨gb193,3,none⟩=some (.int .i64 a0_3):=(δl BK193.out 3).trans rfl
    have hcz9_4:w6.cell? ⟨gb193,4,none⟩=some (.int .i64 a0_4):=(δl BK193.out 4).trans rfl
    have hcz9_5:w6.cell? ⟨gb193,5,none⟩=some (.bool τ):=(δl BK193.out 5).trans rfl
    have hfz9_0:=δm BK193.out 0
    have hfz9_1:=δm BK193.out 1
    have hfz9_2:=δm BK193.out 2
    have hfz9_3:=δm BK193.out 3
    have hfz9_4:=δm BK193.out 4
    have hfz9_5:=δm BK193.out 5
    go_wp2
    go_meet
    case rel=>exact ⟨_,(decide (t194 > a0_4)),(by rfl),H',⟨by omega⟩,⟨by (with_reducible repeat (refine δn ?_ _));exact BK193.out⟩,⟨by repeat ((with_reducible first|exact HB.out|apply δi))⟩⟩
   ·
    replace c8:=Bool.eq_false_iff.mpr c8
    subst c8
    rw [ifF] at H
    have H':=ζa H
    clear H
    go_wp2
    go_meet
    case rel=>exact ⟨_,(τ),(by rfl),H',⟨by omega⟩,⟨by (with_reducible repeat (refine δn ?_ _));exact BK193.out⟩,⟨by repeat ((with_reducible first|exact HB.out|apply δi))⟩⟩
  case rest =>
   clear HC5
   try clear c2
   try clear p2
   try clear c3
   try clear c4
   try clear c8
   try clear hcz7_0
   try clear hcz7_1
   try clear hcz7_2
   try clear hcz7_3
   try clear hcz7_4
   try clear hcz7_5
   try clear hcz9_0
   try clear hcz9_1
   try clear hcz9_2
   try clear hcz9_3
   try clear hcz9_4
   try clear hcz9_5
   try clear hfz7_0
   try clear hfz7_1
   try clear hfz7_2
   try clear hfz7_3
   try clear hfz7_4
   try clear hfz7_5
   try clear hfz9_0
   try clear hfz9_1
   try clear hfz9_2
   try clear hfz9_3
   try clear hfz9_4
   try clear hfz9_5
   obtain ⟨kq,x20_4,rfl,HA,HJ4,BK193,HB⟩:=hcut
   cases kq with
   | zero=>exact absurd HA.out (by simp [spec_l09Fill.j0])
   | succ kj4 =>
    have H:=HA.out
    clear HA
    simp only [spec_l09Fill.j0] at H
    by_cases c10:x20_4=τ
    ·
     subst c10
     rw [ifT] at H
     simp only [Option.some.injEq,Prod.mk.injEq] at H
     obtain ⟨rfl,rfl⟩:=H
     go_wp2
     go_ret2
     exact ⟨by rfl,by repeat ((with_reducible exact HB.out))⟩
    ·
     replace c10:=Bool.eq_false_iff.mpr c10
     subst c10
     rw [ifF] at H
     by_cases c11:t194=0
     ·
      rw [if_pos c11] at H
      have c11b0:=beq_iff_eq.mpr c11
      have c11b1:=bne_eq_false_iff_eq.mpr c11
      clear c11
      simp only [Option.some.injEq,Prod.mk.injEq] at H
      obtain ⟨rfl,rfl⟩:=H
      go_wp2
      go_ret2
      exact ⟨by rfl,by repeat ((with_reducible exact HB.out))⟩
     ·
      rw [if_neg c11] at H
      have c11b0:=beq_eq_false_iff_ne.mpr c11
      have c11b1:=bne_iff_ne.mpr c11
      simp only [Option.some.injEq,Prod.mk.injEq] at H
      obtain ⟨rfl,rfl⟩:=H
      go_wp2
      go_ret2
      exact ⟨by rfl,by repeat ((with_reducible exact HB.out))⟩
 ·
  replace c3:=Bool.eq_false_iff.mpr c3
  subst c3
  rw [ifF] at H
  simp only [Option.some.injEq,Prod.mk.injEq] at H
  obtain ⟨rfl,rfl⟩:=H
  go_enter Tryz.func22,Tryz.ntmps22
  go_wp2_with (((with_reducible refine δx (N:=2) rfl ?_);refine bev 2 #[.string a0_0,.string a0_1,.int .i64 a0_2,.int .i64 a0_3,.int .i64 a0_4,.bool φ] 46 ?_;intro gb193 hg w12 hbox hb;have BK193:=ζa (hbox);have GW193:=ζa (gbw hg (by exact HB.out));have GE193:=ζa (gbw hg (by exact HB.out));replace HB:=ζa (δr (by exact HB.out) hb);clear hb hbox hg;have hcz13_0:w12.cell? ⟨gb193,0,none⟩=some (.string a0_0):=(δl BK193.out 0).trans rfl;have hcz13_1:w12.cell? ⟨gb193,1,none⟩=some (.string a0_1):=(δl BK193.out 1).trans rfl;have hcz13_2:w12.cell? ⟨gb193,2,none⟩=some (.int .i64 a0_2):=(δl BK193.out 2).trans rfl;have hcz13_3:w12.cell? ⟨gb193,3,none⟩=some (.int .i64 a0_3):=(δl BK193.out 3).trans rfl;have hcz13_4:w12.cell? ⟨gb193,4,none⟩=some (.int .i64 a0_4):=(δl BK193.out 4).trans rfl;have hcz13_5:w12.cell? ⟨gb193,5,none⟩=some (.bool φ):=(δl BK193.out 5).trans rfl;have hfz13_0:=δm BK193.out 0;have hfz13_1:=δm BK193.out 1;have hfz13_2:=δm BK193.out 2;have hfz13_3:=δm BK193.out 3;have hfz13_4:=δm BK193.out 4;have hfz13_5:=δm BK193.out 5))
  go_ret2
  exact ⟨by rfl,by repeat ((with_reducible exact HB.out))⟩


open Go.Proofs.YtjhhehjjnfnigaaGreatDoorW.PrintWords renaming below_alloc → δk, pw_below_drewN → δi, blk_alloc → δo, gate_dst → δx, below_drew1 → δj, below_set → δq
open Go.Proofs.YtjhhehjjnfnigaaGreatDoorW.PrintWords.Kd renaming R_alloc → ζd
open List renaming length_take → δh
set_option maxHeartbeats 8000000
set_option maxRecDepth 100000


/-! ### spec_l03Put: function 24 -/
theorem C_one {w:World} {g:Nat} {a b:ByteArray} (h:w.heap[g]? = some (.cells #[.string a,.string b] 37 (0,0))):Kd.C k37 w (some ⟨g,0,none⟩) 1 [⟨a,b⟩]:=⟨rfl,by decide,fun _=>⟨_,rfl,fun j q hj=>by
  have hj0:j=0:=by
   rcases j with _|j
   · rfl
   ·
    simp at hj
  subst hj0
  have hq:(⟨a,b⟩:S37)=q:=by simpa using hj
  subst hq
  refine ⟨[.string a,.string b],rfl,k37.K_of_M (k37_mkM w 0 (fun _=>True) ⟨a,b⟩),fun t u hu => ?_⟩
  rw [Addr.add_lit,cell_of_row w g _ _ _ (0,0) h]
  rcases t with _|_|t
  · simpa using hu
  ·
   simpa using hu
  · simp at hu⟩⟩
theorem C_nilN {w:World} {A:Option Addr} {m:Nat} (h:m=0):Kd.C k37 w A m ([]:List S37):=⟨by rw [h];rfl,by rw [h];decide,fun hp=>absurd hp (by omega)⟩
def spec_l03Put.f (k:Nat) (l0:List S37) (a1 a2:ByteArray):Option (List S37 × Int) :=
 (spec_l03At.f k l0 a1).bind fun t=>if l0.length≤1000000 then (if 0≤t then (if t≤(l0.length:Int) then (if t<(l0.length:Int)∧((rd_T37 l0 t).f0).toList=a1.toList then some (l0.set t.toNat ⟨(rd_T37 l0 t).f0,a2⟩,0) else (if (l0.length:Int)=400 then some (l0,7) else some (l0.insertIdx t.toNat ⟨a1,a2⟩,0))) else none) else none) else none
theorem spec_l03Put.ins (l:List S37) (i:Nat) (p:S37) (h:i≤l.length):l.insertIdx i p = [] ++ l.take i ++ [p] ++ l.drop i:=by
 induction l generalizing i with
 | nil=>cases i with
  | zero=>rfl
  | succ i=>simp at h
 | cons x l ih=>cases i with
  | zero=>simp
  | succ i=>rw [List.insertIdx_succ_cons,ih i (by simpa using h)];simp
theorem spec_l03Put.miss (k:Nat) (A0:Option Addr) (c0:Nat) (l0:List S37) (a1 a2:ByteArray) (i:Nat) (w:World) (hr0:Kd.C k37 w A0 l0.length l0) (hc0:l0.length≤c0) (h1:spec_l03At.f k l0 a1=some (i:Int)) (hl:l0.length≤1000000) (hi:i≤l0.length) (hn:(i:Int)<(l0.length:Int) → ¬ ((rd_T37 l0 (i:Int)).f0).toList=a1.toList) (h4 : ¬ (l0.length:Int)=400) :
  Calls Tryz.prog 24 #[.slice A0 l0.length c0,.string a1,.string a2] w fun e w' => ∃ v0_:Value,e = .returned (.tuple #[v0_,.int .i64 0])∧Sf w w' (.slice A0 l0.length c0) l0 v0_ (l0.insertIdx i ⟨a1,a2⟩)∧Below w.heap.size w w':=by
 have H1:=ζa h1
 have HR0:=ζa hr0
 have HC0:=ζa hc0
 have HN:=ζa hn
 have c4:((l0.length:Int) == 400)=φ:=beq_eq_false_iff_ne.mpr h4
 have HTK:=ζa (C_takeN HR0.out (i:=i) (by omega))
 clear h1 hr0 hc0 hn h4
 go_enter Tryz.func24,Tryz.ntmps24
 go_wp2_with fail
 refine (spec_l03At.calls k A0 c0 l0 a1 (i:Int) _ HR0.out HC0.out H1.out).mono ?_
 rintro e w1 ⟨rfl,⟨q',rfl⟩⟩
 have p2:(i:Int)≤(c0:Int):=by have:=HC0.out;omega
 have p3:(i:Int)≤(l0.length:Int):=by omega
 have p4:(0:Int)≤(i:Int):=by omega
 by_cases g2:(i:Int)<(l0.length:Int)
 ·
  obtain ⟨ad,e1,hx0,hx1⟩:=at_T37 HR0.out (i:Int) p4 g2
  simp only [Int.toNat_natCast] at hx0 hx1
  cases e1
  have g6:(((rd_T37 l0 (i:Int)).f0).toList == a1.toList)=φ:=beq_eq_false_iff_ne.mpr (HN.out g2)
  have HDR:=ζa (C_dropN HR0.out HC0.out (i:=i) (by omega))
  go_wp2_with fail
  go_region_held3 (fun _=>True) (trivial) (first|((refine Kd.R_append_rows_step k37 (w0:=w) (Rr:=k37.K _) w.heap.size (by rfl) (.tmp 39) (.tmp 42) 24 37 (.agg #[(.string ⟨#[]⟩),(.string ⟨#[]⟩)]) 32 (by rfl) Tryz.underlying24 info37 rfl (by decide) (by decide) _ [] (l0.take i) _ _ _ (fun _=>True) (fun _=>False) (by rfl) (by rfl) (R_empty (Nat.le_refl _) (heap_alloc_new _ _)) (Kd.C_alloc (Kd.C_drewN HTK.out _) _) (fun x cs h=>by rw [k37_open h];exact k37_mkM _ _ _ x) (fun _ h=>h.elim) (fun _ _=>trivial) (δk (δi (Below.refl _ _) _) _) ((δk (δi (Below.refl _ _) _) _)).size (by simp only [List.length_nil];omega) ?_;intro v43 w43 ho43 hb43 hg hn;clear hg hn))|((refine Kd.R_append_rows_step k37 (w0:=w) (Rr:=k37.K _) w.heap.size (by rfl) (.tmp 39) (.tmp 42) 24 37 (.agg #[(.string ⟨#[]⟩),(.string ⟨#[]⟩)]) 32 (by rfl) Tryz.underlying24 info37 rfl (by decide) (by decide) _ [] (l0.take i) _ _ _ (fun _=>True) (fun _=>False) (by rfl) (by rfl) (R_empty (Nat.le_refl _) (δo (heap_alloc_new _ _) _)) (Kd.C_alloc (Kd.C_alloc (Kd.C_drewN HTK.out _) _) _) (fun x cs h=>by rw [k37_open h];exact k37_mkM _ _ _ x) (fun _ h=>h.elim) (fun _ _=>trivial) (δk (δk (δi (Below.refl _ _) _) _) _) ((δk (δk (δi (Below.refl _ _) _) _) _)).size (by simp only [List.length_nil];omega) ?_;intro v43 w43 ho43 hb43 hg hn;have hq:=heap_alloc_new ((w.drewN (q'+1)).alloc (.cells #[] 37)) (.cells #[.string a1,.string a2] 37);rw [show ((w.drewN (q'+1)).alloc (.cells #[] 37)).heap.size=w.heap.size+1 by simp] at hq;have hp43:=(hg.block _ (blk_lt hq) (show some (w.heap.size+1)≠some w.heap.size by simp)).trans hq;clear hg hn hq))|((refine Kd.R_append_rows_step k37 (w0:=w) (Rr:=k37.K _) w.heap.size (by rfl) (.tmp 39) (.tmp 42) 24 37 (.agg #[(.string ⟨#[]⟩),(.string ⟨#[]⟩)]) 32 (by rfl) Tryz.underlying24 info37 rfl (by decide) (by decide) _ [] (l0.take i) _ _ _ (fun _=>True) (fun _=>False) (by rfl) (by rfl) (R_empty (Nat.le_succ _) (by have hq:=heap_alloc_new ((w.drewN (q'+1)).alloc (.cells #[.string a1,.string a2] 37)) (.cells #[] 37);rw [show ((w.drewN (q'+1)).alloc (.cells #[.string a1,.string a2] 37)).heap.size=w.heap.size+1 by simp] at hq;exact hq)) (Kd.C_alloc (Kd.C_alloc (Kd.C_drewN HTK.out _) _) _) (fun x cs h=>by rw [k37_open h];exact k37_mkM _ _ _ x) (fun _ h=>h.elim) (fun _ _=>trivial) (δk (δk (δi (Below.refl _ _) _) _) _) ((δk (δk (δi (Below.refl _ _) _) _) _)).size (by simp only [List.length_nil];omega) ?_;intro v43 w43 ho43 hb43 hg hn;have hq:=δo (heap_alloc_new (w.drewN (q'+1)) (.cells #[.string a1,.string a2] 37)) (.cells #[] 37);have hp43:=(hg.block _ (blk_lt hq) (show some w.heap.size≠some (w.heap.size+1) by simp)).trans hq;clear hg hn hq))|((refine Kd.R_append_rows_step k37 (w0:=w) (Rr:=k37.K _) w.heap.size (by rfl) (.tmp 43) (.tmp 47) 24 37 (.agg #[(.string ⟨#[]⟩),(.string ⟨#[]⟩)]) 32 (by rfl) Tryz.underlying24 info37 rfl (by decide) (by decide) _ _ [⟨a1,a2⟩] _ _ _ (fun _=>True) (fun _=>False) (by rfl) (by rfl) (ζd ho43 _) (C_one (heap_alloc_new _ _)) (fun x cs h=>by rw [k37_open h];exact k37_mkM _ _ _ x) (fun _ h=>h.elim) (fun _ _=>trivial) (δk hb43 _) ((δk hb43 _)).size (by simp only [List.nil_append,δh];omega) ?_;intro v48 w48 ho48 hb48 hg hn;clear hg hn))|((refine Kd.R_append_rows_step k37 (w0:=w) (Rr:=k37.K _) w.heap.size (by rfl) (.tmp 43) (.tmp 47) 24 37 (.agg #[(.string ⟨#[]⟩),(.string ⟨#[]⟩)]) 32 (by rfl) Tryz.underlying24 info37 rfl (by decide) (by decide) _ _ [⟨a1,a2⟩] _ _ _ (fun _=>True) (fun _=>False) (by rfl) (by rfl) ho43 (C_one hp43) (fun x cs h=>by rw [k37_open h];exact k37_mkM _ _ _ x) (fun _ h=>h.elim) (fun _ _=>trivial) hb43 (hb43).size (by simp only [List.nil_append,δh];omega) ?_;intro v48 w48 ho48 hb48 hg hn;clear hg hn))|((refine Kd.R_append_rows_step k37 (w0:=w) (Rr:=k37.K _) w.heap.size (by rfl) (.tmp 48) (.tmp 51) 24 37 (.agg #[(.string ⟨#[]⟩),(.string ⟨#[]⟩)]) 32 (by rfl) Tryz.underlying24 info37 rfl (by decide) (by decide) _ _ (l0.drop i) _ _ _ (fun _=>True) (fun _=>False) (by rfl) (by rfl) ho48 (Kd.C_below HDR.out hb48) (fun x cs h=>by rw [k37_open h];exact k37_mkM _ _ _ x) (fun _ h=>h.elim) (fun _ _=>trivial) hb48 (hb48).size (by simp only [List.nil_append,List.length_append,δh,List.length_singleton];omega) ?_;intro v52 w52 ho52 hb52 hg hn;clear hg hn)))
  all_goals (rw [← spec_l03Put.ins l0 i ⟨a1,a2⟩ hi] at ho52;have HO52:=ζa ho52;have HB52:=ζa hb52;clear ho52 hb52 ho48 hb48 ho43 hb43)
  all_goals go_wp2
  all_goals (go_ret2;exact ⟨_,rfl,⟨Or.inr HO52.out⟩,HB52.out⟩)
 ·
  obtain rfl:i=l0.length:=by omega
  clear g2
  go_wp2_with fail
  go_region_held3 (fun _=>True) (trivial) (first|((refine Kd.R_append_rows_step k37 (w0:=w) (Rr:=k37.K _) w.heap.size (by rfl) (.tmp 39) (.tmp 42) 24 37 (.agg #[(.string ⟨#[]⟩),(.string ⟨#[]⟩)]) 32 (by rfl) Tryz.underlying24 info37 rfl (by decide) (by decide) _ [] (l0.take l0.length) _ _ _ (fun _=>True) (fun _=>False) (by rfl) (by rfl) (R_empty (Nat.le_refl _) (heap_alloc_new _ _)) (Kd.C_alloc (Kd.C_drewN HTK.out _) _) (fun x cs h=>by rw [k37_open h];exact k37_mkM _ _ _ x) (fun _ h=>h.elim) (fun _ _=>trivial) (δk (δi (Below.refl _ _) _) _) ((δk (δi (Below.refl _ _) _) _)).size (by simp only [List.length_nil];omega) ?_;intro v43 w43 ho43 hb43 hg hn;clear hg hn))|((refine Kd.R_append_rows_step k37 (w0:=w) (Rr:=k37.K _) w.heap.size (by rfl) (.tmp 39) (.tmp 42) 24 37 (.agg #[(.string ⟨#[]⟩),(.string ⟨#[]⟩)]) 32 (by rfl) Tryz.underlying24 info37 rfl (by decide) (by decide) _ [] (l0.take l0.length) _ _ _ (fun _=>True) (fun _=>False) (by rfl) (by rfl) (R_empty (Nat.le_refl _) (δo (heap_alloc_new _ _) _)) (Kd.C_alloc (Kd.C_alloc (Kd.C_drewN HTK.out _) _) _) (fun x cs h=>by rw [k37_open h];exact k37_mkM _ _ _ x) (fun _ h=>h.elim) (fun _ _=>trivial) (δk (δk (δi (Below.refl _ _) _) _) _) ((δk (δk (δi (Below.refl _ _) _) _) _)).size (by simp only [List.length_nil];omega) ?_;intro v43 w43 ho43 hb43 hg hn;have hq:=heap_alloc_new ((w.drewN (q'+1)).alloc (.cells #[] 37)) (.cells #[.string a1,.string a2] 37);rw [show ((w.drewN (q'+1)).alloc (.cells #[] 37)).heap.size=w.heap.size+1 by simp] at hq;have hp43:=(hg.block _ (blk_lt hq) (show some (w.heap.size+1)≠some w.heap.size by simp)).trans hq;clear hg hn hq))|((refine Kd.R_append_rows_step k37 (w0:=w) (Rr:=k37.K _) w.heap.size (by rfl) (.tmp 39) (.tmp 42) 24 37 (.agg #[(.string ⟨#[]⟩),(.string ⟨#[]⟩)]) 32 (by rfl) Tryz.underlying24 info37 rfl (by decide) (by decide) _ [] (l0.take l0.length) _ _ _ (fun _=>True) (fun _=>False) (by rfl) (by rfl) (R_empty (Nat.le_succ _) (by have hq:=heap_alloc_new ((w.drewN (q'+1)).alloc (.cells #[.string a1,.string a2] 37)) (.cells #[] 37);rw [show ((w.drewN (q'+1)).alloc (.cells #[.string a1,.string a2] 37)).heap.size=w.heap.size+1 by simp] at hq;exact hq)) (Kd.C_alloc (Kd.C_alloc (Kd.C_drewN HTK.out _) _) _) (fun x cs h=>by rw [k37_open h];exact k37_mkM _ _ _ x) (fun _ h=>h.elim) (fun _ _=>trivial) (δk (δk (δi (Below.refl _ _) _) _) _) ((δk (δk (δi (Below.refl _ _) _) _) _)).size (by simp only [List.length_nil];omega) ?_;intro v43 w43 ho43 hb43 hg hn;have hq:=δo (heap_alloc_new (w.drewN (q'+1)) (.cells #[.string a1,.string a2] 37)) (.cells #[] 37);have hp43:=(hg.block _ (blk_lt hq) (show some w.heap.size≠some (w.heap.size+1) by simp)).trans hq;clear hg hn hq))|((refine Kd.R_append_rows_step k37 (w0:=w) (Rr:=k37.K _) w.heap.size (by rfl) (.tmp 43) (.tmp 47) 24 37 (.agg #[(.string ⟨#[]⟩),(.string ⟨#[]⟩)]) 32 (by rfl) Tryz.underlying24 info37 rfl (by decide) (by decide) _ _ [⟨a1,a2⟩] _ _ _ (fun _=>True) (fun _=>False) (by rfl) (by rfl) (ζd ho43 _) (C_one (heap_alloc_new _ _)) (fun x cs h=>by rw [k37_open h];exact k37_mkM _ _ _ x) (fun _ h=>h.elim) (fun _ _=>trivial) (δk hb43 _) ((δk hb43 _)).size (by simp only [List.nil_append,δh];omega) ?_;intro v48 w48 ho48 hb48 hg hn;clear hg hn))|((refine Kd.R_append_rows_step k37 (w0:=w) (Rr:=k37.K _) w.heap.size (by rfl) (.tmp 43) (.tmp 47) 24 37 (.agg #[(.string ⟨#[]⟩),(.string ⟨#[]⟩)]) 32 (by rfl) Tryz.underlying24 info37 rfl (by decide) (by decide) _ _ [⟨a1,a2⟩] _ _ _ (fun _=>True) (fun _=>False) (by rfl) (by rfl) ho43 (C_one hp43) (fun x cs h=>by rw [k37_open h];exact k37_mkM _ _ _ x) (fun _ h=>h.elim) (fun _ _=>trivial) hb43 (hb43).size (by simp only [List.nil_append,δh];omega) ?_;intro v48 w48 ho48 hb48 hg hn;clear hg hn))|((refine Kd.R_append_rows_step k37 (w0:=w) (Rr:=k37.K _) w.heap.size (by rfl) (.tmp 48) (.tmp 51) 24 37 (.agg #[(.string ⟨#[]⟩),(.string ⟨#[]⟩)]) 32 (by rfl) Tryz.underlying24 info37 rfl (by decide) (by decide) _ _ [] _ _ _ (fun _=>True) (fun _=>False) (by rfl) (by rfl) ho48 (C_nilN (by rfl)) (fun x cs h=>by rw [k37_open h];exact k37_mkM _ _ _ x) (fun _ h=>h.elim) (fun _ _=>trivial) hb48 (hb48).size (by simp only [List.nil_append,List.length_append,δh,List.length_singleton];omega) ?_;intro v52 w52 ho52 hb52 hg hn;clear hg hn)))
  all_goals (rw [show [] ++ l0.take l0.length ++ [⟨a1,a2⟩] ++ []=l0 ++ [⟨a1,a2⟩] by simp] at ho52;have HO52:=ζa ho52;have HB52:=ζa hb52;clear ho52 hb52 ho48 hb48 ho43 hb43)
  all_goals go_wp2
  all_goals (go_ret2;exact ⟨_,rfl,⟨Or.inr HO52.out⟩,HB52.out⟩)
theorem spec_l03Put.calls (k:Nat) (A0:Option Addr) (c0:Nat) (l0:List S37) (a1 a2:ByteArray) (r1:List S37) (r2:Int) (w:World) (hr0:Kd.C k37 w A0 l0.length l0) (hc0:l0.length≤c0) (h:spec_l03Put.f k l0 a1 a2=some (r1,r2)) :
  Calls Tryz.prog 24 #[.slice A0 l0.length c0,.string a1,.string a2] w fun e w' => ∃ v0_:Value,e = .returned (.tuple #[v0_,.int .i64 r2])∧Sf w w' (.slice A0 l0.length c0) l0 v0_ r1∧Below w.heap.size w w':=by
 obtain ⟨t,h1,h⟩:=Option.bind_eq_some_iff.mp h
 by_cases hl:l0.length≤1000000
 ·
  rw [if_pos hl] at h
  by_cases g1:0≤t
  ·
   rw [if_pos g1] at h
   by_cases g0:t≤(l0.length:Int)
   ·
    rw [if_pos g0] at h
    obtain ⟨i,rfl⟩ : ∃ i:Nat,t=(i:Int):=⟨t.toNat,by omega⟩
    by_cases g2:(i:Int)<(l0.length:Int)∧((rd_T37 l0 (i:Int)).f0).toList=a1.toList
    ·
     rw [if_pos g2] at h
     simp only [Option.some.injEq,Prod.mk.injEq] at h
     obtain ⟨rfl,rfl⟩:=h
     obtain ⟨g2,g4⟩:=g2
     have H1:=ζa h1
     have HR0:=ζa hr0
     have HC0:=ζa hc0
     clear h1 hr0 hc0
     go_enter Tryz.func24,Tryz.ntmps24
     go_wp2_with fail
     refine (spec_l03At.calls k A0 c0 l0 a1 (i:Int) _ HR0.out HC0.out H1.out).mono ?_
     rintro e w1 ⟨rfl,⟨q',rfl⟩⟩
     obtain ⟨ad,e1,hx0,hx1⟩:=at_T37 HR0.out (i:Int) g1 g2
     simp only [Int.toNat_natCast] at hx0 hx1
     cases e1
     have g6:(((rd_T37 l0 (i:Int)).f0).toList == a1.toList)=τ:=beq_iff_eq.mpr g4
     have HX0:=ζa hx0
     clear g4
     go_wp2_with (first
      | ((with_reducible refine δx (N:=26) rfl ?_);refine Kd.R_lit k37 w.heap.size 37 ?hg (N:=26) ?hd (w0:=w) (xs:=([]:List S37)) (inner:=[]) (ok:=fun _=>True) (okp:=fun _=>True) ?hr ?hp (fun _ hk=>hk) trivial (by repeat (first|exact Below.refl _ _|apply δj|apply δi)) (by exact Nat.le_refl _) (by simp) ?_;(case hd=>rfl);(case hg=>rfl);(case hr=>first|(go_simp;done)|(go_simp;rfl));(case hp=>exact (Reps.none _ _));intro v26 w26 ho26 hb26 hg_ hnew_;clear hg_ hnew_;have HO:=ζa ho26;have HB:=ζa hb26;clear ho26 hb26)
      | ((with_reducible refine δx (N:=28) rfl ?_);refine Kd.R_append_rows (w0:=w) (Rr:=k37.K w26) k37 w.heap.size ?hg (.tmp 26) (.tmp 27) 24 37 (.agg #[(.string ⟨#[]⟩),(.string ⟨#[]⟩)]) 32 rfl Tryz.underlying24 info37 rfl (by decide) (by decide) v26 [] l0 (some ad) l0.length c0 (fun _=>True) (fun _=>False) rfl rfl HO.out (Kd.C_below HR0.out HB.out) (fun x cs h=>by rw [k37_open h];exact k37_mkM _ _ _ x) (fun _ h=>h.elim) (fun _ _=>trivial) HB.out HB.out.size (by simp only [List.length_nil];omega) ?_;(case hg=>rfl);intro v28 w28 ho28 hb28 hg_ hnew_;clear hg_ hnew_;obtain ⟨g,c,rfl,hwg⟩ : ∃ g c,v28 = .slice (some ⟨g,0,none⟩) l0.length c∧w.heap.size≤g:=(by obtain ⟨g,c,hv,hb,_⟩:=Kd.R_form ho28 (by simp only [List.nil_append];omega);exact ⟨g,c,hv,hb⟩);have HO28:Aside0 (Kd.R k37 37 w28 w.heap.size (fun _=>True) (.slice (some ⟨g,0,none⟩) l0.length c) l0):=⟨ho28⟩;have HB28:=ζa hb28;have HG:=ζa hwg;clear ho28 hb28 hwg;obtain ⟨ce,hcl,hM,hcc,hfr⟩:=Kd.R_elem HO28.out z37 (i:Int) g1 g2;obtain rfl:=k37_openM hM;have HP:=ζa (Kd.R_seg HO28.out (i:Int) g1 g2 (seg:=[.string a2]) (j:=1) hcl hcc (show 2≤2 from by decide) (x':=(⟨(rd_T37 l0 (i:Int)).f0,a2⟩:S37)) (k37_mkM _ _ _ (⟨(rd_T37 l0 (i:Int)).f0,a2⟩:S37)) (fun _ hk=>hk));have hy1:w28.cell? ⟨g,i * 2+1,none⟩=some (.string ((rd_T37 l0 (i:Int)).f1)):=hcc 1 _ rfl;have hf1:w28.frozen? ⟨g,i * 2+1,none⟩=φ:=hfr 1;clear hcl hcc hfr hM)
      | ((with_reducible refine gate_store (t:=9) (p:=33) rfl ?_);refine store_event (t:=9) (p:=33) (v:=?vo) (w1:=(w28.setCell ⟨g,i * 2+1,none⟩ (.string a2))) ?hg ?ho ?hn ?hr ?_;(case ho=>rfl);(case hg=>rfl);(case hn=>rfl);(case hr=>(go_simp;done));intro w3 hw;have HO3:Aside0 (Kd.R k37 37 w3 w.heap.size (fun _=>True) (.slice (some ⟨g,0,none⟩) l0.length c) (l0.set (i:Int).toNat ⟨(rd_T37 l0 (i:Int)).f0,a2⟩)):=⟨by rw [hw];exact HP.out.1⟩;have HB3:Aside0 (Below w.heap.size w w3):=⟨by rw [hw];exact δq HB28.out HG.out⟩;clear hw))
     go_wp2
     go_ret2
     exact ⟨_,rfl,⟨Or.inr HO3.out⟩,HB3.out⟩
    ·
     rw [if_neg g2] at h
     by_cases g3:(l0.length:Int)=400
     ·
      rw [if_pos g3] at h
      simp only [Option.some.injEq,Prod.mk.injEq] at h
      obtain ⟨rfl,rfl⟩:=h
      have H1:=ζa h1
      have HR0:=ζa hr0
      have HC0:=ζa hc0
      have HN:=ζa g2
      have c4:((l0.length:Int) == 400)=τ:=beq_iff_eq.mpr g3
      have c5:(l0.length == 400)=τ:=beq_iff_eq.mpr (by omega)
      have HB1:Aside0 (Below w.heap.size w w):=⟨Below.refl _ _⟩
      clear h1 hr0 hc0 g2 g3
      go_enter Tryz.func24,Tryz.ntmps24
      go_wp2_with fail
      refine (spec_l03At.calls k A0 c0 l0 a1 (i:Int) _ HR0.out HC0.out H1.out).mono ?_
      rintro e w1 ⟨rfl,⟨q',rfl⟩⟩
      by_cases g2:(i:Int)<(l0.length:Int)
      ·
       obtain ⟨ad,e1,hx0,hx1⟩:=at_T37 HR0.out (i:Int) g1 g2
       simp only [Int.toNat_natCast] at hx0 hx1
       cases e1
       have g6:(((rd_T37 l0 (i:Int)).f0).toList == a1.toList)=φ:=beq_eq_false_iff_ne.mpr (fun e=>HN.out ⟨g2,e⟩)
       go_wp2
       go_ret2
       exact ⟨_,rfl,⟨Or.inl ⟨rfl,rfl⟩⟩,by repeat (first|exact HB1.out|apply δi)⟩
      ·
       have g2b:decide ((i:Int)<(l0.length:Int))=φ:=decide_eq_false g2
       go_wp2
       go_ret2
       exact ⟨_,rfl,⟨Or.inl ⟨rfl,rfl⟩⟩,by repeat (first|exact HB1.out|apply δi)⟩
     ·
      rw [if_neg g3] at h
      simp only [Option.some.injEq,Prod.mk.injEq] at h
      obtain ⟨rfl,rfl⟩:=h
      exact spec_l03Put.miss k A0 c0 l0 a1 a2 i w hr0 hc0 h1 hl (by omega) (fun h5 e=>g2 ⟨h5,e⟩) g3
   · rw [if_neg g0] at h;cases h
  ·
   rw [if_neg g1] at h;cases h
 · rw [if_neg hl] at h;cases h


open Go.Proofs.YtjhhehjjnfnigaaGreatDoorW.PrintWords renaming gate_callee → δv, pw_below_drewN → δi
set_option maxHeartbeats 8000000
set_option maxRecDepth 100000

/-! ### spec_l05Read: function 78 -/
def spec_l05Read.f (k:Nat) (l0:List (S37)) (a1:ByteArray):Option (Int):=(spec_l03Get.f k l0 a1).bind fun bt196=>(if bt196.2=τ then ((spec_l02Of.f k bt196.1).bind fun t198=>(some (mx 0 t198))) else (some 0))
theorem spec_l05Read.calls (k:Nat) (A0:Option Addr) (c0:Nat) (l0:List (S37)) (a1:ByteArray) (r:Int) (w:World) (hr0:Kd.C k37 w A0 l0.length l0) (hc0:l0.length≤c0) (h:spec_l05Read.f k l0 a1=some r) :
  Calls Tryz.prog 78 #[.slice A0 l0.length c0,.string a1] w fun e w'=>e = .returned (.int .i64 r)∧Below w.heap.size w w':=by
 have HR0:=ζa hr0
 have HC0:=ζa hc0
 clear hr0 hc0
 have HB:=ζa (Below.refl w.heap.size w)
 have H:((spec_l03Get.f k l0 a1).bind fun bt196=>(if bt196.2=τ then ((spec_l02Of.f k bt196.1).bind fun t198=>(some (mx 0 t198))) else (some 0)))=some r:=h
 clear h
 obtain ⟨⟨t196,t197⟩,A3,H⟩:=bsm H
 dsimp only at H
 by_cases c4:t197=τ
 ·
  subst c4
  rw [ifT] at H
  obtain ⟨t198,A5,H⟩:=bsm H
  obtain ⟨ji6,hji6⟩ : ∃ j_:Int,(mx 0 t198)=j_:=⟨_,rfl⟩
  replace H:(some ji6)=some r:=by (rw [hji6] at H;exact H)
  (try rw [hji6] at A3)
  (try rw [hji6] at A5)
  (try (have hji6l:0≤ji6:=by (rw [← hji6];unfold mx;(repeat' split) <;> omega)))
  (try (have hji6m:0≤ji6:=by omega))
  have hji6_:(if 0<t198 then t198 else 0)=ji6:=hji6
  obtain rfl:=Option.some.inj H
  go_enter Tryz.func78,Tryz.ntmps78
  go_wp2_with (first|((with_reducible refine δv (f:=43) rfl ?_);refine gl 10 Tryz.func43 #[.slice A0 l0.length c0,.string a1] ?_;(with_reducible refine (spec_l03Get.calls k _ _ l0 a1 t196 τ _ ?side1 ?side2 A3.out).mono ?_);(case side1=>repeat (exact HR0.out));(case side2=>exact HC0.out);rintro e w' ⟨rfl,⟨nd,rfl⟩⟩;refine ⟨_,rfl,?_⟩)|((with_reducible refine δv (f:=42) rfl ?_);refine gl 16 Tryz.func42 #[.string t196] ?_;(with_reducible refine (spec_l02Of.calls k t196 t198 _ A5.out).mono ?_);rintro e w' ⟨rfl,⟨nd,rfl⟩⟩;refine ⟨_,rfl,?_⟩))
  go_ret
  exact ⟨by rfl,by repeat ((with_reducible first|exact HB.out|apply δi))⟩
 ·
  replace c4:=Bool.eq_false_iff.mpr c4
  subst c4
  rw [ifF] at H
  obtain rfl:=Option.some.inj H
  go_enter Tryz.func78,Tryz.ntmps78
  go_wp2_with (((with_reducible refine δv (f:=43) rfl ?_);refine gl 10 Tryz.func43 #[.slice A0 l0.length c0,.string a1] ?_;(with_reducible refine (spec_l03Get.calls k _ _ l0 a1 t196 φ _ ?side1 ?side2 A3.out).mono ?_);(case side1=>repeat (exact HR0.out));(case side2=>exact HC0.out);rintro e w' ⟨rfl,⟨nd,rfl⟩⟩;refine ⟨_,rfl,?_⟩))
  go_ret
  exact ⟨by rfl,by repeat ((with_reducible first|exact HB.out|apply δi))⟩


open Go.Proofs.YtjhhehjjnfnigaaGreatDoorW.PrintWords renaming gate_callee → δv, below_step → δr, gate_dst → δx, below_size → δs, below_drew1 → δj
open Go.Proofs.YtjhhehjjnfnigaaGreatDoorW.PrintWords.Kd renaming R_below → ζh
set_option maxHeartbeats 8000000
set_option maxRecDepth 100000

/-! ### spec_l00Digits: function 50 -/
def spec_l00Digits.f:Nat→Int→Option (ByteArray)
 | 0,_=>none
 | k+1,a0=>if a0=(-9223372036854775808) then (some (⟨#[45,57,50,50,51,51,55,50,48,51,54,56,53,52,55,55,53,56,48,56]⟩:ByteArray)) else (if a0<0 then ((spec_l00Digits.f k (ζm (-a0))).bind fun t199=>(if 1+t199.size≤9223372036854775807 then (some ((⟨#[45]⟩:ByteArray) ++ t199)) else (none))) else (if a0<10 then (some (strOfNums (([(ζm (48+a0)) % 256]:List Int)))) else ((spec_l00Digits.f k (ζm (Int.tdiv a0 10))).bind fun t203=>((some (([(ζm (48+(Int.tmod a0 10))) % 256]:List Int):List Int)).bind fun y204=>(if t203.size+(strOfNums y204).size≤9223372036854775807 then (some (t203 ++ (strOfNums y204))) else (none))))))
def spec_l00Digits.T7:Bool × List (List Nat × List Nat):=(τ,[([],[]),([0],[0]),([1],[1]),([],[]),([3],[3]),([4],[4]),([5],[5]),([6],[6]),([7],[7]),([2,8],[2,8]),([9,2,0,1,2,3,4,5,6,7,8,9],[9])])
def spec_l00Digits.B7:List Nat:=[0,1,3,0,8,24,56,120,248,511,1023]
theorem spec_l00Digits.tab7:rtab .any (opsOf Tryz.f50 7)=spec_l00Digits.T7:=by kernel_rfl
theorem spec_l00Digits.bits7:waitsOk spec_l00Digits.T7.2 spec_l00Digits.B7=τ:=by kernel_rfl
theorem spec_l00Digits.calls (k:Nat) : ∀ (a0:Int) (r:ByteArray) (w:World) (h:spec_l00Digits.f k a0=some r),
  Calls Tryz.prog 50 #[.int .i64 a0] w fun e w'=>e = .returned (.string r)∧Below w.heap.size w w':=by
 induction k using Nat.strongRecOn with
 | _ k ih =>
 intro a0 r w h
 cases k with
 | zero=>exact absurd h (by simp [spec_l00Digits.f])
 | succ k =>
 simp only [spec_l00Digits.f] at h
 have HB:=ζa (Below.refl w.heap.size w)
 have H:(if a0=(-9223372036854775808) then (some (⟨#[45,57,50,50,51,51,55,50,48,51,54,56,53,52,55,55,53,56,48,56]⟩:ByteArray)) else (if a0<0 then ((spec_l00Digits.f k (ζm (-a0))).bind fun t199=>(if 1+t199.size≤9223372036854775807 then (some ((⟨#[45]⟩:ByteArray) ++ t199)) else (none))) else (if a0<10 then (some (strOfNums (([(ζm (48+a0)) % 256]:List Int)))) else ((spec_l00Digits.f k (ζm (Int.tdiv a0 10))).bind fun t203=>((some (([(ζm (48+(Int.tmod a0 10))) % 256]:List Int):List Int)).bind fun y204=>(if t203.size+(strOfNums y204).size≤9223372036854775807 then (some (t203 ++ (strOfNums y204))) else (none)))))))=some r:=h
 clear h
 by_cases c2:a0=(-9223372036854775808)
 ·
  rw [if_pos c2] at H
  have c2b0:=beq_iff_eq.mpr c2
  have c2b1:=bne_eq_false_iff_eq.mpr c2
  clear c2
  obtain rfl:=Option.some.inj H
  go_enter Tryz.func50,Tryz.ntmps50
  go_wp2
  go_ret
  exact ⟨by rfl,by repeat ((with_reducible exact HB.out))⟩
 ·
  rw [if_neg c2] at H
  have c2b0:=beq_eq_false_iff_ne.mpr c2
  have c2b1:=bne_iff_ne.mpr c2
  by_cases c3:a0<0
  ·
   rw [if_pos c3] at H
   have c3b0:=decide_eq_true c3
   clear c3
   obtain ⟨t199,A4,H⟩:=bsm H
   by_cases c5:1+t199.size≤9223372036854775807
   ·
    rw [if_pos c5] at H
    have c5b0:=eq_true c5
    have c5b1:=decide_eq_true c5
    try have c5b2:(9223372036854775807<1+t199.size)=False:=eq_false (Nat.not_lt.2 c5)
    obtain rfl:=Option.some.inj H
    go_enter Tryz.func50,Tryz.ntmps50
    go_wp2_with (((with_reducible refine δv (f:=50) rfl ?_);refine gl 9 Tryz.func50 #[.int .i64 (ζm (-a0))] ?_;(with_reducible refine (ih k (by omega) (ζm (-a0)) t199 _ A4.out).mono ?_);rintro e w6 ⟨rfl,hb⟩;refine ⟨_,rfl,?_⟩;replace HB:=ζa (δr (by exact HB.out) hb);(try clear hb);(try clear hb2);(try clear hk);(try clear hi)))
    go_ret
    exact ⟨by rfl,by repeat ((with_reducible exact HB.out))⟩
   ·
    rw [if_neg c5] at H
    exact absurd H (by simp)
  ·
   rw [if_neg c3] at H
   have c3b0:=decide_eq_false c3
   clear c3
   by_cases c7:a0<10
   ·
    rw [if_pos c7] at H
    have c7b0:=decide_eq_true c7
    clear c7
    obtain ⟨y200,hy200⟩ : ∃ y_:List Int,y_=(([(ζm (48+a0)) % 256]:List Int)):=⟨_,rfl⟩
    replace H:(some (strOfNums y200))=some r:=by (rw [hy200];with_reducible exact H)
    have Ny200:=ζa hy200
    clear hy200
    obtain rfl:=Option.some.inj H
    go_enter Tryz.func50,Tryz.ntmps50
    go_wp2_with (((with_reducible refine δx (N:=16) rfl ?_);refine Kd.R_lit (Kd.int .u8) _ 5 ?hg (N:=16) ?hd (xs:=([(ζm (48+a0)) % 256]:List Int)) (inner:=[.int .u8 ((ζm (48+a0)) % 256)]) (ok:=fun _=>True) (okp:=fun _=>True) ?hr ?hp (fun _ hk=>hk) trivial (Below.refl _ _) (Nat.le_refl _) (by simp) ?_;(case hd=>rfl);(case hg=>rfl);(case hr=>(go_simp;done));(case hp=>exact (Reps.one (show Kd.M (Kd.int .u8) _ _ _ ((ζm (48+a0)) % 256) [.int .u8 ((ζm (48+a0)) % 256)] from rfl) (Reps.none _ _)));intro v201 w8 ho9 hb hg_ hnew_;clear hg_ hnew_;(rw [← Ny200.out] at ho9);have HO202:=ζa (Kd.R_lower ho9 (δs (by exact HB.out)));replace HB:=ζa (δr (by exact HB.out) hb);clear hb ho9;have hcv10:=own_string (P:=Tryz.prog) Tryz.underlying70 Tryz.underlying5 Tryz.underlying9 (Kd.own_of_R HO202.out)))
    go_ret
    exact ⟨by rfl,by repeat ((with_reducible exact HB.out))⟩
   ·
    rw [if_neg c7] at H
    have c7b0:=decide_eq_false c7
    clear c7
    obtain ⟨t203,A11,H⟩:=bsm H
    obtain ⟨y204,hy204⟩ : ∃ y_:List Int,y_=(([(ζm (48+(Int.tmod a0 10))) % 256]:List Int)):=⟨_,rfl⟩
    replace H:(if t203.size+(strOfNums y204).size≤9223372036854775807 then (some (t203 ++ (strOfNums y204))) else (none))=some r:=by (have H2_:=(Option.bind_some _ _).symm.trans H;rw [hy204];with_reducible exact H2_)
    have Ny204:=ζa hy204
    clear hy204
    by_cases c12:t203.size+(strOfNums y204).size≤9223372036854775807
    ·
     rw [if_pos c12] at H
     have c12b0:=eq_true c12
     have c12b1:=decide_eq_true c12
     try have c12b2:(9223372036854775807<t203.size+(strOfNums y204).size)=False:=eq_false (Nat.not_lt.2 c12)
     obtain rfl:=Option.some.inj H
     go_enter Tryz.func50,Tryz.ntmps50
     try go_wp2
     replace HB:=ζa (δj HB.out)
     refine sta 11 (fun w'=>True) [] spec_l00Digits.tab7 spec_l00Digits.bits7 trivial (fun hHeld HT_ HW_ => ?_)
     generalize w.drew=w13 at HB hHeld ⊢
     refine pu 0 18 ?_
     refine pu 1 19 ?_
     refine pu 3 21 ?_
     refine pu 4 22 ?_
     refine pu 5 23 ?_
     refine pu 6 24 ?_
     refine join_ (σ:=Value) 2 #[τ,τ,τ,τ,τ,τ,τ,τ,τ,φ,φ] (fun s_ => [(20,.string t203),(25,s_),(26,.string (strOfNums y204))]) (fun s_ w'=>(Kd.R (Kd.int .u8) 5 w' w.heap.size (fun _=>True) s_ y204)∧(Below w.heap.size w w')) ?_ ?_
     rotate_left
     ·
      intro hCont
      refine tw 2 7 20 25 (fun K hK => ?_) (fun K hK => ?_)
      ·
       skip
       refine gs Tryz.func50 #[.int .i64 (ζm (Int.tdiv a0 10))] ?_
       with_reducible refine (ih k (by omega) (ζm (Int.tdiv a0 10)) t203 _ A11.out).mono ?_
       rintro e w14 ⟨rfl,hb⟩
       refine ⟨_,rfl,?_⟩
       replace HB:=ζa (δr (by exact HB.out) hb)
       (try clear hb)
       (try clear hb2)
       (try clear hk)
       (try clear hi)
       refine hK.out _ _ trivial (fun hHeld => ?_)
       clear hK K
       refine nm 20 ?_
       refine on 7 25 (fun K hK => ?_)
       refine Kd.R_lit_step (Kd.int .u8) _ 5 ?hg (N:=25) ?hd (xs:=([(ζm (48+(Int.tmod a0 10))) % 256]:List Int)) (inner:=[.int .u8 ((ζm (48+(Int.tmod a0 10))) % 256)]) (ok:=fun _=>True) (okp:=fun _=>True) ?hr ?hp (fun _ hk=>hk) trivial (Below.refl _ _) (Nat.le_refl _) (by simp) ?_;(case hd=>rfl);(case hg=>rfl);(case hr=>(go_simp;rfl));(case hp=>exact (Reps.one (show Kd.M (Kd.int .u8) _ _ _ ((ζm (48+(Int.tmod a0 10))) % 256) [.int .u8 ((ζm (48+(Int.tmod a0 10))) % 256)] from rfl) (Reps.none _ _)))
       intro v205 w15 ho16 hb hg_ hnew_
       clear hg_ hnew_
       (rw [← Ny204.out] at ho16)
       have HO206:=ζa (Kd.R_lower ho16 (δs (by exact HB.out)))
       replace HB:=ζa (δr (by exact HB.out) hb)
       clear hb ho16
       refine hK.out _ _ trivial (fun hHeld => ?_)
       clear hK K
       refine nm 25 ?_
       refine on 8 26 (fun K hK => ?_)
       have hcv17:=own_string (P:=Tryz.prog) Tryz.underlying70 Tryz.underlying5 Tryz.underlying9 (Kd.own_of_R HO206.out)
       refine value_ (w1:=?_) (v:=?_) (by rfl) rfl ?_ ?_
       rotate_left 2
       ·
        go_simp
        constructor
        · rfl
        ·
         rfl
       clear hcv17
       refine hK.out _ _ trivial (fun hHeld => ?_)
       clear hK K
       refine nm 26 ?_
       exact norm_ (by simp only [putAll,ζl,δa,δb,δc]) (hCont (v205) _ ⟨(by exact HO206.out),(by exact HB.out)⟩)
      ·
       skip
       refine Kd.R_lit_step (Kd.int .u8) _ 5 ?hg (N:=25) ?hd (xs:=([(ζm (48+(Int.tmod a0 10))) % 256]:List Int)) (inner:=[.int .u8 ((ζm (48+(Int.tmod a0 10))) % 256)]) (ok:=fun _=>True) (okp:=fun _=>True) ?hr ?hp (fun _ hk=>hk) trivial (Below.refl _ _) (Nat.le_refl _) (by simp) ?_;(case hd=>rfl);(case hg=>rfl);(case hr=>(go_simp;rfl));(case hp=>exact (Reps.one (show Kd.M (Kd.int .u8) _ _ _ ((ζm (48+(Int.tmod a0 10))) % 256) [.int .u8 ((ζm (48+(Int.tmod a0 10))) % 256)] from rfl) (Reps.none _ _)))
       intro v205 w14 ho15 hb hg_ hnew_
       clear hg_ hnew_
       (rw [← Ny204.out] at ho15)
       have HO206:=ζa (Kd.R_lower ho15 (δs (by exact HB.out)))
       replace HB:=ζa (δr (by exact HB.out) hb)
       clear hb ho15
       refine hK.out _ _ trivial (fun hHeld => ?_)
       clear hK K
       refine nm 25 ?_
       refine tw 2 8 20 26 (fun K hK => ?_) (fun K hK => ?_)
       ·
        skip
        refine gs Tryz.func50 #[.int .i64 (ζm (Int.tdiv a0 10))] ?_
        with_reducible refine (ih k (by omega) (ζm (Int.tdiv a0 10)) t203 _ A11.out).mono ?_
        rintro e w16 ⟨rfl,hb⟩
        refine ⟨_,rfl,?_⟩
        replace HO206:=ζa (ζh (by exact HO206.out) hb)
        replace HB:=ζa (δr (by exact HB.out) hb)
        (try clear hb)
        (try clear hb2)
        (try clear hk)
        (try clear hi)
        refine hK.out _ _ trivial (fun hHeld => ?_)
        clear hK K
        refine nm 20 ?_
        refine on 8 26 (fun K hK => ?_)
        have hcv17:=own_string (P:=Tryz.prog) Tryz.underlying70 Tryz.underlying5 Tryz.underlying9 (Kd.own_of_R HO206.out)
        refine value_ (w1:=?_) (v:=?_) (by rfl) rfl ?_ ?_
        rotate_left 2
        ·
         go_simp
         constructor
         · rfl
         ·
          rfl
        clear hcv17
        refine hK.out _ _ trivial (fun hHeld => ?_)
        clear hK K
        refine nm 26 ?_
        exact norm_ (by simp only [putAll,ζl,δa,δb,δc]) (hCont (v205) _ ⟨(by exact HO206.out),(by exact HB.out)⟩)
       ·
        skip
        have hcv16:=own_string (P:=Tryz.prog) Tryz.underlying70 Tryz.underlying5 Tryz.underlying9 (Kd.own_of_R HO206.out)
        refine value_ (w1:=?_) (v:=?_) (by rfl) rfl ?_ ?_
        rotate_left 2
        ·
         go_simp
         constructor
         · rfl
         ·
          rfl
        clear hcv16
        refine hK.out _ _ trivial (fun hHeld => ?_)
        clear hK K
        refine nm 26 ?_
        refine on 2 20 (fun K hK => ?_)
        refine gs Tryz.func50 #[.int .i64 (ζm (Int.tdiv a0 10))] ?_
        with_reducible refine (ih k (by omega) (ζm (Int.tdiv a0 10)) t203 _ A11.out).mono ?_
        rintro e w17 ⟨rfl,hb⟩
        refine ⟨_,rfl,?_⟩
        replace HO206:=ζa (ζh (by exact HO206.out) hb)
        replace HB:=ζa (δr (by exact HB.out) hb)
        (try clear hb)
        (try clear hb2)
        (try clear hk)
        (try clear hi)
        refine hK.out _ _ trivial (fun hHeld => ?_)
        clear hK K
        refine nm 20 ?_
        exact norm_ (by simp only [putAll,ζl,δa,δb,δc]) (hCont (v205) _ ⟨(by exact HO206.out),(by exact HB.out)⟩)
     rintro v205 w18 ⟨h0_,h1_⟩
     have n0_:Aside0 (Kd.R (Kd.int .u8) 5 w18 w.heap.size (fun _=>True) v205 y204):=⟨h0_⟩
     have n1_:Aside0 (Below w.heap.size w w18):=⟨h1_⟩
     clear HB
     clear h0_ h1_
     have HO206:=n0_
     have HB:=n1_
     clear n0_ n1_
     have hHeld:=trivial
     refine norm_ (a':=?_) ?_ ?_
     rotate_left
     · simp only [putAll,ζl,δa,δb,δc];rfl
     refine pu 9 27 ?_
     refine pu 10 2 ?_
     refine done_ (done_of HT_.out (by kernel_rfl)) ?_
     try go_wp2
     go_ret
     exact ⟨by rfl,by repeat ((with_reducible exact HB.out))⟩
    ·
     rw [if_neg c12] at H
     exact absurd H (by simp)


open Go.Proofs.YtjhhehjjnfnigaaGreatDoorW.PrintWords renaming below_step → δr
set_option maxHeartbeats 8000000
set_option maxRecDepth 100000


/-! ### spec_l05Write: function 79 -/
def spec_l05Write.f (k:Nat) (list:List S37) (key:ByteArray) (n:Int):Option (List S37 × Int) :=
 if n=0 then ((spec_l03Drop.f k list key).bind fun q1=>some (q1.1,0)) else ((spec_l00Digits.f k n).bind fun q2=>(spec_l03Put.f k list key q2).bind fun q3=>some (q3.1,q3.2))
theorem spec_l05Write.calls (k:Nat) (A_list:Option Addr) (c_list:Nat) (list:List S37) (key:ByteArray) (n:Int) (r1:List S37) (r2:Int) (w:World) (hr0_list:Kd.C k37 w A_list list.length list) (hc0_list:list.length≤c_list) (h:spec_l05Write.f k list key n=some (r1,r2)) :
  Calls Tryz.prog 79 #[.slice A_list list.length c_list,.string key,.int .i64 n] w fun e w' => ∃ v0_:Value,e = .returned (.tuple #[v0_,.int .i64 r2])∧Sf w w' (.slice A_list list.length c_list) list v0_ r1∧Below w.heap.size w w':=by
 have HR0_list:=ζa hr0_list
 have HC0_list:=ζa hc0_list
 clear hr0_list hc0_list
 have HB0:=ζa (Below.refl w.heap.size w)
 unfold spec_l05Write.f at h
 have HH:=ζa h
 clear h
 go_enter Tryz.func79,Tryz.ntmps79
 have h:=HH.out
 clear HH
 by_cases cc1:n=0
 ·
  rw [if_pos cc1] at h
  have HH:=ζa h
  clear h
  have f1a:(n == 0)=τ:=beq_iff_eq.mpr cc1
  have f1b:(n != 0)=φ:=bne_eq_false_iff_eq.mpr cc1
  have C1:=ζa cc1
  clear cc1
  have h:=HH.out
  clear HH
  obtain ⟨⟨o1,c1⟩,h2_,h⟩:=Option.bind_eq_some_iff.mp h
  have HH:=ζa h
  have H2:=ζa h2_
  clear h h2_
  go_wp2_with fail
  refine (spec_l03Drop.calls k A_list c_list list key o1 c1 _ (by repeat (exact Kd.C_below HR0_list.out HB0.out)) HC0_list.out H2.out).mono ?_
  rintro e w2 ⟨v2,rfl,ho,hb⟩
  have hsf:=Sf.trans (by exact ⟨Or.inl ⟨rfl,rfl⟩⟩) ho hb (Below.size (show Below w.heap.size w _ from by repeat (exact HB0.out)))
  obtain ⟨adr2,cap2,rfl,hl2,hq2⟩:=Sf.reads ho (Kd.C_below HR0_list.out (δr (by repeat (exact HB0.out)) hb)) HC0_list.out
  have HC2:=ζa hl2
  have HRn2:=ζa hq2
  have HS2:=ζa hsf
  clear hl2 hq2 ho hsf
  have m_:=ζa (δr (by repeat (exact HB0.out)) hb)
  clear hb
  have HB2:=m_
  clear m_
  have h:=HH.out
  clear HH
  simp only [Option.some.injEq,Prod.mk.injEq] at h
  obtain ⟨rfl,rfl⟩:=h
  go_wp2
  go_ret2
  exact ⟨_,rfl,(by repeat (exact HS2.out)),(by repeat (exact HB2.out))⟩
 ·
  rw [if_neg cc1] at h
  have HH:=ζa h
  clear h
  have f1a:(n == 0)=φ:=beq_eq_false_iff_ne.mpr cc1
  have f1b:(n != 0)=τ:=bne_iff_ne.mpr cc1
  have C1:=ζa cc1
  clear cc1
  have h:=HH.out
  clear HH
  obtain ⟨t1,h3_,h⟩:=Option.bind_eq_some_iff.mp h
  have HH:=ζa h
  have H3:=ζa h3_
  clear h h3_
  go_wp2_with fail
  refine (spec_l00Digits.calls k n t1 _ H3.out).mono ?_
  rintro e w3 ⟨rfl,hb⟩
  have m_:=ζa (δr (by repeat (exact HB0.out)) hb)
  clear hb
  have HB3:=m_
  clear m_
  have h:=HH.out
  clear HH
  obtain ⟨⟨o2,c2⟩,h4_,h⟩:=Option.bind_eq_some_iff.mp h
  have HH:=ζa h
  have H4:=ζa h4_
  clear h h4_
  go_wp2_with fail
  refine (spec_l03Put.calls k A_list c_list list key t1 o2 c2 _ (by repeat (exact Kd.C_below HR0_list.out HB3.out)) HC0_list.out H4.out).mono ?_
  rintro e w4 ⟨v4,rfl,ho,hb⟩
  have hsf:=Sf.trans (by exact ⟨Or.inl ⟨rfl,rfl⟩⟩) ho hb (Below.size (show Below w.heap.size w _ from by repeat (exact HB3.out)))
  obtain ⟨adr4,cap4,rfl,hl4,hq4⟩:=Sf.reads ho (Kd.C_below HR0_list.out (δr (by repeat (exact HB3.out)) hb)) HC0_list.out
  have HC4:=ζa hl4
  have HRn4:=ζa hq4
  have HS4:=ζa hsf
  clear hl4 hq4 ho hsf
  have m_:=ζa (δr (by repeat (exact HB3.out)) hb)
  clear hb
  have HB4:=m_
  clear m_
  have h:=HH.out
  clear HH
  simp only [Option.some.injEq,Prod.mk.injEq] at h
  obtain ⟨rfl,rfl⟩:=h
  go_wp2
  go_ret2
  exact ⟨_,rfl,(by repeat (exact HS4.out)),(by repeat (exact HB4.out))⟩


set_option maxHeartbeats 8000000
set_option maxRecDepth 100000


/-! ### spec_l05Add: function 46 -/
def spec_l05Add.f (k:Nat) (list:List S37) (key:ByteArray) (n:Int):Option (List S37 × Int) :=
 (spec_l05Read.f k list key).bind fun q1=>if ζm (q1+n)<0 then (some (list,12)) else (if 1000000000000000000<ζm (q1+n) then (some (list,13)) else ((spec_l05Write.f k list key (ζm (q1+n))).bind fun q2=>some (q2.1,q2.2)))
theorem spec_l05Add.calls (k:Nat) (A_list:Option Addr) (c_list:Nat) (list:List S37) (key:ByteArray) (n:Int) (r1:List S37) (r2:Int) (w:World) (hr0_list:Kd.C k37 w A_list list.length list) (hc0_list:list.length≤c_list) (h:spec_l05Add.f k list key n=some (r1,r2)) :
  Calls Tryz.prog 46 #[.slice A_list list.length c_list,.string key,.int .i64 n] w fun e w' => ∃ v0_:Value,e = .returned (.tuple #[v0_,.int .i64 r2])∧Sf w w' (.slice A_list list.length c_list) list v0_ r1∧Below w.heap.size w w':=by
 have HR0_list:=ζa hr0_list
 have HC0_list:=ζa hc0_list
 clear hr0_list hc0_list
 have HB0:=ζa (Below.refl w.heap.size w)
 unfold spec_l05Add.f at h
 have HH:=ζa h
 clear h
 go_enter Tryz.func46,Tryz.ntmps46
 have h:=HH.out
 clear HH
 obtain ⟨a1,h1_,h⟩:=Option.bind_eq_some_iff.mp h
 have HH:=ζa h
 have H1:=ζa h1_
 clear h h1_
 go_wp2_with fail
 refine (spec_l05Read.calls k A_list c_list list key a1 _ (by repeat (exact Kd.C_below HR0_list.out HB0.out)) HC0_list.out H1.out).mono ?_
 rintro e w1 ⟨rfl,hb⟩
 have m_:=ζa (δr (by repeat (exact HB0.out)) hb)
 clear hb
 have HB1:=m_
 clear m_
 have h:=HH.out
 clear HH
 by_cases cc2:ζm (a1+n)<0
 ·
  rw [if_pos cc2] at h
  have HH:=ζa h
  clear h
  have f2a:decide (ζm (a1+n)<0)=τ:=decide_eq_true cc2
  have C2:=ζa cc2
  clear cc2
  have h:=HH.out
  clear HH
  simp only [Option.some.injEq,Prod.mk.injEq] at h
  obtain ⟨rfl,rfl⟩:=h
  go_wp2
  go_ret2
  exact ⟨_,rfl,⟨Or.inl ⟨rfl,rfl⟩⟩,(by repeat (exact HB1.out))⟩
 ·
  rw [if_neg cc2] at h
  have HH:=ζa h
  clear h
  have f2a:decide (ζm (a1+n)<0)=φ:=decide_eq_false cc2
  have C2:=ζa cc2
  clear cc2
  have h:=HH.out
  clear HH
  by_cases cc3:1000000000000000000<ζm (a1+n)
  ·
   rw [if_pos cc3] at h
   have HH:=ζa h
   clear h
   have f3a:decide (1000000000000000000<ζm (a1+n))=τ:=decide_eq_true cc3
   have C3:=ζa cc3
   clear cc3
   have h:=HH.out
   clear HH
   simp only [Option.some.injEq,Prod.mk.injEq] at h
   obtain ⟨rfl,rfl⟩:=h
   go_wp2
   go_ret2
   exact ⟨_,rfl,⟨Or.inl ⟨rfl,rfl⟩⟩,(by repeat (exact HB1.out))⟩
  ·
   rw [if_neg cc3] at h
   have HH:=ζa h
   clear h
   have f3a:decide (1000000000000000000<ζm (a1+n))=φ:=decide_eq_false cc3
   have C3:=ζa cc3
   clear cc3
   have h:=HH.out
   clear HH
   obtain ⟨⟨o1,c1⟩,h4_,h⟩:=Option.bind_eq_some_iff.mp h
   have HH:=ζa h
   have H4:=ζa h4_
   clear h h4_
   go_wp2_with fail
   refine (spec_l05Write.calls k A_list c_list list key (ζm (a1+n)) o1 c1 _ (by repeat (exact Kd.C_below HR0_list.out HB1.out)) HC0_list.out H4.out).mono ?_
   rintro e w4 ⟨v4,rfl,ho,hb⟩
   have hsf:=Sf.trans (by exact ⟨Or.inl ⟨rfl,rfl⟩⟩) ho hb (Below.size (show Below w.heap.size w _ from by repeat (exact HB1.out)))
   obtain ⟨adr4,cap4,rfl,hl4,hq4⟩:=Sf.reads ho (Kd.C_below HR0_list.out (δr (by repeat (exact HB1.out)) hb)) HC0_list.out
   have HC4:=ζa hl4
   have HRn4:=ζa hq4
   have HS4:=ζa hsf
   clear hl4 hq4 ho hsf
   have m_:=ζa (δr (by repeat (exact HB1.out)) hb)
   clear hb
   have HB4:=m_
   clear m_
   have h:=HH.out
   clear HH
   simp only [Option.some.injEq,Prod.mk.injEq] at h
   obtain ⟨rfl,rfl⟩:=h
   go_wp2
   go_ret2
   exact ⟨_,rfl,(by repeat (exact HS4.out)),(by repeat (exact HB4.out))⟩


set_option maxHeartbeats 8000000
set_option maxRecDepth 100000


/-! ### spec_l05Key: function 47 -/
def spec_l05Key.f (a0:ByteArray) (a1:ByteArray):Option (ByteArray):=if a0.size+a1.size≤1000000000000 then some ((((⟨#[98,47]⟩:ByteArray) ++ a1) ++ (⟨#[47]⟩:ByteArray)) ++ a0) else none
theorem spec_l05Key.calls (a0:ByteArray) (a1:ByteArray) (r:ByteArray) (w:World) (h:spec_l05Key.f a0 a1=some r) :
  Calls Tryz.prog 47 #[.string a0,.string a1] w fun e w'=>e = .returned (.string r)∧Drawn0 w w':=by
 unfold spec_l05Key.f at h
 by_cases c:a0.size+a1.size≤1000000000000
 ·
  rw [if_pos c] at h
  obtain rfl:=Option.some.inj h
  have c1:(2+a1.size≤9223372036854775807)=True:=eq_true (by omega)
  have c2:(9223372036854775807<2+a1.size)=False:=eq_false (by omega)
  have c3:(2+a1.size+1≤9223372036854775807)=True:=eq_true (by omega)
  have c4:(9223372036854775807<2+a1.size+1)=False:=eq_false (by omega)
  have c5:(2+a1.size+1+a0.size≤9223372036854775807)=True:=eq_true (by omega)
  have c6:(9223372036854775807<2+a1.size+1+a0.size)=False:=eq_false (by omega)
  clear c
  go_enter Tryz.func47,Tryz.ntmps47
  go_wp2
  go_ret
  exact ⟨by rfl,by repeat (exact Drawn0.refl _)⟩
 · rw [if_neg c] at h;cases h


set_option maxHeartbeats 8000000
set_option maxRecDepth 100000


/-! ### spec_l05Move: function 23 -/
def spec_l05Move.f (k:Nat) (list:List S37) (from_:ByteArray) (to_:ByteArray) (denom:ByteArray) (n:Int):Option (List S37 × Int) :=
 (spec_l05Key.f from_ denom).bind fun q1=>(spec_l05Add.f k list q1 (ζm (-n))).bind fun q2=>if q2.2=0 then ((spec_l05Key.f to_ denom).bind fun q3=>(spec_l05Add.f k q2.1 q3 n).bind fun q4=>if q4.2=0 then (some (q4.1,0)) else (some (list,q4.2))) else (some (list,q2.2))
theorem spec_l05Move.calls (k:Nat) (A_list:Option Addr) (c_list:Nat) (list:List S37) (from_:ByteArray) (to_:ByteArray) (denom:ByteArray) (n:Int) (r1:List S37) (r2:Int) (w:World) (hr0_list:Kd.C k37 w A_list list.length list) (hc0_list:list.length≤c_list) (h:spec_l05Move.f k list from_ to_ denom n=some (r1,r2)) :
  Calls Tryz.prog 23 #[.slice A_list list.length c_list,.string from_,.string to_,.string denom,.int .i64 n] w fun e w' => ∃ v0_:Value,e = .returned (.tuple #[v0_,.int .i64 r2])∧Sf w w' (.slice A_list list.length c_list) list v0_ r1∧Below w.heap.size w w':=by
 have HR0_list:=ζa hr0_list
 have HC0_list:=ζa hc0_list
 clear hr0_list hc0_list
 have HB0:=ζa (Below.refl w.heap.size w)
 unfold spec_l05Move.f at h
 have HH:=ζa h
 clear h
 go_enter Tryz.func23,Tryz.ntmps23
 have h:=HH.out
 clear HH
 obtain ⟨k1,h1_,h⟩:=Option.bind_eq_some_iff.mp h
 have HH:=ζa h
 have H1:=ζa h1_
 clear h h1_
 go_wp2_with fail
 refine (spec_l05Key.calls from_ denom k1 _ H1.out).mono ?_
 rintro e w1 ⟨rfl,hd⟩
 have hb:=hd.below
 clear hd
 have m_:=ζa (δr (by repeat (exact HB0.out)) hb)
 clear hb
 have HB1:=m_
 clear m_
 have h:=HH.out
 clear HH
 obtain ⟨⟨o1,c1⟩,h2_,h⟩:=Option.bind_eq_some_iff.mp h
 have HH:=ζa h
 have H2:=ζa h2_
 clear h h2_
 go_wp2_with fail
 refine (spec_l05Add.calls k A_list c_list list k1 (ζm (-n)) o1 c1 _ (by repeat (exact Kd.C_below HR0_list.out HB1.out)) HC0_list.out H2.out).mono ?_
 rintro e w2 ⟨v2,rfl,ho,hb⟩
 have hsf:=Sf.trans (by exact ⟨Or.inl ⟨rfl,rfl⟩⟩) ho hb (Below.size (show Below w.heap.size w _ from by repeat (exact HB1.out)))
 obtain ⟨adr2,cap2,rfl,hl2,hq2⟩:=Sf.reads ho (Kd.C_below HR0_list.out (δr (by repeat (exact HB1.out)) hb)) HC0_list.out
 have HC2:=ζa hl2
 have HRn2:=ζa hq2
 have HS2:=ζa hsf
 clear hl2 hq2 ho hsf
 have m_:=ζa (δr (by repeat (exact HB1.out)) hb)
 clear hb
 have HB2:=m_
 clear m_
 have h:=HH.out
 clear HH
 by_cases cc3:c1=0
 ·
  rw [if_pos cc3] at h
  have HH:=ζa h
  clear h
  have f3a:(c1 == 0)=τ:=beq_iff_eq.mpr cc3
  have f3b:(c1 != 0)=φ:=bne_eq_false_iff_eq.mpr cc3
  have C3:=ζa cc3
  clear cc3
  have h:=HH.out
  clear HH
  obtain ⟨k2,h4_,h⟩:=Option.bind_eq_some_iff.mp h
  have HH:=ζa h
  have H4:=ζa h4_
  clear h h4_
  go_wp2_with fail
  refine (spec_l05Key.calls to_ denom k2 _ H4.out).mono ?_
  rintro e w4 ⟨rfl,hd⟩
  have hb:=hd.below
  clear hd
  replace HRn2:=ζa (Kd.C_below (by repeat (exact HRn2.out)) hb)
  replace HS2:=ζa (Sf.below (by repeat (exact HS2.out)) hb)
  have m_:=ζa (δr (by repeat (exact HB2.out)) hb)
  clear hb
  have HB4:=m_
  clear m_
  have h:=HH.out
  clear HH
  obtain ⟨⟨o2,c2⟩,h5_,h⟩:=Option.bind_eq_some_iff.mp h
  have HH:=ζa h
  have H5:=ζa h5_
  clear h h5_
  go_wp2_with fail
  refine (spec_l05Add.calls k adr2 cap2 o1 k2 n o2 c2 _ (by repeat (exact HRn2.out)) HC2.out H5.out).mono ?_
  rintro e w5 ⟨v5,rfl,ho,hb⟩
  have hsf:=Sf.trans (by repeat (exact HS2.out)) ho hb (Below.size (show Below w.heap.size w _ from by repeat (exact HB4.out)))
  replace HRn2:=ζa (Kd.C_below (by repeat (exact HRn2.out)) hb)
  replace HS2:=ζa (Sf.below (by repeat (exact HS2.out)) hb)
  obtain ⟨adr5,cap5,rfl,hl5,hq5⟩:=Sf.reads ho (HRn2.out) HC2.out
  have HC5:=ζa hl5
  have HRn5:=ζa hq5
  have HS5:=ζa hsf
  clear hl5 hq5 ho hsf
  have m_:=ζa (δr (by repeat (exact HB4.out)) hb)
  clear hb
  have HB5:=m_
  clear m_
  have h:=HH.out
  clear HH
  by_cases cc6:c2=0
  ·
   rw [if_pos cc6] at h
   have HH:=ζa h
   clear h
   have f6a:(c2 == 0)=τ:=beq_iff_eq.mpr cc6
   have f6b:(c2 != 0)=φ:=bne_eq_false_iff_eq.mpr cc6
   have C6:=ζa cc6
   clear cc6
   have h:=HH.out
   clear HH
   simp only [Option.some.injEq,Prod.mk.injEq] at h
   obtain ⟨rfl,rfl⟩:=h
   go_wp2
   go_ret2
   exact ⟨_,rfl,(by repeat (exact HS5.out)),(by repeat (exact HB5.out))⟩
  ·
   rw [if_neg cc6] at h
   have HH:=ζa h
   clear h
   have f6a:(c2 == 0)=φ:=beq_eq_false_iff_ne.mpr cc6
   have f6b:(c2 != 0)=τ:=bne_iff_ne.mpr cc6
   have C6:=ζa cc6
   clear cc6
   have h:=HH.out
   clear HH
   simp only [Option.some.injEq,Prod.mk.injEq] at h
   obtain ⟨rfl,rfl⟩:=h
   go_wp2
   go_ret2
   exact ⟨_,rfl,⟨Or.inl ⟨rfl,rfl⟩⟩,(by repeat (exact HB5.out))⟩
 ·
  rw [if_neg cc3] at h
  have HH:=ζa h
  clear h
  have f3a:(c1 == 0)=φ:=beq_eq_false_iff_ne.mpr cc3
  have f3b:(c1 != 0)=τ:=bne_iff_ne.mpr cc3
  have C3:=ζa cc3
  clear cc3
  have h:=HH.out
  clear HH
  simp only [Option.some.injEq,Prod.mk.injEq] at h
  obtain ⟨rfl,rfl⟩:=h
  go_wp2
  go_ret2
  exact ⟨_,rfl,⟨Or.inl ⟨rfl,rfl⟩⟩,(by repeat (exact HB2.out))⟩


open List renaming map_toArray → δd, map_cons → δe, map_nil → δf, setIfInBounds_toArray → δa, set_cons_zero → δb, set_cons_succ → δc
open Go.Proofs.YtjhhehjjnfnigaaGreatDoorW.PrintWords renaming gate_dst → δx, below_step → δr, below_drew1 → δj
open Go.Proofs.YtjhhehjjnfnigaaGreatDoorW.PrintWords.Kd renaming R_drew → ζe, R_below → ζh
open Go.Proofs.YtjhhehjjnfnigaaGreatDoorW.PrintLast renaming pure_ → ζk
set_option maxHeartbeats 8000000
set_option maxRecDepth 100000


/-! ### spec_l02Fields: function 49 -/
def spec_l02Fields.l0:Nat→List ByteArray→List Int→Int→Option (List Int)
 | 0,_,_,_=>none
 | k+1,l,out,i=>if i<(l.length:Int) then (if 0≤i then (if out.length+2+(rdOf ByteArray.empty l i).size≤140737488355328 then spec_l02Fields.l0 k l (out ++ [((rdOf ByteArray.empty l i).size:Int) / 256 % 256,((rdOf ByteArray.empty l i).size:Int) % 256] ++ bytesOf (rdOf ByteArray.empty l i)) (ζm (i+1)) else none) else none) else some out
def spec_l02Fields.f (k:Nat) (l0:List ByteArray):Option (List Int):=spec_l02Fields.l0 k l0 [(l0.length:Int) % 256] 0
theorem spec_l02Fields.str_step {P:Program} {ops:Array Oper} {o:Oper} {a:Act} {Q:Exit→Act→World→Prop} {Kc:Act→World→Prop} {w0 W:World} (base:Nat)
  (hw:Region.wanted o (yielded ops a.tmps)=τ) (s x:Operand) (t u e:TypeId)
  (ho:o.op = .call { callee:=.builtin .append,args:=#[s,x],argTypes:=#[t,u] })
  (ht:P.underlying t=some (.slice e)) (hu:P.underlying u=some .string) (hinfo:(P.info? e).map (fun i=>(i.zero,i.size,i.bytes))=some (some (.int .u8 0),1,1))
  (v:Value) (xs:List Int) (y:ByteArray) (hs:a.eval s=v) (hx:a.eval x = .string y)
  (HO:W.ownsRow base e 1 v xs.length (nums .u8 xs)) (HB:Below base w0 W) (hbase:base≤W.heap.size) (hl:xs.length+y.size≤140737488355328)
  (h : ∀ v1 w1,w1.ownsRow base e 1 v1 (xs ++ bytesOf y).length (nums .u8 (xs ++ bytesOf y))→Below base w0 w1→W.grownBy w1 v.ownBlock→Kc (a.put o.dst v1) w1) :
  if Region.wanted o (yielded ops a.tmps)=τ then Oper.wp P o a W Kc Q else Kc (a.put o.dst undef) W:=by
 rw [if_pos hw]
 obtain ⟨i0,hi,hzz⟩:=Option.map_eq_some_iff.1 hinfo
 simp only [Prod.mk.injEq] at hzz
 obtain ⟨hz0,hz1,hz2⟩:=hzz
 obtain ⟨v1,w1,hr,h2,h3,h4⟩:=Lib.run_append_own_string (P:=P) (w:=W) base t u o.type e i0 ht hu hi hz0 hz1 hz2 v xs.length (nums .u8 xs) HO y (by simp only [maxLen];omega) hl hbase
 have hl2:(xs ++ bytesOf y).length=xs.length+y.size:=by rw [List.length_append,bytesOf_length]
 have hc:nums .u8 (xs ++ bytesOf y)=nums .u8 xs ++ Lib.strCells y:=by
  rw [nums_append]
  congr 1
  simp [nums,bytesOf,Lib.strCells]
 unfold Oper.wp execOp
 simp only [ho,resolve,invoke,builtin,Sem.run_bind,Sem.run_pure,Result.andThen_ok,δd,δe,δf,hs,hx,hr]
 exact h v1 w1 (by rw [hl2,hc];exact h2) (HB.grown h3 hbase (own_base HO)) h3
theorem spec_l02Fields.calls (k:Nat) (A0:Option Addr) (c0:Nat) (l0:List ByteArray) (r:List Int) (w:World) (hr0:Kd.C Kd.string w A0 l0.length l0) (hc0:l0.length≤c0) (h:spec_l02Fields.f k l0=some r) :
  Calls Tryz.prog 49 #[.slice A0 l0.length c0] w fun e w' => ∃ v0_:Value,e = .returned (v0_)∧Kd.R (Kd.int .u8) 5 w' w.heap.size (fun _=>True) v0_ r∧Below w.heap.size w w':=by
 have HR0:=ζa hr0
 clear hr0 hc0
 have HB:=ζa (Below.refl w.heap.size w)
 have H':=ζa (show spec_l02Fields.l0 k l0 [(l0.length:Int) % 256] 0=some r from h)
 clear h
 go_enter Tryz.func49,Tryz.ntmps49
 go_wp2_with (((with_reducible refine δx (N:=8) rfl ?_);refine Kd.R_lit (Kd.int .u8) _ 5 ?hg (N:=8) ?hd (xs:=([(l0.length:Int) % 256]:List Int)) (inner:=[.int .u8 ((l0.length:Int) % 256)]) (ok:=fun _=>True) (okp:=fun _=>True) ?hr ?hp (fun _ hk=>hk) trivial (Below.refl _ _) (Nat.le_refl _) (by simp) ?_;(case hd=>rfl);(case hg=>rfl);(case hr=>(go_simp;done));(case hp=>exact (Reps.one (show Kd.M (Kd.int .u8) _ _ _ ((l0.length:Int) % 256) [.int .u8 ((l0.length:Int) % 256)] from rfl) (Reps.none _ _)));intro v8 w8 ho8 hb8 hg_ hnew_;clear hg_ hnew_;have HO:=ζa ho8;have n1_:=ζa (δr HB.out hb8);clear HB;have HB:=n1_;clear n1_ hb8 ho8))
 go_loopg [3,4] k (fun kq v3 v4 w' => ∃ (out:List Int) (i:Int),v4 = .int .i64 i∧Aside0 (spec_l02Fields.l0 kq l0 out i=some r)∧Aside0 (kq≤k)∧Aside0 (Kd.R (Kd.int .u8) 5 w' w.heap.size (fun _=>True) v3 out)∧Aside0 (Below w.heap.size w w'))
 case atStart=>exact ⟨_,0,rfl,H',⟨Nat.le_refl _⟩,HO,HB⟩
 case round =>
  clear H' HO HB
  obtain ⟨out,i,rfl,HA,HK1,HO,HB⟩:=hrel
  cases gk with
  | zero=>exact absurd HA.out (by simp [spec_l02Fields.l0])
  | succ k1 =>
   have H:=HA.out
   clear HA
   simp only [spec_l02Fields.l0] at H
   by_cases c2:i<(l0.length:Int)
   ·
    rw [if_pos c2] at H
    by_cases c3:0≤i
    ·
     rw [if_pos c3] at H
     by_cases c4:out.length+2+(rdOf ByteArray.empty l0 i).size≤140737488355328
     ·
      rw [if_pos c4] at H
      have HN:=ζa H
      clear H
      obtain ⟨ad,e1,hx0⟩:=Kd.at_string HR0.out i c3 c2
      cases e1
      have hxw:=hx0
      replace hx0:=(HB.out.cell (World.block_lt_of_cell? w _ hx0)).trans hx0
      have c2b0:=decide_eq_true c2
      generalize ht:rdOf ByteArray.empty l0 i=t at *
      go_wp2
      have c3b:decide (0≤i)=τ:=decide_eq_true c3
      have HB1:=ζa (δj HB.out)
      have HO1:=ζa (ζe HO.out)
      clear HB HO
      refine start_ (n:=22) (S:=fun w'=>w'.cell? (ad.add i.toNat)=some (.string t)) (ds:=[]) #[φ,φ,φ,φ,φ,φ,φ,φ,φ,φ,φ,φ,φ,φ,φ,φ,φ,φ,φ,φ,φ,φ] (by kernel_rfl) rfl rfl (show wr.drew.cell? (ad.add i.toNat)=some (.string t) from hx0) (fun hHeld => ?_)
      generalize wr.drew=w13 at HB1 HO1 hHeld ⊢
      refine ζk (i:=0) (N:=some 15) (v:=?_) (a':=?_) #[τ,φ,φ,φ,φ,φ,φ,φ,φ,φ,φ,φ,φ,φ,φ,φ,φ,φ,φ,φ,φ,φ] rfl rfl (by kernel_rfl) (fun _ _ _ h=>h) (Or.inl ⟨by rfl,?_⟩) ?_ ?_
      rotate_left
      · intro w';go_simp;with_reducible rfl
      rotate_left
      · simp only [ζl,δa,δb,δc,i64_w,i32_w];rfl
      refine ζk (i:=1) (N:=some 16) (v:=?_) (a':=?_) #[τ,τ,φ,φ,φ,φ,φ,φ,φ,φ,φ,φ,φ,φ,φ,φ,φ,φ,φ,φ,φ,φ] rfl rfl (by kernel_rfl) (fun _ _ _ h=>h) (Or.inl ⟨by rfl,?_⟩) ?_ ?_
      rotate_left
      · intro w';go_simp;with_reducible rfl
      rotate_left
      · simp only [ζl,δa,δb,δc,i64_w,i32_w];rfl
      refine ζk (i:=2) (N:=some 17) (v:=?_) (a':=?_) #[τ,τ,τ,φ,φ,φ,φ,φ,φ,φ,φ,φ,φ,φ,φ,φ,φ,φ,φ,φ,φ,φ] rfl rfl (by kernel_rfl) (fun _ _ _ h=>h) (Or.inl ⟨by rfl,?_⟩) ?_ ?_
      rotate_left
      · intro w';go_simp;with_reducible rfl
      rotate_left
      · simp only [ζl,δa,δb,δc,i64_w,i32_w];rfl
      refine ζk (i:=3) (N:=some 18) (v:=?_) (a':=?_) #[τ,τ,τ,τ,φ,φ,φ,φ,φ,φ,φ,φ,φ,φ,φ,φ,φ,φ,φ,φ,φ,φ] rfl rfl (by kernel_rfl) (fun _ _ _ h=>h) (Or.inl ⟨by rfl,?_⟩) ?_ ?_
      rotate_left
      · intro w';go_simp;with_reducible rfl
      rotate_left
      · simp only [ζl,δa,δb,δc,i64_w,i32_w];rfl
      refine take_ (i:=4) (N:=some 19) (v:=?_) (a':=?_) #[τ,τ,τ,τ,τ,φ,φ,φ,φ,φ,φ,φ,φ,φ,φ,φ,φ,φ,φ,φ,φ,φ] rfl rfl (by kernel_rfl) (fun _ _ _ h=>h) (Or.inl ⟨by rfl,?_⟩) hHeld ?_ ?_
      rotate_left
      ·
       intro w' s0
       go_simp
       with_reducible rfl
      rotate_left
      · simp only [ζl,δa,δb,δc,i64_w,i32_w];rfl
      refine ζk (i:=5) (N:=some 20) (v:=?_) (a':=?_) #[τ,τ,τ,τ,τ,τ,φ,φ,φ,φ,φ,φ,φ,φ,φ,φ,φ,φ,φ,φ,φ,φ] rfl rfl (by kernel_rfl) (fun _ _ _ h=>h) (Or.inl ⟨by rfl,?_⟩) ?_ ?_
      rotate_left
      · intro w';go_simp;with_reducible rfl
      rotate_left
      · simp only [ζl,δa,δb,δc,i64_w,i32_w];rfl
      refine ζk (i:=6) (N:=some 21) (v:=?_) (a':=?_) #[τ,τ,τ,τ,τ,τ,τ,φ,φ,φ,φ,φ,φ,φ,φ,φ,φ,φ,φ,φ,φ,φ] rfl rfl (by kernel_rfl) (fun _ _ _ h=>h) (Or.inl ⟨by rfl,?_⟩) ?_ ?_
      rotate_left
      · intro w';go_simp;with_reducible rfl
      rotate_left
      · simp only [ζl,δa,δb,δc,i64_w,i32_w];rfl
      refine ζk (i:=7) (N:=some 22) (v:=?_) (a':=?_) #[τ,τ,τ,τ,τ,τ,τ,τ,φ,φ,φ,φ,φ,φ,φ,φ,φ,φ,φ,φ,φ,φ] rfl rfl (by kernel_rfl) (fun _ _ _ h=>h) (Or.inl ⟨by rfl,?_⟩) ?_ ?_
      rotate_left
      · intro w';go_simp;with_reducible rfl
      rotate_left
      · simp only [ζl,δa,δb,δc,i64_w,i32_w];rfl
      refine ζk (i:=8) (N:=some 23) (v:=?_) (a':=?_) #[τ,τ,τ,τ,τ,τ,τ,τ,τ,φ,φ,φ,φ,φ,φ,φ,φ,φ,φ,φ,φ,φ] rfl rfl (by kernel_rfl) (fun _ _ _ h=>h) (Or.inl ⟨by rfl,?_⟩) ?_ ?_
      rotate_left
      · intro w';go_simp;with_reducible rfl
      rotate_left
      · simp only [ζl,δa,δb,δc,i64_w,i32_w];rfl
      refine ζk (i:=9) (N:=some 24) (v:=?_) (a':=?_) #[τ,τ,τ,τ,τ,τ,τ,τ,τ,τ,φ,φ,φ,φ,φ,φ,φ,φ,φ,φ,φ,φ] rfl rfl (by kernel_rfl) (fun _ _ _ h=>h) (Or.inl ⟨by rfl,?_⟩) ?_ ?_
      rotate_left
      · intro w';go_simp;with_reducible rfl
      rotate_left
      · simp only [ζl,δa,δb,δc,i64_w,i32_w];rfl
      refine ζk (i:=10) (N:=some 25) (v:=?_) (a':=?_) #[τ,τ,τ,τ,τ,τ,τ,τ,τ,τ,τ,φ,φ,φ,φ,φ,φ,φ,φ,φ,φ,φ] rfl rfl (by kernel_rfl) (fun _ _ _ h=>h) (Or.inl ⟨by rfl,?_⟩) ?_ ?_
      rotate_left
      · intro w';go_simp;with_reducible rfl
      rotate_left
      · simp only [ζl,δa,δb,δc,i64_w,i32_w];rfl
      refine take_ (i:=11) (N:=some 26) (v:=?_) (a':=?_) #[τ,τ,τ,τ,τ,τ,τ,τ,τ,τ,τ,τ,φ,φ,φ,φ,φ,φ,φ,φ,φ,φ] rfl rfl (by kernel_rfl) (fun _ _ _ h=>h) (Or.inl ⟨by rfl,?_⟩) hHeld ?_ ?_
      rotate_left
      ·
       intro w' s0
       go_simp
       with_reducible rfl
      rotate_left
      · simp only [ζl,δa,δb,δc,i64_w,i32_w];rfl
      refine ζk (i:=12) (N:=some 27) (v:=?_) (a':=?_) #[τ,τ,τ,τ,τ,τ,τ,τ,τ,τ,τ,τ,τ,φ,φ,φ,φ,φ,φ,φ,φ,φ] rfl rfl (by kernel_rfl) (fun _ _ _ h=>h) (Or.inl ⟨by rfl,?_⟩) ?_ ?_
      rotate_left
      · intro w';go_simp;with_reducible rfl
      rotate_left
      · simp only [ζl,δa,δb,δc,i64_w,i32_w];rfl
      refine ζk (i:=13) (N:=some 28) (v:=?_) (a':=?_) #[τ,τ,τ,τ,τ,τ,τ,τ,τ,τ,τ,τ,τ,τ,φ,φ,φ,φ,φ,φ,φ,φ] rfl rfl (by kernel_rfl) (fun _ _ _ h=>h) (Or.inl ⟨by rfl,?_⟩) ?_ ?_
      rotate_left
      · intro w';go_simp;with_reducible rfl
      rotate_left
      · simp only [ζl,δa,δb,δc,i64_w,i32_w];rfl
      refine ζk (i:=16) (N:=some 31) (v:=?_) (a':=?_) #[τ,τ,τ,τ,τ,τ,τ,τ,τ,τ,τ,τ,τ,τ,φ,φ,τ,φ,φ,φ,φ,φ] rfl rfl (by kernel_rfl) (fun _ _ _ h=>h) (Or.inl ⟨by rfl,?_⟩) ?_ ?_
      rotate_left
      · intro w';go_simp;with_reducible rfl
      rotate_left
      · simp only [ζl,δa,δb,δc,i64_w,i32_w];rfl
      refine ζk (i:=17) (N:=some 32) (v:=?_) (a':=?_) #[τ,τ,τ,τ,τ,τ,τ,τ,τ,τ,τ,τ,τ,τ,φ,φ,τ,τ,φ,φ,φ,φ] rfl rfl (by kernel_rfl) (fun _ _ _ h=>h) (Or.inl ⟨by rfl,?_⟩) ?_ ?_
      rotate_left
      · intro w';go_simp;with_reducible rfl
      rotate_left
      · simp only [ζl,δa,δb,δc,i64_w,i32_w];rfl
      refine ζk (i:=18) (N:=some 33) (v:=?_) (a':=?_) #[τ,τ,τ,τ,τ,τ,τ,τ,τ,τ,τ,τ,τ,τ,φ,φ,τ,τ,τ,φ,φ,φ] rfl rfl (by kernel_rfl) (fun _ _ _ h=>h) (Or.inl ⟨by rfl,?_⟩) ?_ ?_
      rotate_left
      · intro w';go_simp;with_reducible rfl
      rotate_left
      · simp only [ζl,δa,δb,δc,i64_w,i32_w];rfl
      refine take_ (i:=19) (N:=some 34) (v:=?_) (a':=?_) #[τ,τ,τ,τ,τ,τ,τ,τ,τ,τ,τ,τ,τ,τ,φ,φ,τ,τ,τ,τ,φ,φ] rfl rfl (by kernel_rfl) (fun _ _ _ h=>h) (Or.inl ⟨by rfl,?_⟩) hHeld ?_ ?_
      rotate_left
      ·
       intro w' s0
       go_simp
       with_reducible rfl
      rotate_left
      · simp only [ζl,δa,δb,δc,i64_w,i32_w];rfl
      have e1:IntKind.u8.wrap (ζm ((t.size:Int) / 256))=(t.size:Int) / 256 % 256:=by rw [IntWalk.wrap64_in _ (by omega)];simp [IntKind.wrap,IntKind.bits,IntKind.signed]
      have e2:IntKind.u8.wrap (t.size:Int)=(t.size:Int) % 256:=by simp [IntKind.wrap,IntKind.bits,IntKind.signed]
      rw [e1,e2]
      generalize (t.size:Int) / 256 % 256=pa at *
      generalize (t.size:Int) % 256=pb at *
      refine one_ (i:=14) (N:=some 29) #[τ,τ,τ,τ,τ,τ,τ,τ,τ,τ,τ,τ,τ,τ,τ,φ,τ,τ,τ,τ,φ,φ] rfl rfl (by kernel_rfl) (by decide) (fun K hK => ?_)
      refine Kd.R_lit_step (Kd.int .u8) _ 5 ?hg (N:=29) ?hd (xs:=([pa,pb]:List Int)) (inner:=[.int .u8 pa,.int .u8 pb]) (ok:=fun _=>True) (okp:=fun _=>False) ?hr ?hp (fun _ hk=>trivial) trivial (Below.refl _ _) (Nat.le_refl _) (by simp) ?_
      case hd=>rfl
      case hg=>rfl
      case hr=>(go_simp;done)
      case hp=>exact Reps.one (show Kd.M (Kd.int .u8) _ _ _ pa [.int .u8 pa] from rfl) (Reps.one (show Kd.M (Kd.int .u8) _ _ _ pb [.int .u8 pb] from rfl) (Reps.none _ _))
      intro v29 w29 ho29 hb29 hg29 _
      obtain ⟨A2,c29,rfl,_,HR2⟩:=Kd.R_reads ho29
      have HO2:=ζa (ζh HO1.out hb29)
      have HB2:=ζa (δr HB1.out hb29)
      have hs2:w29.cell? (ad.add i.toNat)=some (.string t):=(hb29.cell (World.block_lt_of_cell? w13 _ hHeld)).trans hHeld
      clear HO1 HB1 hHeld hg29
      refine hK.out _ _ hs2 (fun hHeld => ?_)
      clear hK K hs2
      refine nm 29 ?_
      refine one_ (i:=15) (N:=some 30) #[τ,τ,τ,τ,τ,τ,τ,τ,τ,τ,τ,τ,τ,τ,τ,τ,τ,τ,τ,τ,φ,φ] rfl rfl (by kernel_rfl) (by decide) (fun K hK => ?_)
      refine Kd.R_append_rows_step (Kd.int .u8) (w0:=w) w.heap.size (by rfl) (.tmp 15) (.tmp 29) 70 5 (.int .u8 0) 1 rfl Tryz.underlying70 (by kernel_rfl) rfl (by decide) (by decide) u3 out [pa,pb] A2 2 c29 (fun _=>True) (fun _=>False) rfl rfl HO2.out HR2 (fun _ _ h=>h) (fun _ h=>h.elim) (fun _ _=>trivial) HB2.out HB2.out.size (by omega) ?_
      intro v30 w30 ho30 hb30 hg30 _
      have hs3:w30.cell? (ad.add i.toNat)=some (.string t):=(hb30.cell (World.block_lt_of_cell? w _ hxw)).trans hxw
      clear HO2 HB2 hHeld HR2
      refine hK.out _ _ hs3 (fun hHeld => ?_)
      clear hK K hs3
      refine nm 30 ?_
      refine one_ (i:=20) (N:=some 35) #[τ,τ,τ,τ,τ,τ,τ,τ,τ,τ,τ,τ,τ,τ,τ,τ,τ,τ,τ,τ,τ,φ] rfl rfl (by kernel_rfl) (by decide) (fun K hK => ?_)
      have hl3:(out ++ [pa,pb]).length+t.size≤140737488355328:=by rw [List.length_append];exact c4
      refine spec_l02Fields.str_step (w0:=w) w.heap.size (by rfl) (.tmp 30) (.tmp 34) 70 9 5 rfl Tryz.underlying70 Tryz.underlying9 (by kernel_rfl) v30 (out ++ [pa,pb]) t rfl rfl (Kd.own_of_R ho30) hb30 hb30.size hl3 ?_
      intro v35 w35 ho35 hb35 hg35
      have hs4:w35.cell? (ad.add i.toNat)=some (.string t):=(hb35.cell (World.block_lt_of_cell? w _ hxw)).trans hxw
      clear ho30 hb30 hHeld hg35
      refine hK.out _ _ hs4 (fun hHeld => ?_)
      clear hK K hs4
      refine nm 35 ?_
      refine ζk (i:=21) (N:=some 3) (v:=?_) (a':=?_) #[τ,τ,τ,τ,τ,τ,τ,τ,τ,τ,τ,τ,τ,τ,τ,τ,τ,τ,τ,τ,τ,τ] rfl rfl (by kernel_rfl) (fun _ _ _ h=>h) (Or.inl ⟨by rfl,?_⟩) ?_ ?_
      rotate_left
      · intro w';go_simp;with_reducible rfl
      rotate_left
      · simp only [ζl,δa,δb,δc,i64_w,i32_w];rfl
      refine done_ (by kernel_rfl) ?_
      try go_wp2
      go_roundg k1
      case measure=>omega
      case rel=>exact ⟨_,_,rfl,HN,⟨by have:=HK1.out;omega⟩,⟨Kd.R_of_own ho35 (fun _ _=>trivial)⟩,⟨hb35⟩⟩
     · rw [if_neg c4] at H;cases H
    ·
     rw [if_neg c3] at H;cases H
   ·
    rw [if_neg c2] at H
    have c2b0:=decide_eq_false c2
    clear c2
    obtain rfl:=Option.some.inj H
    go_wp2
    go_ret
    exact ⟨_,rfl,HO.out,HB.out⟩


open Go.Proofs.YtjhhehjjnfnigaaGreatDoorW.PrintWords renaming gate_dst → δx, below_step → δr, blk_cell → δl, blk_frozen → δm, blk_drew → δp, below_drew1 → δj, below_size → δs
open Go.Proofs.YtjhhehjjnfnigaaGreatDoorW.PrintWords.Kd renaming R_reads' → ζg, R_below → ζh
open Bool renaming true → τ
set_option maxHeartbeats 8000000
set_option maxRecDepth 100000

/-! ### spec_l09Bytes: function 26 -/
def spec_l09Bytes.j0:Nat→ByteArray→ByteArray→ByteArray→Int→Int→Int→Bool→Option (ByteArray)
 | 0,_,_,_,_,_,_,_=>none
 | k+1,x3,x208000,x208001,x208002,x208003,x208004,x208005=>(spec_l00Digits.f k x208002).bind fun t208=>((spec_l00Digits.f k x208003).bind fun t209=>((spec_l00Digits.f k x208004).bind fun t210=>((spec_l02Fields.f k (([x208001,t208,t209,t210,x3]:List ByteArray))).bind fun t214=>(some (strOfNums t214)))))
def spec_l09Bytes.f (k:Nat) (a0_0:ByteArray) (a0_1:ByteArray) (a0_2:Int) (a0_3:Int) (a0_4:Int) (a0_5:Bool):Option (ByteArray):=if a0_5=τ then (spec_l09Bytes.j0 k (⟨#[111,112,101,110]⟩:ByteArray) a0_0 a0_1 a0_2 a0_3 a0_4 a0_5) else (spec_l09Bytes.j0 k (⟨#[99,108,111,115,101,100]⟩:ByteArray) a0_0 a0_1 a0_2 a0_3 a0_4 a0_5)
def spec_l09Bytes.T4:Bool × List (List Nat × List Nat):=(τ,[([],[]),([0],[0]),([],[]),([2],[2]),([3],[3]),([],[]),([5],[5]),([6,4],[6]),([],[]),([8],[8]),([9,7],[9]),([],[]),([1,4,7,10,11],[1,4,7,10,11]),([12,10],[12]),([13],[13]),([14,13,0,1,2,3,4,5,6,7,8,9,10,11,12,13,14],[14])])
def spec_l09Bytes.B4:List Nat:=[0,1,0,4,12,0,32,124,0,256,1020,0,4095,8191,16383,32767]
theorem spec_l09Bytes.tab4:rtab .any (opsOf Tryz.f26 4)=spec_l09Bytes.T4:=by kernel_rfl
theorem spec_l09Bytes.bits4:waitsOk spec_l09Bytes.T4.2 spec_l09Bytes.B4=τ:=by kernel_rfl
theorem spec_l09Bytes.calls (k:Nat) (a0_0:ByteArray) (a0_1:ByteArray) (a0_2:Int) (a0_3:Int) (a0_4:Int) (a0_5:Bool) (r:ByteArray) (w:World) (h:spec_l09Bytes.f k a0_0 a0_1 a0_2 a0_3 a0_4 a0_5=some r) :
  Calls Tryz.prog 26 #[.agg #[.string a0_0,.string a0_1,.int .i64 a0_2,.int .i64 a0_3,.int .i64 a0_4,.bool a0_5]] w fun e w'=>e = .returned (.string r)∧Below w.heap.size w w':=by
 have hu46:=Tryz.underlying46
 have HB:=ζa (Below.refl w.heap.size w)
 have H:(if a0_5=τ then (spec_l09Bytes.j0 k (⟨#[111,112,101,110]⟩:ByteArray) a0_0 a0_1 a0_2 a0_3 a0_4 a0_5) else (spec_l09Bytes.j0 k (⟨#[99,108,111,115,101,100]⟩:ByteArray) a0_0 a0_1 a0_2 a0_3 a0_4 a0_5))=some r:=h
 clear h
 have HC2:=ζa H
 clear H
 go_enter Tryz.func26,Tryz.ntmps26
 go_upto_if 5 with (((with_reducible refine δx (N:=1) rfl ?_);refine bev 1 #[.string a0_0,.string a0_1,.int .i64 a0_2,.int .i64 a0_3,.int .i64 a0_4,.bool a0_5] 46 ?_;intro gb207 hg w3 hbox hb;have BK207:=ζa (hbox);have GW207:=ζa (gbw hg (by exact HB.out));have GE207:=ζa (gbw hg (by exact HB.out));replace HB:=ζa (δr (by exact HB.out) hb);clear hb hbox hg;have hcz4_0:w3.cell? ⟨gb207,0,none⟩=some (.string a0_0):=(δl BK207.out 0).trans rfl;have hcz4_1:w3.cell? ⟨gb207,1,none⟩=some (.string a0_1):=(δl BK207.out 1).trans rfl;have hcz4_2:w3.cell? ⟨gb207,2,none⟩=some (.int .i64 a0_2):=(δl BK207.out 2).trans rfl;have hcz4_3:w3.cell? ⟨gb207,3,none⟩=some (.int .i64 a0_3):=(δl BK207.out 3).trans rfl;have hcz4_4:w3.cell? ⟨gb207,4,none⟩=some (.int .i64 a0_4):=(δl BK207.out 4).trans rfl;have hcz4_5:w3.cell? ⟨gb207,5,none⟩=some (.bool a0_5):=(δl BK207.out 5).trans rfl;have hfz4_0:=δm BK207.out 0;have hfz4_1:=δm BK207.out 1;have hfz4_2:=δm BK207.out 2;have hfz4_3:=δm BK207.out 3;have hfz4_4:=δm BK207.out 4;have hfz4_5:=δm BK207.out 5))
 (try simp only [ζl,δa,δb,δc])
 go_cut [3] (fun v3 wc => ∃ (kq:Nat) (x3_1:ByteArray),v3 = .string x3_1∧Aside0 (spec_l09Bytes.j0 kq x3_1 a0_0 a0_1 a0_2 a0_3 a0_4 a0_5=some r)∧Aside0 (kq≤k)∧Aside0 (wc.heap[gb207]? = some (.cells #[.string a0_0,.string a0_1,.int .i64 a0_2,.int .i64 a0_3,.int .i64 a0_4,.bool a0_5] 46 (0,0)))∧Aside0 (Below w.heap.size w wc))
 case first =>
  have H:=HC2.out
  clear HC2
  by_cases c5:a0_5=τ
  ·
   subst c5
   rw [ifT] at H
   have H':=ζa H
   clear H
   go_wp2
   go_meet
   case rel=>exact ⟨_,((⟨#[111,112,101,110]⟩:ByteArray)),(by rfl),H',⟨by omega⟩,⟨by exact BK207.out⟩,⟨by repeat ((with_reducible exact HB.out))⟩⟩
  ·
   replace c5:=Bool.eq_false_iff.mpr c5
   subst c5
   rw [ifF] at H
   have H':=ζa H
   clear H
   go_wp2
   go_meet
   case rel=>exact ⟨_,((⟨#[99,108,111,115,101,100]⟩:ByteArray)),(by rfl),H',⟨by omega⟩,⟨by exact BK207.out⟩,⟨by repeat ((with_reducible exact HB.out))⟩⟩
 case rest =>
  clear HC2
  try clear c2
  try clear p2
  try clear c5
  try clear hcz4_0
  try clear hcz4_1
  try clear hcz4_2
  try clear hcz4_3
  try clear hcz4_4
  try clear hcz4_5
  try clear hfz4_0
  try clear hfz4_1
  try clear hfz4_2
  try clear hfz4_3
  try clear hfz4_4
  try clear hfz4_5
  obtain ⟨kq,x3_1,rfl,HA,HJ1,BK207,HB⟩:=hcut
  cases kq with
  | zero=>exact absurd HA.out (by simp [spec_l09Bytes.j0])
  | succ kj1 =>
   have H:=HA.out
   clear HA
   simp only [spec_l09Bytes.j0] at H
   obtain ⟨t208,A6,H⟩:=bsm H
   obtain ⟨t209,A7,H⟩:=bsm H
   obtain ⟨t210,A8,H⟩:=bsm H
   obtain ⟨y211,hy211⟩ : ∃ y_:List ByteArray,y_=(([a0_1,t208,t209,t210,x3_1]:List ByteArray)):=⟨_,rfl⟩
   replace H:((spec_l02Fields.f kj1 y211).bind fun t214=>(some (strOfNums t214)))=some r:=by (rw [hy211];with_reducible exact H)
   have Ny211:=ζa hy211
   clear hy211
   obtain ⟨t214,A9,H⟩:=bsm H
   obtain rfl:=Option.some.inj H
   try go_wp2
   replace BK207:=ζa (δp BK207.out)
   replace HB:=ζa (δj HB.out)
   refine sta 16 (fun w'=>w'.cell? ⟨gb207,0,none⟩=some (.string a0_0)∧w'.cell? ⟨gb207,1,none⟩=some (.string a0_1)∧w'.cell? ⟨gb207,2,none⟩=some (.int .i64 a0_2)∧w'.cell? ⟨gb207,3,none⟩=some (.int .i64 a0_3)∧w'.cell? ⟨gb207,4,none⟩=some (.int .i64 a0_4)∧w'.cell? ⟨gb207,5,none⟩=some (.bool a0_5)) [] spec_l09Bytes.tab4 spec_l09Bytes.bits4 ⟨(δl BK207.out 0).trans rfl,(δl BK207.out 1).trans rfl,(δl BK207.out 2).trans rfl,(δl BK207.out 3).trans rfl,(δl BK207.out 4).trans rfl,(δl BK207.out 5).trans rfl⟩ (fun hHeld HT_ HW_ => ?_)
   generalize wc.drew=w10 at BK207 HB hHeld ⊢
   refine pu 0 6 ?_
   refine pu 2 8 ?_
   refine pu 5 11 ?_
   refine pu 8 14 ?_
   refine pu 11 17 ?_
   refine ta 1 7 ?_
   refine ta 3 9 ?_
   refine ta 6 12 ?_
   refine ta 9 15 ?_
   refine on 4 10 (fun K hK => ?_)
   refine gs Tryz.func50 #[.int .i64 a0_2] ?_
   with_reducible refine (spec_l00Digits.calls kj1 a0_2 t208 _ A6.out).mono ?_
   rintro e w11 ⟨rfl,hb⟩
   refine ⟨_,rfl,?_⟩
   replace BK207:=ζa (blk_below (g:=gb207) (o:=.cells #[.string a0_0,.string a0_1,.int .i64 a0_2,.int .i64 a0_3,.int .i64 a0_4,.bool a0_5] 46 (0,0)) (by exact BK207.out) hb)
   replace HB:=ζa (δr (by exact HB.out) hb)
   (try clear hb)
   (try clear hb2)
   (try clear hk)
   (try clear hi)
   refine hK.out _ _ ⟨(δl BK207.out 0).trans rfl,(δl BK207.out 1).trans rfl,(δl BK207.out 2).trans rfl,(δl BK207.out 3).trans rfl,(δl BK207.out 4).trans rfl,(δl BK207.out 5).trans rfl⟩ (fun hHeld => ?_)
   clear hK K
   refine nm 10 ?_
   refine on 7 13 (fun K hK => ?_)
   refine gs Tryz.func50 #[.int .i64 a0_3] ?_
   with_reducible refine (spec_l00Digits.calls kj1 a0_3 t209 _ A7.out).mono ?_
   rintro e w12 ⟨rfl,hb⟩
   refine ⟨_,rfl,?_⟩
   replace BK207:=ζa (blk_below (g:=gb207) (o:=.cells #[.string a0_0,.string a0_1,.int .i64 a0_2,.int .i64 a0_3,.int .i64 a0_4,.bool a0_5] 46 (0,0)) (by exact BK207.out) hb)
   replace HB:=ζa (δr (by exact HB.out) hb)
   (try clear hb)
   (try clear hb2)
   (try clear hk)
   (try clear hi)
   refine hK.out _ _ ⟨(δl BK207.out 0).trans rfl,(δl BK207.out 1).trans rfl,(δl BK207.out 2).trans rfl,(δl BK207.out 3).trans rfl,(δl BK207.out 4).trans rfl,(δl BK207.out 5).trans rfl⟩ (fun hHeld => ?_)
   clear hK K
   refine nm 13 ?_
   refine on 10 16 (fun K hK => ?_)
   refine gs Tryz.func50 #[.int .i64 a0_4] ?_
   with_reducible refine (spec_l00Digits.calls kj1 a0_4 t210 _ A8.out).mono ?_
   rintro e w13 ⟨rfl,hb⟩
   refine ⟨_,rfl,?_⟩
   replace BK207:=ζa (blk_below (g:=gb207) (o:=.cells #[.string a0_0,.string a0_1,.int .i64 a0_2,.int .i64 a0_3,.int .i64 a0_4,.bool a0_5] 46 (0,0)) (by exact BK207.out) hb)
   replace HB:=ζa (δr (by exact HB.out) hb)
   (try clear hb)
   (try clear hb2)
   (try clear hk)
   (try clear hi)
   refine hK.out _ _ ⟨(δl BK207.out 0).trans rfl,(δl BK207.out 1).trans rfl,(δl BK207.out 2).trans rfl,(δl BK207.out 3).trans rfl,(δl BK207.out 4).trans rfl,(δl BK207.out 5).trans rfl⟩ (fun hHeld => ?_)
   clear hK K
   refine nm 16 ?_
   refine on 12 18 (fun K hK => ?_)
   refine Kd.R_lit_step Kd.string _ 9 ?hg (N:=18) ?hd (xs:=([a0_1,t208,t209,t210,x3_1]:List ByteArray)) (inner:=[.string a0_1,.string t208,.string t209,.string t210,.string x3_1]) (ok:=fun _=>True) (okp:=fun _=>True) ?hr ?hp (fun _ hk=>hk) trivial (Below.refl _ _) (Nat.le_refl _) (by simp) ?_;(case hd=>rfl);(case hg=>rfl);(case hr=>(go_simp;done));(case hp=>exact (Reps.one (show Kd.M Kd.string _ _ _ a0_1 [.string a0_1] from rfl) (Reps.one (show Kd.M Kd.string _ _ _ t208 [.string t208] from rfl) (Reps.one (show Kd.M Kd.string _ _ _ t209 [.string t209] from rfl) (Reps.one (show Kd.M Kd.string _ _ _ t210 [.string t210] from rfl) (Reps.one (show Kd.M Kd.string _ _ _ x3_1 [.string x3_1] from rfl) (Reps.none _ _)))))))
   intro v212 w14 ho15 hb hg_ hnew_
   clear hg_ hnew_
   (rw [← Ny211.out] at ho15)
   have HO213:=ζa (Kd.R_lower ho15 (δs (by exact HB.out)))
   replace BK207:=ζa (blk_below (g:=gb207) (o:=.cells #[.string a0_0,.string a0_1,.int .i64 a0_2,.int .i64 a0_3,.int .i64 a0_4,.bool a0_5] 46 (0,0)) (by exact BK207.out) hb)
   replace HB:=ζa (δr (by exact HB.out) hb)
   clear hb ho15
   obtain ⟨Ao16,co16,eo16⟩:=Kd.R_slice HO213.out
   (subst eo16)
   refine hK.out _ _ ⟨(δl BK207.out 0).trans rfl,(δl BK207.out 1).trans rfl,(δl BK207.out 2).trans rfl,(δl BK207.out 3).trans rfl,(δl BK207.out 4).trans rfl,(δl BK207.out 5).trans rfl⟩ (fun hHeld => ?_)
   clear hK K
   refine nm 18 ?_
   refine on 13 19 (fun K hK => ?_)
   refine gs Tryz.func49 #[.slice Ao16 y211.length co16] ?_
   with_reducible refine (spec_l02Fields.calls kj1 _ _ y211 t214 _ ?side1 ?side2 A9.out).mono ?_
   (case side1=>repeat (exact (ζg HO213.out).2.2))
   (case side2=>exact (ζg HO213.out).2.1)
   rintro e w17 ⟨v215,rfl,ho0,hb⟩
   refine ⟨_,rfl,?_⟩
   replace HO213:=ζa (ζh (by exact HO213.out) hb)
   have HO216:=ζa (Kd.R_lower ho0 (δs (by exact HB.out)))
   replace BK207:=ζa (blk_below (g:=gb207) (o:=.cells #[.string a0_0,.string a0_1,.int .i64 a0_2,.int .i64 a0_3,.int .i64 a0_4,.bool a0_5] 46 (0,0)) (by exact BK207.out) hb)
   replace HB:=ζa (δr (by exact HB.out) hb)
   (try clear hb)
   (try clear hb2)
   (try clear hk)
   (try clear hi)
   (try clear ho0)
   refine hK.out _ _ ⟨(δl BK207.out 0).trans rfl,(δl BK207.out 1).trans rfl,(δl BK207.out 2).trans rfl,(δl BK207.out 3).trans rfl,(δl BK207.out 4).trans rfl,(δl BK207.out 5).trans rfl⟩ (fun hHeld => ?_)
   clear hK K
   refine nm 19 ?_
   refine on 14 20 (fun K hK => ?_)
   have hcv18:=own_string (P:=Tryz.prog) Tryz.underlying70 Tryz.underlying5 Tryz.underlying9 (Kd.own_of_R HO216.out)
   refine value_ (w1:=?_) (v:=?_) (by rfl) rfl ?_ ?_
   rotate_left 2
   ·
    go_simp
    constructor
    · rfl
    ·
     rfl
   clear hcv18
   refine hK.out _ _ ⟨(δl BK207.out 0).trans rfl,(δl BK207.out 1).trans rfl,(δl BK207.out 2).trans rfl,(δl BK207.out 3).trans rfl,(δl BK207.out 4).trans rfl,(δl BK207.out 5).trans rfl⟩ (fun hHeld => ?_)
   clear hK K
   refine nm 20 ?_
   refine pu 15 2 ?_
   refine done_ (done_of HT_.out (by kernel_rfl)) ?_
   try go_wp2
   go_ret
   exact ⟨by rfl,by repeat ((with_reducible exact HB.out))⟩


open Go.Proofs.YtjhhehjjnfnigaaGreatDoorW.PrintWords renaming below_step → δr, gate_dst → δx, blk_cell → δl, blk_frozen → δm, below_set → δq, blk_put → δw, blk_alloc → δo, blk_drew → δp, blk_drewN → δn, below_alloc → δk, below_drew1 → δj, pw_below_drewN → δi
set_option maxHeartbeats 8000000
set_option maxRecDepth 100000


/-! ### spec_l09Take: function 13 -/
def spec_l09Take.f (k:Nat) (name:ByteArray) (list:List S37) (data:ByteArray):Option (List S37 × Bool) :=
 (spec_l09ReadTake.f k data).bind fun q1=>if q1.2.2.2.2=τ then ((spec_l09Find.f k list q1.1).bind fun q2=>if q2.2.2.2.2.2.2=τ then (if q2.2.1.toList=q1.2.1.toList then ((spec_l09Fill.f k q2.1 q2.2.1 q2.2.2.1 q2.2.2.2.1 q2.2.2.2.2.1 q2.2.2.2.2.2.1 q1.2.2.2.1).bind fun q3=>if q3.2=0 then ((spec_l05Move.f k list ((⟨#[111,114,100,101,114,115]⟩:ByteArray)) q1.2.2.1 name q3.1).bind fun q4=>if q4.2=0 then (if 0<ζm (q2.2.2.2.2.1 - q3.1) then ((spec_l09Key.f q1.1).bind fun q5=>(spec_l09Bytes.f k q2.1 q2.2.1 q2.2.2.1 q2.2.2.2.1 (ζm (q2.2.2.2.2.1 - q3.1)) τ).bind fun q6=>(spec_l03Put.f k q4.1 q5 q6).bind fun q7=>if q7.2=0 then (some (q7.1,τ)) else (some (list,φ))) else ((spec_l09Key.f q1.1).bind fun q8=>(spec_l09Bytes.f k q2.1 q2.2.1 q2.2.2.1 q2.2.2.2.1 (ζm (q2.2.2.2.2.1 - q3.1)) φ).bind fun q9=>(spec_l03Put.f k q4.1 q8 q9).bind fun q10=>if q10.2=0 then (some (q10.1,τ)) else (some (list,φ)))) else (some (list,φ))) else (some (list,φ))) else (some (list,φ))) else (some (list,φ))) else (some (list,φ))
theorem spec_l09Take.calls (k:Nat) (name:ByteArray) (A_list:Option Addr) (c_list:Nat) (list:List S37) (data:ByteArray) (r1:List S37) (r2:Bool) (w:World) (hr0_list:Kd.C k37 w A_list list.length list) (hc0_list:list.length≤c_list) (h:spec_l09Take.f k name list data=some (r1,r2)) :
  Calls Tryz.prog 13 #[.string name,.slice A_list list.length c_list,.string data] w fun e w' => ∃ v0_:Value,e = .returned (.tuple #[v0_,.bool r2])∧Sf w w' (.slice A_list list.length c_list) list v0_ r1∧Below w.heap.size w w':=by
 have HR0_list:=ζa hr0_list
 have HC0_list:=ζa hc0_list
 clear hr0_list hc0_list
 have HB0:=ζa (Below.refl w.heap.size w)
 unfold spec_l09Take.f at h
 have HH:=ζa h
 clear h
 go_enter Tryz.func13,Tryz.ntmps13
 have h:=HH.out
 clear HH
 obtain ⟨⟨i1,m1,t1,p1,ok⟩,h1_,h⟩:=Option.bind_eq_some_iff.mp h
 have HH:=ζa h
 have H1:=ζa h1_
 clear h h1_
 go_wp2_with fail
 refine (spec_l09ReadTake.calls k data i1 m1 t1 p1 ok _ H1.out).mono ?_
 rintro e w1 ⟨rfl,hb⟩
 have m_:=ζa (δr (by repeat (exact HB0.out)) hb)
 clear hb
 have HB1:=m_
 clear m_
 have h:=HH.out
 clear HH
 cases ok with
 | true =>
  rw [if_pos rfl] at h
  have HH:=ζa h
  clear h
  have h:=HH.out
  clear HH
  obtain ⟨⟨u0,u1,u2,u3,u4,u5,found⟩,h3_,h⟩:=Option.bind_eq_some_iff.mp h
  have HH:=ζa h
  have H3:=ζa h3_
  clear h h3_
  go_wp2_with fail
  refine (spec_l09Find.calls k A_list c_list list i1 u0 u1 u2 u3 u4 u5 found _ (by repeat (exact Kd.C_below HR0_list.out HB1.out)) HC0_list.out H3.out).mono ?_
  rintro e w3 ⟨rfl,hb⟩
  have m_:=ζa (δr (by repeat (exact HB1.out)) hb)
  clear hb
  have HB3:=m_
  clear m_
  have h:=HH.out
  clear HH
  cases found with
  | true =>
   rw [if_pos rfl] at h
   have HH:=ζa h
   clear h
   have h:=HH.out
   clear HH
   by_cases cc5:u1.toList=m1.toList
   ·
    rw [if_pos cc5] at h
    have HH:=ζa h
    clear h
    have f5a:(u1.toList == m1.toList)=τ:=beq_iff_eq.mpr cc5
    have f5b:(u1.toList != m1.toList)=φ:=bne_eq_false_iff_eq.mpr cc5
    have C5:=ζa cc5
    clear cc5
    have h:=HH.out
    clear HH
    obtain ⟨⟨n1,c0⟩,h8_,h⟩:=Option.bind_eq_some_iff.mp h
    have HH:=ζa h
    have H8:=ζa h8_
    clear h h8_
    go_wp2_with (first|((with_reducible refine δx (N:=13) rfl ?_);refine bev 13 #[.string (⟨#[]⟩:ByteArray),.string (⟨#[]⟩:ByteArray),.int .i64 0,.int .i64 0,.int .i64 0,.bool φ] 46 ?_;intro gbo hg w6 hbox hb;have hbc:=δr (show Below w3.heap.size w3 _ from by repeat (exact Below.refl _ _)) hb;have GEo:Aside0 (w3.heap.size≤gbo):=⟨by rw [hg];exact Below.size (show Below w3.heap.size w3 _ from by repeat (exact Below.refl _ _))⟩;have GWo:Aside0 (w.heap.size≤gbo):=⟨Nat.le_trans HB3.out.size GEo.out⟩;have BKZ:=ζa hbox;have HBZ:=ζa hbc;have hzz:=hbox;clear hb hbc hbox hg;have hzo_0:=(δl BKZ.out 0).trans rfl;have hzo_1:=(δl BKZ.out 1).trans rfl;have hzo_2:=(δl BKZ.out 2).trans rfl;have hzo_3:=(δl BKZ.out 3).trans rfl;have hzo_4:=(δl BKZ.out 4).trans rfl;have hzo_5:=(δl BKZ.out 5).trans rfl;have hfo_0:=δm BKZ.out 0;have hfo_1:=δm BKZ.out 1;have hfo_2:=δm BKZ.out 2;have hfo_3:=δm BKZ.out 3;have hfo_4:=δm BKZ.out 4;have hfo_5:=δm BKZ.out 5;clear hzz)|((with_reducible refine gate_store (t:=46) (p:=13) rfl ?_);refine store_event (t:=46) (p:=13) (v:=?vo6) (w1:=((((((w6.setCell ⟨gbo,0,none⟩ (.string u0)).setCell ⟨gbo,1,none⟩ (.string u1)).setCell ⟨gbo,2,none⟩ (.int .i64 u2)).setCell ⟨gbo,3,none⟩ (.int .i64 u3)).setCell ⟨gbo,4,none⟩ (.int .i64 u4)).setCell ⟨gbo,5,none⟩ (.bool u5))) ?hg ?ho ?hn ?hr ?_;(case ho=>rfl);(case hg=>rfl);(case hn=>rfl);(case hr=>(go_simp;done));intro w7 hw;have hbc:Below w3.heap.size w3 w7:=(by rw [hw];exact (δq (δq (δq (δq (δq (δq HBZ.out GEo.out) GEo.out) GEo.out) GEo.out) GEo.out) GEo.out));have BKo:Aside0 (w7.heap[gbo]? = some (.cells #[.string u0,.string u1,.int .i64 u2,.int .i64 u3,.int .i64 u4,.bool u5] 46 (0,0))):=⟨by rw [hw];exact (δw (δw (δw (δw (δw (δw BKZ.out 0 _ rfl) 1 _ rfl) 2 _ rfl) 3 _ rfl) 4 _ rfl) 5 _ rfl)⟩;have HB6:=ζa (δr HB3.out hbc);clear hbc hw BKZ HBZ;clear hzo_0 hfo_0 hzo_1 hfo_1 hzo_2 hfo_2 hzo_3 hfo_3 hzo_4 hfo_4 hzo_5 hfo_5;have hzo_0:=(δl BKo.out 0).trans rfl;have hzo_1:=(δl BKo.out 1).trans rfl;have hzo_2:=(δl BKo.out 2).trans rfl;have hzo_3:=(δl BKo.out 3).trans rfl;have hzo_4:=(δl BKo.out 4).trans rfl;have hzo_5:=(δl BKo.out 5).trans rfl;have hfo_0:=δm BKo.out 0;have hfo_1:=δm BKo.out 1;have hfo_2:=δm BKo.out 2;have hfo_3:=δm BKo.out 3;have hfo_4:=δm BKo.out 4;have hfo_5:=δm BKo.out 5))
    refine (spec_l09Fill.calls k u0 u1 u2 u3 u4 u5 p1 n1 c0 _ H8.out).mono ?_
    rintro e w8 ⟨rfl,hb⟩
    replace BKo:=ζa (blk_below (by repeat (exact BKo.out)) hb)
    clear hzo_0 hfo_0 hzo_1 hfo_1 hzo_2 hfo_2 hzo_3 hfo_3 hzo_4 hfo_4 hzo_5 hfo_5
    have m_:=ζa (δr (by repeat (exact HB6.out)) hb)
    clear hb
    have HB8:=m_
    clear m_
    have hzo_0:=(δl BKo.out 0).trans rfl
    have hfo_0:=δm BKo.out 0
    have hzo_1:=(δl BKo.out 1).trans rfl
    have hfo_1:=δm BKo.out 1
    have hzo_2:=(δl BKo.out 2).trans rfl
    have hfo_2:=δm BKo.out 2
    have hzo_3:=(δl BKo.out 3).trans rfl
    have hfo_3:=δm BKo.out 3
    have hzo_4:=(δl BKo.out 4).trans rfl
    have hfo_4:=δm BKo.out 4
    have hzo_5:=(δl BKo.out 5).trans rfl
    have hfo_5:=δm BKo.out 5
    have h:=HH.out
    clear HH
    by_cases cc9:c0=0
    ·
     rw [if_pos cc9] at h
     have HH:=ζa h
     clear h
     have f9a:(c0 == 0)=τ:=beq_iff_eq.mpr cc9
     have f9b:(c0 != 0)=φ:=bne_eq_false_iff_eq.mpr cc9
     have C9:=ζa cc9
     clear cc9
     have h:=HH.out
     clear HH
     obtain ⟨⟨o1,c1⟩,h10_,h⟩:=Option.bind_eq_some_iff.mp h
     have HH:=ζa h
     have H10:=ζa h10_
     clear h h10_
     go_wp2_with fail
     refine (spec_l05Move.calls k A_list c_list list ((⟨#[111,114,100,101,114,115]⟩:ByteArray)) t1 name n1 o1 c1 _ (by repeat (exact Kd.C_below HR0_list.out HB8.out)) HC0_list.out H10.out).mono ?_
     rintro e w10 ⟨v10,rfl,ho,hb⟩
     have hsf:=Sf.trans (by exact ⟨Or.inl ⟨rfl,rfl⟩⟩) ho hb (Below.size (show Below w.heap.size w _ from by repeat (exact HB8.out)))
     replace BKo:=ζa (blk_below (by repeat (exact BKo.out)) hb)
     clear hzo_0 hfo_0 hzo_1 hfo_1 hzo_2 hfo_2 hzo_3 hfo_3 hzo_4 hfo_4 hzo_5 hfo_5
     obtain ⟨adr10,cap10,rfl,hl10,hq10⟩:=Sf.reads ho (Kd.C_below HR0_list.out (δr (by repeat (exact HB8.out)) hb)) HC0_list.out
     have HC10:=ζa hl10
     have HRn10:=ζa hq10
     have HS10:=ζa hsf
     clear hl10 hq10 ho hsf
     have m_:=ζa (δr (by repeat (exact HB8.out)) hb)
     clear hb
     have HB10:=m_
     clear m_
     have hzo_0:=(δl BKo.out 0).trans rfl
     have hfo_0:=δm BKo.out 0
     have hzo_1:=(δl BKo.out 1).trans rfl
     have hfo_1:=δm BKo.out 1
     have hzo_2:=(δl BKo.out 2).trans rfl
     have hfo_2:=δm BKo.out 2
     have hzo_3:=(δl BKo.out 3).trans rfl
     have hfo_3:=δm BKo.out 3
     have hzo_4:=(δl BKo.out 4).trans rfl
     have hfo_4:=δm BKo.out 4
     have hzo_5:=(δl BKo.out 5).trans rfl
     have hfo_5:=δm BKo.out 5
     have h:=HH.out
     clear HH
     by_cases cc11:c1=0
     ·
      rw [if_pos cc11] at h
      have HH:=ζa h
      clear h
      have f11a:(c1 == 0)=τ:=beq_iff_eq.mpr cc11
      have f11b:(c1 != 0)=φ:=bne_eq_false_iff_eq.mpr cc11
      have C11:=ζa cc11
      clear cc11
      have h:=HH.out
      clear HH
      by_cases cc12:0<ζm (u4 - n1)
      ·
       rw [if_pos cc12] at h
       have HH:=ζa h
       clear h
       have f12a:decide (0<ζm (u4 - n1))=τ:=decide_eq_true cc12
       have C12:=ζa cc12
       clear cc12
       have h:=HH.out
       clear HH
       obtain ⟨k2,h15_,h⟩:=Option.bind_eq_some_iff.mp h
       have HH:=ζa h
       have H15:=ζa h15_
       clear h h15_
       have h:=HH.out
       clear HH
       obtain ⟨y2,h16_,h⟩:=Option.bind_eq_some_iff.mp h
       have HH:=ζa h
       have H16:=ζa h16_
       clear h h16_
       have h:=HH.out
       clear HH
       obtain ⟨⟨o2,c2⟩,h17_,h⟩:=Option.bind_eq_some_iff.mp h
       have HH:=ζa h
       have H17:=ζa h17_
       clear h h17_
       go_wp2_with (first|((with_reducible refine gate_store (t:=3) (p:=68) rfl ?_);refine store_event (t:=3) (p:=68) (v:=?vo13) (w1:=(w10.setCell ⟨gbo,4,none⟩ (.int .i64 (ζm (u4 - n1))))) ?hg ?ho ?hn ?hr ?_;(case ho=>rfl);(case hg=>rfl);(case hn=>rfl);(case hr=>(go_simp;done));intro w13 hw;have m_:Aside0 (Sf w w13 _ _ _ _):=⟨by rw [hw];exact Sf.set HS10.out BKo.out (by decide) 4 _⟩;clear HS10;have HS10:=m_;clear m_;have HB13:Aside0 (Below w.heap.size w w13):=⟨by rw [hw];exact δq HB10.out GWo.out⟩;replace HRn10:=ζa (Sf.row HS10.out (Kd.C_below HR0_list.out HB13.out));have m_:Aside0 (w13.heap[gbo]? = some (.cells #[.string u0,.string u1,.int .i64 u2,.int .i64 u3,.int .i64 (ζm (u4 - n1)),.bool u5] 46 (0,0))):=⟨by rw [hw];exact δw BKo.out 4 _ rfl⟩;have no_:=m_;clear m_;clear BKo;have BKo:=no_;clear no_;clear hw;clear hzo_0 hfo_0 hzo_1 hfo_1 hzo_2 hfo_2 hzo_3 hfo_3 hzo_4 hfo_4 hzo_5 hfo_5;have hzo_0:=(δl BKo.out 0).trans rfl;have hzo_1:=(δl BKo.out 1).trans rfl;have hzo_2:=(δl BKo.out 2).trans rfl;have hzo_3:=(δl BKo.out 3).trans rfl;have hzo_4:=(δl BKo.out 4).trans rfl;have hzo_5:=(δl BKo.out 5).trans rfl;have hfo_0:=δm BKo.out 0;have hfo_1:=δm BKo.out 1;have hfo_2:=δm BKo.out 2;have hfo_3:=δm BKo.out 3;have hfo_4:=δm BKo.out 4;have hfo_5:=δm BKo.out 5)|((with_reducible refine gate_store (t:=4) (p:=72) rfl ?_);refine store_event (t:=4) (p:=72) (v:=?vo14) (w1:=(w13.setCell ⟨gbo,5,none⟩ (.bool τ))) ?hg ?ho ?hn ?hr ?_;(case ho=>rfl);(case hg=>rfl);(case hn=>rfl);(case hr=>(go_simp;done));intro w14 hw;have m_:Aside0 (Sf w w14 _ _ _ _):=⟨by rw [hw];exact Sf.set HS10.out BKo.out (by decide) 5 _⟩;clear HS10;have HS10:=m_;clear m_;have HB14:Aside0 (Below w.heap.size w w14):=⟨by rw [hw];exact δq HB13.out GWo.out⟩;replace HRn10:=ζa (Sf.row HS10.out (Kd.C_below HR0_list.out HB14.out));have m_:Aside0 (w14.heap[gbo]? = some (.cells #[.string u0,.string u1,.int .i64 u2,.int .i64 u3,.int .i64 (ζm (u4 - n1)),.bool τ] 46 (0,0))):=⟨by rw [hw];exact δw BKo.out 5 _ rfl⟩;have no_:=m_;clear m_;clear BKo;have BKo:=no_;clear no_;clear hw;clear hzo_0 hfo_0 hzo_1 hfo_1 hzo_2 hfo_2 hzo_3 hfo_3 hzo_4 hfo_4 hzo_5 hfo_5;have hzo_0:=(δl BKo.out 0).trans rfl;have hzo_1:=(δl BKo.out 1).trans rfl;have hzo_2:=(δl BKo.out 2).trans rfl;have hzo_3:=(δl BKo.out 3).trans rfl;have hzo_4:=(δl BKo.out 4).trans rfl;have hzo_5:=(δl BKo.out 5).trans rfl;have hfo_0:=δm BKo.out 0;have hfo_1:=δm BKo.out 1;have hfo_2:=δm BKo.out 2;have hfo_3:=δm BKo.out 3;have hfo_4:=δm BKo.out 4;have hfo_5:=δm BKo.out 5))
       have HBr:=ζa HB14.out
       go_region_held3 (fun w'=>w'.cell? ⟨gbo,0,none⟩=some (.string u0)∧w'.cell? ⟨gbo,1,none⟩=some (.string u1)∧w'.cell? ⟨gbo,2,none⟩=some (.int .i64 u2)∧w'.cell? ⟨gbo,3,none⟩=some (.int .i64 u3)∧w'.cell? ⟨gbo,4,none⟩=some (.int .i64 (ζm (u4 - n1)))∧w'.cell? ⟨gbo,5,none⟩=some (.bool τ)) (first|go_keep|exact ⟨(δl (by repeat (exact BKo.out)) 0).trans rfl,(δl (by repeat (exact BKo.out)) 1).trans rfl,(δl (by repeat (exact BKo.out)) 2).trans rfl,(δl (by repeat (exact BKo.out)) 3).trans rfl,(δl (by repeat (exact BKo.out)) 4).trans rfl,(δl (by repeat (exact BKo.out)) 5).trans rfl⟩)
        (first
         | (go_at_call 25;refine (spec_l09Key.calls i1 k2 _ H15.out).mono ?_;rintro e w' ⟨rfl,⟨q',rfl⟩⟩)
         | (go_at_call 26;refine (spec_l09Bytes.calls k u0 u1 u2 u3 (ζm (u4 - n1)) τ y2 _ H16.out).mono ?_;rintro e w16 ⟨rfl,hb⟩;replace BKo:=ζa (blk_below (by repeat (first|exact BKo.out|apply δo|apply δp|apply δn)) hb);replace HRn10:=ζa (Kd.C_below (by repeat (first|exact HRn10.out|apply Kd.C_alloc|apply Kd.C_drew|apply Kd.C_drewN)) hb);replace HS10:=ζa (Sf.below (by repeat (first|exact HS10.out|apply Sf.alloc|apply Sf.drew|apply Sf.drewN)) hb);replace HBr:=ζa (δr (by repeat (first|exact HBr.out|apply δk|apply δj|apply δi)) hb);clear hb)
         | (go_at_call 24;refine (spec_l03Put.calls k adr10 cap10 o1 k2 y2 o2 c2 _ (by repeat (first|exact HRn10.out|apply Kd.C_alloc|apply Kd.C_drew|apply Kd.C_drewN)) HC10.out H17.out).mono ?_;rintro e w17 ⟨v17,rfl,ho,hb⟩;have hsf:=Sf.trans (by repeat (first|exact HS10.out|apply Sf.alloc|apply Sf.drew|apply Sf.drewN)) ho hb (Below.size (show Below w.heap.size w _ from by repeat (first|exact HBr.out|apply δk|apply δj|apply δi)));replace BKo:=ζa (blk_below (by repeat (first|exact BKo.out|apply δo|apply δp|apply δn)) hb);replace HRn10:=ζa (Kd.C_below (by repeat (first|exact HRn10.out|apply Kd.C_alloc|apply Kd.C_drew|apply Kd.C_drewN)) hb);replace HS10:=ζa (Sf.below (by repeat (first|exact HS10.out|apply Sf.alloc|apply Sf.drew|apply Sf.drewN)) hb);replace HBr:=ζa (δr (by repeat (first|exact HBr.out|apply δk|apply δj|apply δi)) hb);obtain ⟨adr17,cap17,rfl,hl17,hq17⟩:=Sf.reads ho (HRn10.out) HC10.out;have HC17:=ζa hl17;have HRn17:=ζa hq17;have HS17:=ζa hsf;clear hl17 hq17 ho hsf;clear hb))
       all_goals
        clear hzo_0 hfo_0 hzo_1 hfo_1 hzo_2 hfo_2 hzo_3 hfo_3 hzo_4 hfo_4 hzo_5 hfo_5
        have hzo_0:=(δl BKo.out 0).trans rfl
        have hfo_0:=δm BKo.out 0
        have hzo_1:=(δl BKo.out 1).trans rfl
        have hfo_1:=δm BKo.out 1
        have hzo_2:=(δl BKo.out 2).trans rfl
        have hfo_2:=δm BKo.out 2
        have hzo_3:=(δl BKo.out 3).trans rfl
        have hfo_3:=δm BKo.out 3
        have hzo_4:=(δl BKo.out 4).trans rfl
        have hfo_4:=δm BKo.out 4
        have hzo_5:=(δl BKo.out 5).trans rfl
        have hfo_5:=δm BKo.out 5
        have h:=HH.out
        clear HH
        by_cases cc18:c2=0
        ·
         rw [if_pos cc18] at h
         have HH:=ζa h
         clear h
         have f18a:(c2 == 0)=τ:=beq_iff_eq.mpr cc18
         have f18b:(c2 != 0)=φ:=bne_eq_false_iff_eq.mpr cc18
         have C18:=ζa cc18
         clear cc18
         have h:=HH.out
         clear HH
         simp only [Option.some.injEq,Prod.mk.injEq] at h
         obtain ⟨rfl,rfl⟩:=h
         go_wp2
         go_ret2
         exact ⟨_,rfl,(by repeat (exact HS17.out)),(by repeat (exact HBr.out))⟩
        ·
         rw [if_neg cc18] at h
         have HH:=ζa h
         clear h
         have f18a:(c2 == 0)=φ:=beq_eq_false_iff_ne.mpr cc18
         have f18b:(c2 != 0)=τ:=bne_iff_ne.mpr cc18
         have C18:=ζa cc18
         clear cc18
         have h:=HH.out
         clear HH
         simp only [Option.some.injEq,Prod.mk.injEq] at h
         obtain ⟨rfl,rfl⟩:=h
         go_wp2
         go_ret2
         exact ⟨_,rfl,⟨Or.inl ⟨rfl,rfl⟩⟩,(by repeat (exact HBr.out))⟩
      ·
       rw [if_neg cc12] at h
       have HH:=ζa h
       clear h
       have f12a:decide (0<ζm (u4 - n1))=φ:=decide_eq_false cc12
       have C12:=ζa cc12
       clear cc12
       have h:=HH.out
       clear HH
       obtain ⟨k2,h21_,h⟩:=Option.bind_eq_some_iff.mp h
       have HH:=ζa h
       have H21:=ζa h21_
       clear h h21_
       have h:=HH.out
       clear HH
       obtain ⟨y2,h22_,h⟩:=Option.bind_eq_some_iff.mp h
       have HH:=ζa h
       have H22:=ζa h22_
       clear h h22_
       have h:=HH.out
       clear HH
       obtain ⟨⟨o2,c2⟩,h23_,h⟩:=Option.bind_eq_some_iff.mp h
       have HH:=ζa h
       have H23:=ζa h23_
       clear h h23_
       go_wp2_with (first|((with_reducible refine gate_store (t:=3) (p:=68) rfl ?_);refine store_event (t:=3) (p:=68) (v:=?vo19) (w1:=(w10.setCell ⟨gbo,4,none⟩ (.int .i64 (ζm (u4 - n1))))) ?hg ?ho ?hn ?hr ?_;(case ho=>rfl);(case hg=>rfl);(case hn=>rfl);(case hr=>(go_simp;done));intro w19 hw;have m_:Aside0 (Sf w w19 _ _ _ _):=⟨by rw [hw];exact Sf.set HS10.out BKo.out (by decide) 4 _⟩;clear HS10;have HS10:=m_;clear m_;have HB19:Aside0 (Below w.heap.size w w19):=⟨by rw [hw];exact δq HB10.out GWo.out⟩;replace HRn10:=ζa (Sf.row HS10.out (Kd.C_below HR0_list.out HB19.out));have m_:Aside0 (w19.heap[gbo]? = some (.cells #[.string u0,.string u1,.int .i64 u2,.int .i64 u3,.int .i64 (ζm (u4 - n1)),.bool u5] 46 (0,0))):=⟨by rw [hw];exact δw BKo.out 4 _ rfl⟩;have no_:=m_;clear m_;clear BKo;have BKo:=no_;clear no_;clear hw;clear hzo_0 hfo_0 hzo_1 hfo_1 hzo_2 hfo_2 hzo_3 hfo_3 hzo_4 hfo_4 hzo_5 hfo_5;have hzo_0:=(δl BKo.out 0).trans rfl;have hzo_1:=(δl BKo.out 1).trans rfl;have hzo_2:=(δl BKo.out 2).trans rfl;have hzo_3:=(δl BKo.out 3).trans rfl;have hzo_4:=(δl BKo.out 4).trans rfl;have hzo_5:=(δl BKo.out 5).trans rfl;have hfo_0:=δm BKo.out 0;have hfo_1:=δm BKo.out 1;have hfo_2:=δm BKo.out 2;have hfo_3:=δm BKo.out 3;have hfo_4:=δm BKo.out 4;have hfo_5:=δm BKo.out 5)|((with_reducible refine gate_store (t:=4) (p:=72) rfl ?_);refine store_event (t:=4) (p:=72) (v:=?vo20) (w1:=(w19.setCell ⟨gbo,5,none⟩ (.bool φ))) ?hg ?ho ?hn ?hr ?_;(case ho=>rfl);(case hg=>rfl);(case hn=>rfl);(case hr=>(go_simp;done));intro w20 hw;have m_:Aside0 (Sf w w20 _ _ _ _):=⟨by rw [hw];exact Sf.set HS10.out BKo.out (by decide) 5 _⟩;clear HS10;have HS10:=m_;clear m_;have HB20:Aside0 (Below w.heap.size w w20):=⟨by rw [hw];exact δq HB19.out GWo.out⟩;replace HRn10:=ζa (Sf.row HS10.out (Kd.C_below HR0_list.out HB20.out));have m_:Aside0 (w20.heap[gbo]? = some (.cells #[.string u0,.string u1,.int .i64 u2,.int .i64 u3,.int .i64 (ζm (u4 - n1)),.bool φ] 46 (0,0))):=⟨by rw [hw];exact δw BKo.out 5 _ rfl⟩;have no_:=m_;clear m_;clear BKo;have BKo:=no_;clear no_;clear hw;clear hzo_0 hfo_0 hzo_1 hfo_1 hzo_2 hfo_2 hzo_3 hfo_3 hzo_4 hfo_4 hzo_5 hfo_5;have hzo_0:=(δl BKo.out 0).trans rfl;have hzo_1:=(δl BKo.out 1).trans rfl;have hzo_2:=(δl BKo.out 2).trans rfl;have hzo_3:=(δl BKo.out 3).trans rfl;have hzo_4:=(δl BKo.out 4).trans rfl;have hzo_5:=(δl BKo.out 5).trans rfl;have hfo_0:=δm BKo.out 0;have hfo_1:=δm BKo.out 1;have hfo_2:=δm BKo.out 2;have hfo_3:=δm BKo.out 3;have hfo_4:=δm BKo.out 4;have hfo_5:=δm BKo.out 5))
       have HBr:=ζa HB20.out
       go_region_held3 (fun w'=>w'.cell? ⟨gbo,0,none⟩=some (.string u0)∧w'.cell? ⟨gbo,1,none⟩=some (.string u1)∧w'.cell? ⟨gbo,2,none⟩=some (.int .i64 u2)∧w'.cell? ⟨gbo,3,none⟩=some (.int .i64 u3)∧w'.cell? ⟨gbo,4,none⟩=some (.int .i64 (ζm (u4 - n1)))∧w'.cell? ⟨gbo,5,none⟩=some (.bool φ)) (first|go_keep|exact ⟨(δl (by repeat (exact BKo.out)) 0).trans rfl,(δl (by repeat (exact BKo.out)) 1).trans rfl,(δl (by repeat (exact BKo.out)) 2).trans rfl,(δl (by repeat (exact BKo.out)) 3).trans rfl,(δl (by repeat (exact BKo.out)) 4).trans rfl,(δl (by repeat (exact BKo.out)) 5).trans rfl⟩)
        (first
         | (go_at_call 25;refine (spec_l09Key.calls i1 k2 _ H21.out).mono ?_;rintro e w' ⟨rfl,⟨q',rfl⟩⟩)
         | (go_at_call 26;refine (spec_l09Bytes.calls k u0 u1 u2 u3 (ζm (u4 - n1)) φ y2 _ H22.out).mono ?_;rintro e w22 ⟨rfl,hb⟩;replace BKo:=ζa (blk_below (by repeat (first|exact BKo.out|apply δo|apply δp|apply δn)) hb);replace HRn10:=ζa (Kd.C_below (by repeat (first|exact HRn10.out|apply Kd.C_alloc|apply Kd.C_drew|apply Kd.C_drewN)) hb);replace HS10:=ζa (Sf.below (by repeat (first|exact HS10.out|apply Sf.alloc|apply Sf.drew|apply Sf.drewN)) hb);replace HBr:=ζa (δr (by repeat (first|exact HBr.out|apply δk|apply δj|apply δi)) hb);clear hb)
         | (go_at_call 24;refine (spec_l03Put.calls k adr10 cap10 o1 k2 y2 o2 c2 _ (by repeat (first|exact HRn10.out|apply Kd.C_alloc|apply Kd.C_drew|apply Kd.C_drewN)) HC10.out H23.out).mono ?_;rintro e w23 ⟨v23,rfl,ho,hb⟩;have hsf:=Sf.trans (by repeat (first|exact HS10.out|apply Sf.alloc|apply Sf.drew|apply Sf.drewN)) ho hb (Below.size (show Below w.heap.size w _ from by repeat (first|exact HBr.out|apply δk|apply δj|apply δi)));replace BKo:=ζa (blk_below (by repeat (first|exact BKo.out|apply δo|apply δp|apply δn)) hb);replace HRn10:=ζa (Kd.C_below (by repeat (first|exact HRn10.out|apply Kd.C_alloc|apply Kd.C_drew|apply Kd.C_drewN)) hb);replace HS10:=ζa (Sf.below (by repeat (first|exact HS10.out|apply Sf.alloc|apply Sf.drew|apply Sf.drewN)) hb);replace HBr:=ζa (δr (by repeat (first|exact HBr.out|apply δk|apply δj|apply δi)) hb);obtain ⟨adr23,cap23,rfl,hl23,hq23⟩:=Sf.reads ho (HRn10.out) HC10.out;have HC23:=ζa hl23;have HRn23:=ζa hq23;have HS23:=ζa hsf;clear hl23 hq23 ho hsf;clear hb))
       all_goals
        clear hzo_0 hfo_0 hzo_1 hfo_1 hzo_2 hfo_2 hzo_3 hfo_3 hzo_4 hfo_4 hzo_5 hfo_5
        have hzo_0:=(δl BKo.out 0).trans rfl
        have hfo_0:=δm BKo.out 0
        have hzo_1:=(δl BKo.out 1).trans rfl
        have hfo_1:=δm BKo.out 1
        have hzo_2:=(δl BKo.out 2).trans rfl
        have hfo_2:=δm BKo.out 2
        have hzo_3:=(δl BKo.out 3).trans rfl
        have hfo_3:=δm BKo.out 3
        have hzo_4:=(δl BKo.out 4).trans rfl
        have hfo_4:=δm BKo.out 4
        have hzo_5:=(δl BKo.out 5).trans rfl
        have hfo_5:=δm BKo.out 5
        have h:=HH.out
        clear HH
        by_cases cc24:c2=0
        ·
         rw [if_pos cc24] at h
         have HH:=ζa h
         clear h
         have f24a:(c2 == 0)=τ:=beq_iff_eq.mpr cc24
         have f24b:(c2 != 0)=φ:=bne_eq_false_iff_eq.mpr cc24
         have C24:=ζa cc24
         clear cc24
         have h:=HH.out
         clear HH
         simp only [Option.some.injEq,Prod.mk.injEq] at h
         obtain ⟨rfl,rfl⟩:=h
         go_wp2
         go_ret2
         exact ⟨_,rfl,(by repeat (exact HS23.out)),(by repeat (exact HBr.out))⟩
        ·
         rw [if_neg cc24] at h
         have HH:=ζa h
         clear h
         have f24a:(c2 == 0)=φ:=beq_eq_false_iff_ne.mpr cc24
         have f24b:(c2 != 0)=τ:=bne_iff_ne.mpr cc24
         have C24:=ζa cc24
         clear cc24
         have h:=HH.out
         clear HH
         simp only [Option.some.injEq,Prod.mk.injEq] at h
         obtain ⟨rfl,rfl⟩:=h
         go_wp2
         go_ret2
         exact ⟨_,rfl,⟨Or.inl ⟨rfl,rfl⟩⟩,(by repeat (exact HBr.out))⟩
     ·
      rw [if_neg cc11] at h
      have HH:=ζa h
      clear h
      have f11a:(c1 == 0)=φ:=beq_eq_false_iff_ne.mpr cc11
      have f11b:(c1 != 0)=τ:=bne_iff_ne.mpr cc11
      have C11:=ζa cc11
      clear cc11
      have h:=HH.out
      clear HH
      simp only [Option.some.injEq,Prod.mk.injEq] at h
      obtain ⟨rfl,rfl⟩:=h
      go_wp2
      go_ret2
      exact ⟨_,rfl,⟨Or.inl ⟨rfl,rfl⟩⟩,(by repeat (exact HB10.out))⟩
    ·
     rw [if_neg cc9] at h
     have HH:=ζa h
     clear h
     have f9a:(c0 == 0)=φ:=beq_eq_false_iff_ne.mpr cc9
     have f9b:(c0 != 0)=τ:=bne_iff_ne.mpr cc9
     have C9:=ζa cc9
     clear cc9
     have h:=HH.out
     clear HH
     simp only [Option.some.injEq,Prod.mk.injEq] at h
     obtain ⟨rfl,rfl⟩:=h
     go_wp2
     go_ret2
     exact ⟨_,rfl,⟨Or.inl ⟨rfl,rfl⟩⟩,(by repeat (exact HB8.out))⟩
   ·
    rw [if_neg cc5] at h
    have HH:=ζa h
    clear h
    have f5a:(u1.toList == m1.toList)=φ:=beq_eq_false_iff_ne.mpr cc5
    have f5b:(u1.toList != m1.toList)=τ:=bne_iff_ne.mpr cc5
    have C5:=ζa cc5
    clear cc5
    have h:=HH.out
    clear HH
    simp only [Option.some.injEq,Prod.mk.injEq] at h
    obtain ⟨rfl,rfl⟩:=h
    go_wp2_with (first|((with_reducible refine δx (N:=13) rfl ?_);refine bev 13 #[.string (⟨#[]⟩:ByteArray),.string (⟨#[]⟩:ByteArray),.int .i64 0,.int .i64 0,.int .i64 0,.bool φ] 46 ?_;intro gbo hg w25 hbox hb;have hbc:=δr (show Below w3.heap.size w3 _ from by repeat (exact Below.refl _ _)) hb;have GEo:Aside0 (w3.heap.size≤gbo):=⟨by rw [hg];exact Below.size (show Below w3.heap.size w3 _ from by repeat (exact Below.refl _ _))⟩;have GWo:Aside0 (w.heap.size≤gbo):=⟨Nat.le_trans HB3.out.size GEo.out⟩;have BKZ:=ζa hbox;have HBZ:=ζa hbc;have hzz:=hbox;clear hb hbc hbox hg;have hzo_0:=(δl BKZ.out 0).trans rfl;have hzo_1:=(δl BKZ.out 1).trans rfl;have hzo_2:=(δl BKZ.out 2).trans rfl;have hzo_3:=(δl BKZ.out 3).trans rfl;have hzo_4:=(δl BKZ.out 4).trans rfl;have hzo_5:=(δl BKZ.out 5).trans rfl;have hfo_0:=δm BKZ.out 0;have hfo_1:=δm BKZ.out 1;have hfo_2:=δm BKZ.out 2;have hfo_3:=δm BKZ.out 3;have hfo_4:=δm BKZ.out 4;have hfo_5:=δm BKZ.out 5;clear hzz)|((with_reducible refine gate_store (t:=46) (p:=13) rfl ?_);refine store_event (t:=46) (p:=13) (v:=?vo25) (w1:=((((((w25.setCell ⟨gbo,0,none⟩ (.string u0)).setCell ⟨gbo,1,none⟩ (.string u1)).setCell ⟨gbo,2,none⟩ (.int .i64 u2)).setCell ⟨gbo,3,none⟩ (.int .i64 u3)).setCell ⟨gbo,4,none⟩ (.int .i64 u4)).setCell ⟨gbo,5,none⟩ (.bool u5))) ?hg ?ho ?hn ?hr ?_;(case ho=>rfl);(case hg=>rfl);(case hn=>rfl);(case hr=>(go_simp;done));intro w26 hw;have hbc:Below w3.heap.size w3 w26:=(by rw [hw];exact (δq (δq (δq (δq (δq (δq HBZ.out GEo.out) GEo.out) GEo.out) GEo.out) GEo.out) GEo.out));have BKo:Aside0 (w26.heap[gbo]? = some (.cells #[.string u0,.string u1,.int .i64 u2,.int .i64 u3,.int .i64 u4,.bool u5] 46 (0,0))):=⟨by rw [hw];exact (δw (δw (δw (δw (δw (δw BKZ.out 0 _ rfl) 1 _ rfl) 2 _ rfl) 3 _ rfl) 4 _ rfl) 5 _ rfl)⟩;have HB25:=ζa (δr HB3.out hbc);clear hbc hw BKZ HBZ;clear hzo_0 hfo_0 hzo_1 hfo_1 hzo_2 hfo_2 hzo_3 hfo_3 hzo_4 hfo_4 hzo_5 hfo_5;have hzo_0:=(δl BKo.out 0).trans rfl;have hzo_1:=(δl BKo.out 1).trans rfl;have hzo_2:=(δl BKo.out 2).trans rfl;have hzo_3:=(δl BKo.out 3).trans rfl;have hzo_4:=(δl BKo.out 4).trans rfl;have hzo_5:=(δl BKo.out 5).trans rfl;have hfo_0:=δm BKo.out 0;have hfo_1:=δm BKo.out 1;have hfo_2:=δm BKo.out 2;have hfo_3:=δm BKo.out 3;have hfo_4:=δm BKo.out 4;have hfo_5:=δm BKo.out 5))
    go_ret2
    exact ⟨_,rfl,⟨Or.inl ⟨rfl,rfl⟩⟩,(by repeat (first|exact HB25.out|apply δk|apply δj|apply δi))⟩
  | false =>
   rw [if_neg (by decide)] at h
   have HH:=ζa h
   clear h
   have h:=HH.out
   clear HH
   simp only [Option.some.injEq,Prod.mk.injEq] at h
   obtain ⟨rfl,rfl⟩:=h
   go_wp2_with (first|((with_reducible refine δx (N:=13) rfl ?_);refine bev 13 #[.string (⟨#[]⟩:ByteArray),.string (⟨#[]⟩:ByteArray),.int .i64 0,.int .i64 0,.int .i64 0,.bool φ] 46 ?_;intro gbo hg w27 hbox hb;have hbc:=δr (show Below w3.heap.size w3 _ from by repeat (exact Below.refl _ _)) hb;have GEo:Aside0 (w3.heap.size≤gbo):=⟨by rw [hg];exact Below.size (show Below w3.heap.size w3 _ from by repeat (exact Below.refl _ _))⟩;have GWo:Aside0 (w.heap.size≤gbo):=⟨Nat.le_trans HB3.out.size GEo.out⟩;have BKZ:=ζa hbox;have HBZ:=ζa hbc;have hzz:=hbox;clear hb hbc hbox hg;have hzo_0:=(δl BKZ.out 0).trans rfl;have hzo_1:=(δl BKZ.out 1).trans rfl;have hzo_2:=(δl BKZ.out 2).trans rfl;have hzo_3:=(δl BKZ.out 3).trans rfl;have hzo_4:=(δl BKZ.out 4).trans rfl;have hzo_5:=(δl BKZ.out 5).trans rfl;have hfo_0:=δm BKZ.out 0;have hfo_1:=δm BKZ.out 1;have hfo_2:=δm BKZ.out 2;have hfo_3:=δm BKZ.out 3;have hfo_4:=δm BKZ.out 4;have hfo_5:=δm BKZ.out 5;clear hzz)|((with_reducible refine gate_store (t:=46) (p:=13) rfl ?_);refine store_event (t:=46) (p:=13) (v:=?vo27) (w1:=((((((w27.setCell ⟨gbo,0,none⟩ (.string u0)).setCell ⟨gbo,1,none⟩ (.string u1)).setCell ⟨gbo,2,none⟩ (.int .i64 u2)).setCell ⟨gbo,3,none⟩ (.int .i64 u3)).setCell ⟨gbo,4,none⟩ (.int .i64 u4)).setCell ⟨gbo,5,none⟩ (.bool u5))) ?hg ?ho ?hn ?hr ?_;(case ho=>rfl);(case hg=>rfl);(case hn=>rfl);(case hr=>(go_simp;done));intro w28 hw;have hbc:Below w3.heap.size w3 w28:=(by rw [hw];exact (δq (δq (δq (δq (δq (δq HBZ.out GEo.out) GEo.out) GEo.out) GEo.out) GEo.out) GEo.out));have BKo:Aside0 (w28.heap[gbo]? = some (.cells #[.string u0,.string u1,.int .i64 u2,.int .i64 u3,.int .i64 u4,.bool u5] 46 (0,0))):=⟨by rw [hw];exact (δw (δw (δw (δw (δw (δw BKZ.out 0 _ rfl) 1 _ rfl) 2 _ rfl) 3 _ rfl) 4 _ rfl) 5 _ rfl)⟩;have HB27:=ζa (δr HB3.out hbc);clear hbc hw BKZ HBZ;clear hzo_0 hfo_0 hzo_1 hfo_1 hzo_2 hfo_2 hzo_3 hfo_3 hzo_4 hfo_4 hzo_5 hfo_5;have hzo_0:=(δl BKo.out 0).trans rfl;have hzo_1:=(δl BKo.out 1).trans rfl;have hzo_2:=(δl BKo.out 2).trans rfl;have hzo_3:=(δl BKo.out 3).trans rfl;have hzo_4:=(δl BKo.out 4).trans rfl;have hzo_5:=(δl BKo.out 5).trans rfl;have hfo_0:=δm BKo.out 0;have hfo_1:=δm BKo.out 1;have hfo_2:=δm BKo.out 2;have hfo_3:=δm BKo.out 3;have hfo_4:=δm BKo.out 4;have hfo_5:=δm BKo.out 5))
   go_ret2
   exact ⟨_,rfl,⟨Or.inl ⟨rfl,rfl⟩⟩,(by repeat (first|exact HB27.out|apply δk|apply δj|apply δi))⟩
 | false =>
  rw [if_neg (by decide)] at h
  have HH:=ζa h
  clear h
  have h:=HH.out
  clear HH
  simp only [Option.some.injEq,Prod.mk.injEq] at h
  obtain ⟨rfl,rfl⟩:=h
  go_wp2
  go_ret2
  exact ⟨_,rfl,⟨Or.inl ⟨rfl,rfl⟩⟩,(by repeat (exact HB1.out))⟩


open Go.Proofs.YtjhhehjjnfnigaaGreatDoorW.PrintWords renaming gate_dst → δx, below_step → δr
set_option maxHeartbeats 8000000
set_option maxRecDepth 100000


/-! ### spec_TakeOrder: function 5 -/
def spec_TakeOrder.f (k:Nat) (name:ByteArray) (list:List S37) (data:ByteArray):Option (List S37 × Bool × Int) :=
 if (65536:Int)<(name.size:Int) then (some (([]:List S37),φ,2)) else (if (4096:Int)<(list.length:Int) then (some (([]:List S37),φ,2)) else (if (65536:Int)<(data.size:Int) then (some (([]:List S37),φ,2)) else ((spec_l08Code.f k name list).bind fun q1=>if q1=0 then ((spec_l09Take.f k name list data).bind fun q2=>if q2.1.length≤1000000 then (some (q2.1,q2.2,0)) else (none)) else (some (([]:List S37),φ,q1)))))
theorem spec_TakeOrder.calls (k:Nat) (name:ByteArray) (A_list:Option Addr) (c_list:Nat) (list:List S37) (data:ByteArray) (r1:List S37) (r2:Bool) (r3:Int) (w:World) (hr0_list:Kd.C k37 w A_list list.length list) (hc0_list:list.length≤c_list) (h:spec_TakeOrder.f k name list data=some (r1,r2,r3)) :
  Calls Tryz.prog 5 #[.string name,.slice A_list list.length c_list,.string data] w fun e w' => ∃ v0_:Value,e = .returned (.tuple #[v0_,.bool r2,.int .i64 r3])∧Kd.R k37 37 w' w.heap.size (fun _=>True) v0_ r1∧Below w.heap.size w w':=by
 have HR0_list:=ζa hr0_list
 have HC0_list:=ζa hc0_list
 clear hr0_list hc0_list
 have HB0:=ζa (Below.refl w.heap.size w)
 unfold spec_TakeOrder.f at h
 have HH:=ζa h
 clear h
 go_enter Tryz.func5,Tryz.ntmps5
 have h:=HH.out
 clear HH
 by_cases cc1:(65536:Int)<(name.size:Int)
 ·
  rw [if_pos cc1] at h
  have HH:=ζa h
  clear h
  have f1a:decide ((65536:Int)<(name.size:Int))=τ:=decide_eq_true cc1
  have f1b:decide (65536<name.size)=τ:=decide_eq_true (by omega)
  have C1:=ζa cc1
  clear cc1
  have h:=HH.out
  clear HH
  simp only [Option.some.injEq,Prod.mk.injEq] at h
  obtain ⟨rfl,rfl,rfl⟩:=h
  go_wp2_with (((with_reducible refine δx (N:=20) rfl ?_);refine Kd.R_lit k37 w.heap.size 37 ?hg (N:=20) ?hd (w0:=w) (xs:=([]:List S37)) (inner:=[]) (ok:=fun _=>True) (okp:=fun _=>True) ?hr ?hp (fun _ hk=>hk) trivial (by repeat (exact Below.refl _ _)) (Below.size (show Below w.heap.size w _ from by repeat (exact Below.refl _ _))) (by simp) ?_;(case hd=>rfl);(case hg=>rfl);(case hr=>(go_simp;done));(case hp=>exact (Reps.none _ _));intro vL wL hoL hbL hg_ hnew_;clear hg_ hnew_;have HOL:=ζa hoL;have HBL:=ζa hbL;clear hoL hbL))
  have HBF:=ζa (δr HB0.out HBL.out)
  go_ret3
  exact ⟨_,rfl,(by have:=Kd.R_lower HOL.out HB0.out.size;repeat (exact this)),(by repeat (exact HBF.out))⟩
 ·
  rw [if_neg cc1] at h
  have HH:=ζa h
  clear h
  have f1a:decide ((65536:Int)<(name.size:Int))=φ:=decide_eq_false cc1
  have f1b:decide (65536<name.size)=φ:=decide_eq_false (by omega)
  have C1:=ζa cc1
  clear cc1
  have h:=HH.out
  clear HH
  by_cases cc2:(4096:Int)<(list.length:Int)
  ·
   rw [if_pos cc2] at h
   have HH:=ζa h
   clear h
   have f2a:decide ((4096:Int)<(list.length:Int))=τ:=decide_eq_true cc2
   have f2b:decide (4096<list.length)=τ:=decide_eq_true (by omega)
   have C2:=ζa cc2
   clear cc2
   have h:=HH.out
   clear HH
   simp only [Option.some.injEq,Prod.mk.injEq] at h
   obtain ⟨rfl,rfl,rfl⟩:=h
   go_wp2_with (((with_reducible refine δx (N:=20) rfl ?_);refine Kd.R_lit k37 w.heap.size 37 ?hg (N:=20) ?hd (w0:=w) (xs:=([]:List S37)) (inner:=[]) (ok:=fun _=>True) (okp:=fun _=>True) ?hr ?hp (fun _ hk=>hk) trivial (by repeat (exact Below.refl _ _)) (Below.size (show Below w.heap.size w _ from by repeat (exact Below.refl _ _))) (by simp) ?_;(case hd=>rfl);(case hg=>rfl);(case hr=>(go_simp;done));(case hp=>exact (Reps.none _ _));intro vL wL hoL hbL hg_ hnew_;clear hg_ hnew_;have HOL:=ζa hoL;have HBL:=ζa hbL;clear hoL hbL))
   have HBF:=ζa (δr HB0.out HBL.out)
   go_ret3
   exact ⟨_,rfl,(by have:=Kd.R_lower HOL.out HB0.out.size;repeat (exact this)),(by repeat (exact HBF.out))⟩
  ·
   rw [if_neg cc2] at h
   have HH:=ζa h
   clear h
   have f2a:decide ((4096:Int)<(list.length:Int))=φ:=decide_eq_false cc2
   have f2b:decide (4096<list.length)=φ:=decide_eq_false (by omega)
   have C2:=ζa cc2
   clear cc2
   have h:=HH.out
   clear HH
   by_cases cc3:(65536:Int)<(data.size:Int)
   ·
    rw [if_pos cc3] at h
    have HH:=ζa h
    clear h
    have f3a:decide ((65536:Int)<(data.size:Int))=τ:=decide_eq_true cc3
    have f3b:decide (65536<data.size)=τ:=decide_eq_true (by omega)
    have C3:=ζa cc3
    clear cc3
    have h:=HH.out
    clear HH
    simp only [Option.some.injEq,Prod.mk.injEq] at h
    obtain ⟨rfl,rfl,rfl⟩:=h
    go_wp2_with (((with_reducible refine δx (N:=24) rfl ?_);refine Kd.R_lit k37 w.heap.size 37 ?hg (N:=24) ?hd (w0:=w) (xs:=([]:List S37)) (inner:=[]) (ok:=fun _=>True) (okp:=fun _=>True) ?hr ?hp (fun _ hk=>hk) trivial (by repeat (exact Below.refl _ _)) (Below.size (show Below w.heap.size w _ from by repeat (exact Below.refl _ _))) (by simp) ?_;(case hd=>rfl);(case hg=>rfl);(case hr=>(go_simp;done));(case hp=>exact (Reps.none _ _));intro vL wL hoL hbL hg_ hnew_;clear hg_ hnew_;have HOL:=ζa hoL;have HBL:=ζa hbL;clear hoL hbL))
    have HBF:=ζa (δr HB0.out HBL.out)
    go_ret3
    exact ⟨_,rfl,(by have:=Kd.R_lower HOL.out HB0.out.size;repeat (exact this)),(by repeat (exact HBF.out))⟩
   ·
    rw [if_neg cc3] at h
    have HH:=ζa h
    clear h
    have f3a:decide ((65536:Int)<(data.size:Int))=φ:=decide_eq_false cc3
    have f3b:decide (65536<data.size)=φ:=decide_eq_false (by omega)
    have C3:=ζa cc3
    clear cc3
    have h:=HH.out
    clear HH
    obtain ⟨c8,h4_,h⟩:=Option.bind_eq_some_iff.mp h
    have HH:=ζa h
    have H4:=ζa h4_
    clear h h4_
    go_wp2_with fail
    refine (spec_l08Code.calls k name A_list c_list list c8 _ (by repeat (exact Kd.C_below HR0_list.out HB0.out)) HC0_list.out H4.out).mono ?_
    rintro e w4 ⟨rfl,hb⟩
    have m_:=ζa (δr (by repeat (exact HB0.out)) hb)
    clear hb
    have HB4:=m_
    clear m_
    have h:=HH.out
    clear HH
    by_cases cc5:c8=0
    ·
     rw [if_pos cc5] at h
     have HH:=ζa h
     clear h
     have f5a:(c8 == 0)=τ:=beq_iff_eq.mpr cc5
     have f5b:(c8 != 0)=φ:=bne_eq_false_iff_eq.mpr cc5
     have C5:=ζa cc5
     clear cc5
     have h:=HH.out
     clear HH
     obtain ⟨⟨o9,x1_⟩,h6_,h⟩:=Option.bind_eq_some_iff.mp h
     have HH:=ζa h
     have H6:=ζa h6_
     clear h h6_
     go_wp2_with fail
     refine (spec_l09Take.calls k name A_list c_list list data o9 x1_ _ (by repeat (exact Kd.C_below HR0_list.out HB4.out)) HC0_list.out H6.out).mono ?_
     rintro e w6 ⟨v6,rfl,ho,hb⟩
     have hsf:=Sf.trans (by exact ⟨Or.inl ⟨rfl,rfl⟩⟩) ho hb (Below.size (show Below w.heap.size w _ from by repeat (exact HB4.out)))
     obtain ⟨adr6,cap6,rfl,hl6,hq6⟩:=Sf.reads ho (Kd.C_below HR0_list.out (δr (by repeat (exact HB4.out)) hb)) HC0_list.out
     have HC6:=ζa hl6
     have HRn6:=ζa hq6
     have HS6:=ζa hsf
     clear hl6 hq6 ho hsf
     have m_:=ζa (δr (by repeat (exact HB4.out)) hb)
     clear hb
     have HB6:=m_
     clear m_
     have h:=HH.out
     clear HH
     by_cases cc7:o9.length≤1000000
     ·
      rw [if_pos cc7] at h
      have HH:=ζa h
      clear h
      have f7a:decide (o9.length≤1000000)=τ:=decide_eq_true cc7
      have C7:=ζa cc7
      clear cc7
      have h:=HH.out
      clear HH
      simp only [Option.some.injEq,Prod.mk.injEq] at h
      obtain ⟨rfl,rfl,rfl⟩:=h
      go_wp2_with (first|((with_reducible refine δx (N:=39) rfl ?_);refine Kd.R_lit k37 w6.heap.size 37 ?hg (N:=39) ?hd (w0:=w6) (xs:=([]:List S37)) (inner:=[]) (ok:=fun _=>True) (okp:=fun _=>True) ?hr ?hp (fun _ hk=>hk) trivial (by repeat (exact Below.refl _ _)) (Below.size (show Below w6.heap.size w6 _ from by repeat (exact Below.refl _ _))) (by simp) ?_;(case hd=>rfl);(case hg=>rfl);(case hr=>(go_simp;done));(case hp=>exact (Reps.none _ _));intro vL wL hoL hbL hg_ hnew_;clear hg_ hnew_;have HOL:=ζa hoL;have HBL:=ζa hbL;clear hoL hbL)|((with_reducible refine δx (N:=41) rfl ?_);refine Kd.R_append_rows (w0:=w6) (Rr:=k37.K wL) k37 w6.heap.size ?hg (.tmp 39) (.tmp 40) 24 37 (.agg #[(.string ⟨#[]⟩),(.string ⟨#[]⟩)]) 32 rfl Tryz.underlying24 info37 rfl (by decide) (by decide) vL [] o9 adr6 _ cap6 (fun _=>True) (fun _=>False) rfl rfl HOL.out (Kd.C_below HRn6.out HBL.out) (fun x cs h=>by rw [k37_open h];exact k37_mkM _ _ _ x) (fun _ h=>h.elim) (fun _ _=>trivial) HBL.out HBL.out.size (by have:=C7.out;simp only [List.length_nil];omega) ?_;(case hg=>rfl);intro vM wM hoM hbM hg_ hnew_;clear hg_ hnew_;have HOM:=ζa hoM;have HBM:=ζa hbM;clear hoM hbM))
      have HBF:=ζa (δr HB6.out HBM.out)
      go_ret3
      exact ⟨_,rfl,(by have:=Kd.R_lower HOM.out HB6.out.size;repeat (exact this)),(by repeat (exact HBF.out))⟩
     ·
      rw [if_neg cc7] at h
      have HH:=ζa h
      clear h
      have f7a:decide (o9.length≤1000000)=φ:=decide_eq_false cc7
      have C7:=ζa cc7
      clear cc7
      exact absurd HH.out (by simp)
    ·
     rw [if_neg cc5] at h
     have HH:=ζa h
     clear h
     have f5a:(c8 == 0)=φ:=beq_eq_false_iff_ne.mpr cc5
     have f5b:(c8 != 0)=τ:=bne_iff_ne.mpr cc5
     have C5:=ζa cc5
     clear cc5
     have h:=HH.out
     clear HH
     simp only [Option.some.injEq,Prod.mk.injEq] at h
     obtain ⟨rfl,rfl,rfl⟩:=h
     go_wp2_with (((with_reducible refine δx (N:=30) rfl ?_);refine Kd.R_lit k37 w4.heap.size 37 ?hg (N:=30) ?hd (w0:=w4) (xs:=([]:List S37)) (inner:=[]) (ok:=fun _=>True) (okp:=fun _=>True) ?hr ?hp (fun _ hk=>hk) trivial (by repeat (exact Below.refl _ _)) (Below.size (show Below w4.heap.size w4 _ from by repeat (exact Below.refl _ _))) (by simp) ?_;(case hd=>rfl);(case hg=>rfl);(case hr=>(go_simp;done));(case hp=>exact (Reps.none _ _));intro vL wL hoL hbL hg_ hnew_;clear hg_ hnew_;have HOL:=ζa hoL;have HBL:=ζa hbL;clear hoL hbL))
     have HBF:=ζa (δr HB4.out HBL.out)
     go_ret3
     exact ⟨_,rfl,(by have:=Kd.R_lower HOL.out HB4.out.size;repeat (exact this)),(by repeat (exact HBF.out))⟩


open Go.Proofs.YtjhhehjjnfnigaaGreatDoorW.PrintWords renaming gate_dst → δx, below_step → δr, blk_cell → δl, blk_frozen → δm, blk_put → δw, below_set → δq
set_option maxHeartbeats 8000000
set_option maxRecDepth 100000

/-! ### laws_toPair: function 14 -/
def laws_toPair.f (a0_0:ByteArray) (a0_1:ByteArray):Option (ByteArray × ByteArray):=some (a0_0,a0_1)
theorem laws_toPair.calls (a0_0:ByteArray) (a0_1:ByteArray) (r1:ByteArray) (r2:ByteArray) (w:World) (h:laws_toPair.f a0_0 a0_1=some (r1,r2)) :
  Calls Tryz.prog 14 #[.agg #[.string a0_0,.string a0_1]] w fun e w'=>e = .returned (.agg #[.string r1,.string r2])∧Below w.heap.size w w':=by
 have hu33:=Tryz.underlying33
 have hu37:=Tryz.underlying37
 have HB:=ζa (Below.refl w.heap.size w)
 have H:(some (a0_0,a0_1))=some (r1,r2):=h
 clear h
 simp only [Option.some.injEq,Prod.mk.injEq] at H
 obtain ⟨rfl,rfl⟩:=H
 go_enter Tryz.func14,Tryz.ntmps14
 go_wp2_with (first|((with_reducible refine δx (N:=1) rfl ?_);refine bev 1 #[.string a0_0,.string a0_1] 33 ?_;intro gb217 hg w2 hbox hb;have BK217:=ζa (hbox);have GW217:=ζa (gbw hg (by exact HB.out));have GE217:=ζa (gbw hg (by exact HB.out));replace HB:=ζa (δr (by exact HB.out) hb);clear hb hbox hg)|((with_reducible refine δx (N:=2) rfl ?_);refine bev 2 #[.string (⟨#[]⟩:ByteArray),.string (⟨#[]⟩:ByteArray)] 37 ?_;intro gb218 hg w3 hbox hb;have BK218:=ζa (hbox);have GW218:=ζa (gbw hg (by exact HB.out));have GE218:=ζa (gbw hg (by exact HB.out));replace HB:=ζa (δr (by exact HB.out) hb);have NB217_218:=ζa ((by rw [hg];exact Nat.ne_of_lt (blk_lt (g:=gb217) (o:=.cells #[.string a0_0,.string a0_1] 33 (0,0)) (by exact BK217.out)):gb217≠gb218));have NB218_217:=ζa ((by rw [hg];exact Nat.ne_of_gt (blk_lt (g:=gb217) (o:=.cells #[.string a0_0,.string a0_1] 33 (0,0)) (by exact BK217.out)):gb218≠gb217));replace BK217:=ζa (blk_below (g:=gb217) (o:=.cells #[.string a0_0,.string a0_1] 33 (0,0)) (by exact BK217.out) hb);clear hb hbox hg)|((with_reducible refine δx (N:=3) rfl ?_);refine bev 3 #[.string (⟨#[]⟩:ByteArray),.string (⟨#[]⟩:ByteArray)] 37 ?_;intro gb219 hg w4 hbox hb;have BK219:=ζa (hbox);have GW219:=ζa (gbw hg (by exact HB.out));have GE219:=ζa (gbw hg (by exact HB.out));replace HB:=ζa (δr (by exact HB.out) hb);have NB217_219:=ζa ((by rw [hg];exact Nat.ne_of_lt (blk_lt (g:=gb217) (o:=.cells #[.string a0_0,.string a0_1] 33 (0,0)) (by exact BK217.out)):gb217≠gb219));have NB219_217:=ζa ((by rw [hg];exact Nat.ne_of_gt (blk_lt (g:=gb217) (o:=.cells #[.string a0_0,.string a0_1] 33 (0,0)) (by exact BK217.out)):gb219≠gb217));replace BK217:=ζa (blk_below (g:=gb217) (o:=.cells #[.string a0_0,.string a0_1] 33 (0,0)) (by exact BK217.out) hb);have NB218_219:=ζa ((by rw [hg];exact Nat.ne_of_lt (blk_lt (g:=gb218) (o:=.cells #[.string (⟨#[]⟩:ByteArray),.string (⟨#[]⟩:ByteArray)] 37 (0,0)) (by exact BK218.out)):gb218≠gb219));have NB219_218:=ζa ((by rw [hg];exact Nat.ne_of_gt (blk_lt (g:=gb218) (o:=.cells #[.string (⟨#[]⟩:ByteArray),.string (⟨#[]⟩:ByteArray)] 37 (0,0)) (by exact BK218.out)):gb219≠gb218));replace BK218:=ζa (blk_below (g:=gb218) (o:=.cells #[.string (⟨#[]⟩:ByteArray),.string (⟨#[]⟩:ByteArray)] 37 (0,0)) (by exact BK218.out) hb);clear hb hbox hg;have hnb5:=NB217_218.out;have hnc5:=NB218_217.out;have hnb6:=NB217_219.out;have hnc6:=NB219_217.out;have hcz7_0:w4.cell? ⟨gb217,0,none⟩=some (.string a0_0):=(δl BK217.out 0).trans rfl;have hcz7_1:w4.cell? ⟨gb217,1,none⟩=some (.string a0_1):=(δl BK217.out 1).trans rfl;have hfz7_0:=δm BK217.out 0;have hfz7_1:=δm BK217.out 1;have hnb8:=NB219_218.out;have hnc8:=NB218_219.out;have hcz9_0:w4.cell? ⟨gb219,0,none⟩=some (.string (⟨#[]⟩:ByteArray)):=(δl BK219.out 0).trans rfl;have hcz9_1:w4.cell? ⟨gb219,1,none⟩=some (.string (⟨#[]⟩:ByteArray)):=(δl BK219.out 1).trans rfl;have hfz9_0:=δm BK219.out 0;have hfz9_1:=δm BK219.out 1;have hcz10_0:w4.cell? ⟨gb218,0,none⟩=some (.string (⟨#[]⟩:ByteArray)):=(δl BK218.out 0).trans rfl;have hcz10_1:w4.cell? ⟨gb218,1,none⟩=some (.string (⟨#[]⟩:ByteArray)):=(δl BK218.out 1).trans rfl;have hfz10_0:=δm BK218.out 0;have hfz10_1:=δm BK218.out 1))
 refine bodyPost_ret (results_cell_row rfl _ _ gb218 37 #[.string a0_0,.string a0_1] (0,0) _ rfl (by refine δw (cs:=#[.string a0_0,.string (⟨#[]⟩:ByteArray)]) ?_ 1 _ rfl;refine δw (cs:=#[.string (⟨#[]⟩:ByteArray),.string (⟨#[]⟩:ByteArray)]) ?_ 0 _ rfl;refine blk_far ?_ NB218_219.out _;refine blk_far ?_ NB218_219.out _;exact BK218.out) Tryz.underlying37 rfl (by kernel_rfl)) rfl ?_
 exact ⟨by rfl,by repeat ((with_reducible first|exact HB.out|refine δq ?_ GE218.out|refine δq ?_ GE219.out))⟩


open Go.Proofs.YtjhhehjjnfnigaaGreatDoorW.PrintWords renaming gate_dst → δx, below_size → δs, below_step → δr, gate_callee → δv, below_set → δq
open Bool renaming false → φ
set_option maxHeartbeats 8000000
set_option maxRecDepth 100000

/-! ### laws_toPairS: function 6 -/
def laws_toPairS.l0:Nat→List (S33)→List (S37)→Int→Option ((List (S37)))
 | 0,_,_,_=>none
 | k+1,x0,x3,x4=>if x4<(x0.length:Int) then (if 0≤x4 then ((laws_toPair.f ((rd_T33 x0 x4).f0) ((rd_T33 x0 x4).f1)).bind fun bt224=>(if x4<(x3.length:Int) then (laws_toPairS.l0 k x0 (x3.set (x4:Int).toNat (⟨bt224.1,bt224.2⟩:S37)) (ζm (x4+1))) else (none))) else (none)) else (some x3)
def laws_toPairS.f (k:Nat) (l0:List (S33)):Option ((List (S37))):=if 0≤(l0.length:Int) then (if ((l0.length:Int):Int).toNat≤8796093022208 then (laws_toPairS.l0 k l0 (List.replicate ((l0.length:Int):Int).toNat z37) 0) else (none)) else (none)
theorem laws_toPairS.calls (k:Nat) (A0:Option Addr) (c0:Nat) (l0:List (S33)) (r:List (S37)) (w:World) (hr0:Kd.C k33 w A0 l0.length l0) (hc0:l0.length≤c0) (h:laws_toPairS.f k l0=some r) :
  Calls Tryz.prog 6 #[.slice A0 l0.length c0] w fun e w' => ∃ v0_:Value,e = .returned (v0_)∧Kd.R k37 37 w' w.heap.size (fun _=>True) v0_ r∧Below w.heap.size w w':=by
 have hu33:=Tryz.underlying33
 have hu37:=Tryz.underlying37
 have HR0:=ζa hr0
 have HC0:=ζa hc0
 clear hr0 hc0
 have HB:=ζa (Below.refl w.heap.size w)
 have H:(if 0≤(l0.length:Int) then (if ((l0.length:Int):Int).toNat≤8796093022208 then (laws_toPairS.l0 k l0 (List.replicate ((l0.length:Int):Int).toNat z37) 0) else (none)) else (none))=some r:=h
 clear h
 by_cases c2:0≤(l0.length:Int)
 ·
  rw [if_pos c2] at H
  have c2b0:=eq_true c2
  have c2b1:=decide_eq_true c2
  clear c2
  by_cases c3:((l0.length:Int):Int).toNat≤8796093022208
  ·
   rw [if_pos c3] at H
   have c3b0:=eq_true c3
   have c3b1:=decide_eq_true c3
   clear c3
   obtain ⟨y220,hy220⟩ : ∃ y_:List (S37),y_=(List.replicate ((l0.length:Int):Int).toNat z37):=⟨_,rfl⟩
   replace H:(laws_toPairS.l0 k l0 y220 0)=some r:=by (rw [hy220];with_reducible exact H)
   have Ny220:=ζa hy220
   clear hy220
   have H':=ζa H
   clear H
   go_enter Tryz.func6,Tryz.ntmps6
   go_wp2_with (((with_reducible refine δx (N:=7) rfl ?_);refine Kd.R_make k37 _ 37 rfl (N:=7) rfl 24 _ _ rfl (l0.length:Int) rfl rfl Tryz.underlying24 (.agg #[(.string ⟨#[]⟩),(.string ⟨#[]⟩)]) 32 info37 rfl (by decide) (by omega) z37 (ok:=fun _=>True) (okp:=fun _=>True) (k37_mkM _ _ _ z37 ) (fun _ hk=>hk) trivial (of_decide_eq_true (by (with_reducible assumption))) (Nat.le_trans (Nat.mul_le_mul_right _ (of_decide_eq_true (by (with_reducible assumption)):(l0.length:Int).toNat≤8796093022208)) (by omega)) (Below.refl _ _) (Nat.le_refl _) ?_;intro v221 w4 ho5 hb hg_ hnew_;clear hg_ hnew_;(rw [← Ny220.out] at ho5);have HO222:=ζa (Kd.R_lower ho5 (δs (by exact HB.out)));replace HB:=ζa (δr (by exact HB.out) hb);clear hb ho5))
   go_loopg [4] k (fun kq v4 w' => ∃ (x3_1:List (S37)) (x4_1:Int),v4 = .int .i64 x4_1∧Aside0 (laws_toPairS.l0 kq l0 x3_1 x4_1=some r)∧Aside0 (kq≤k)∧Aside0 (Kd.R k37 37 w' w.heap.size (fun _=>True) v221 x3_1)∧Aside0 (Below w.heap.size w w'))
   case atStart=>exact ⟨(y220),(0),(by rfl),H',⟨Nat.le_refl _⟩,⟨by exact HO222.out⟩,⟨by repeat ((with_reducible exact HB.out))⟩⟩
   case round =>
    clear H'
    try clear c2
    try clear c2b0
    try clear c2b1
    try clear p2
    try clear c3
    try clear c3b0
    try clear c3b1
    obtain ⟨x3_1,x4_1,rfl,HA,HK1,HO_3,HB⟩:=hrel
    cases gk with
    | zero=>exact absurd HA.out (by simp [laws_toPairS.l0])
    | succ k1 =>
     have H:=HA.out
     clear HA
     simp only [laws_toPairS.l0] at H
     by_cases c6:x4_1<(l0.length:Int)
     ·
      rw [if_pos c6] at H
      have c6b0:=decide_eq_true c6
      clear c6
      by_cases c7:0≤x4_1
      ·
       rw [if_pos c7] at H
       have c7b0:=decide_eq_true c7
       clear c7
       obtain ⟨⟨t224,t225⟩,A8,H⟩:=bsm H
       dsimp only at H
       by_cases c9:x4_1<(x3_1.length:Int)
       ·
        rw [if_pos c9] at H
        have c9b0:=decide_eq_true c9
        clear c9
        obtain ⟨y226,hy226⟩ : ∃ y_:List (S37),y_=(x3_1.set (x4_1:Int).toNat (⟨t224,t225⟩:S37)):=⟨_,rfl⟩
        replace H:(laws_toPairS.l0 k1 l0 y226 (ζm (x4_1+1)))=some r:=by (rw [hy226];with_reducible exact H)
        have Ny226:=ζa hy226
        clear hy226
        have H':=ζa H
        clear H
        have p223:0≤(x4_1:Int):=of_decide_eq_true (by (with_reducible assumption))
        have q223:x4_1<(l0.length:Int):=of_decide_eq_true (by (with_reducible assumption))
        obtain ⟨ad223,e223,hx223_0,hx223_1⟩:=at_T33 HR0.out x4_1 p223 q223
        cases e223
        replace hx223_0:=(HB.out.cell (World.block_lt_of_cell? w _ hx223_0)).trans hx223_0
        replace hx223_1:=(HB.out.cell (World.block_lt_of_cell? w _ hx223_1)).trans hx223_1
        replace p223:=eq_true p223
        replace q223:=eq_true q223
        go_wp2_with (first|((with_reducible refine δv (f:=14) rfl ?_);refine gl 20 Tryz.func14 #[.agg #[.string ((rd_T33 l0 x4_1).f0),.string ((rd_T33 l0 x4_1).f1)]] ?_;(with_reducible refine (laws_toPair.calls ((rd_T33 l0 x4_1).f0) ((rd_T33 l0 x4_1).f1) t224 t225 _ A8.out).mono ?_);rintro e w11 ⟨rfl,hb⟩;refine ⟨_,rfl,?_⟩;replace HO_3:=ζa (ζh (by exact HO_3.out) hb);replace HB:=ζa (δr (by exact HB.out) hb);(try clear hb);(try clear hb2);(try clear hk);(try clear hi);have p10:0≤(x4_1:Int):=of_decide_eq_true (by (with_reducible assumption));have q10:(x4_1:Int)<((x3_1.length:Int):Int):=of_decide_eq_true (by (with_reducible assumption));obtain ⟨go10,co10,eo10,gb10,gl10,cl10,HG10⟩:=Kd.R_form HO_3.out (by omega);(cases eo10);have GB10:=ζa gb10;have GG10:=ζa HG10;clear gb10 gl10 HG10;obtain ⟨ce10,hcl10,hM10,hcc10,hfr10⟩:=Kd.R_elem HO_3.out z37 (x4_1:Int) p10 q10;obtain rfl:=k37_openM hM10;have hx10_0:w11.cell? ⟨go10,(x4_1:Int).toNat * 2,none⟩=some (.string ((rd_T37 x3_1 x4_1).f0)):=hcc10 0 _ rfl;have hx10_1:w11.cell? ⟨go10,(x4_1:Int).toNat * 2+1,none⟩=some (.string ((rd_T37 x3_1 x4_1).f1)):=hcc10 1 _ rfl;have hf10_0:w11.frozen? ⟨go10,(x4_1:Int).toNat * 2,none⟩=φ:=hfr10 0;have hf10_1:w11.frozen? ⟨go10,(x4_1:Int).toNat * 2+1,none⟩=φ:=hfr10 1;clear hcl10 hcc10 hfr10 hM10;replace p10:=eq_true p10;replace q10:=eq_true q10;have HX12:=ζa (show Kd.R k37 37 w11 w.heap.size (fun _=>True) (.slice (some ⟨go10,0,none⟩) x3_1.length co10) x3_1 from (by exact HO_3.out));obtain ⟨ce12,hcl12,hM12,hcc12,hfr12⟩:=Kd.R_elem HX12.out z37 (x4_1:Int) (of_decide_eq_true (by (with_reducible assumption))) (by have h_:(x4_1:Int)<((x3_1.length:Int):Int):=of_decide_eq_true (by (with_reducible assumption));exact h_);obtain rfl:=k37_openM hM12;have HP12:=Kd.R_seg HX12.out (x4_1:Int) (of_decide_eq_true (by (with_reducible assumption))) (by have h_:(x4_1:Int)<((x3_1.length:Int):Int):=of_decide_eq_true (by (with_reducible assumption));exact h_) (seg:=[.string t224,.string t225]) (j:=0) hcl12 hcc12 (show 2≤2 from by decide) (x':=(⟨t224,t225⟩:S37)) (k37_mkM _ _ _ (⟨t224,t225⟩:S37) ) (fun _ hk=>hk);have hx12_0:=hcc12 0 _ rfl;(try simp only [show (k37).sz=2 from rfl,Nat.mul_one,Nat.add_zero] at hx12_0);have hf12_0:=hfr12 0;(try simp only [show (k37).sz=2 from rfl,Nat.mul_one,Nat.add_zero] at hf12_0);have hx12_1:=hcc12 1 _ rfl;(try simp only [show (k37).sz=2 from rfl,Nat.mul_one,Nat.add_zero] at hx12_1);have hf12_1:=hfr12 1;(try simp only [show (k37).sz=2 from rfl,Nat.mul_one,Nat.add_zero] at hf12_1);clear hcl12 hcc12 hfr12 hM12)|((with_reducible refine gate_store (t:=37) (p:=21) rfl ?_);refine store_event (t:=37) (p:=21) (v:=?vo_w13) (w1:=((w11.setCell ⟨go10,(x4_1:Int).toNat * 2,none⟩ (.string t224)).setCell ⟨go10,(x4_1:Int).toNat * 2+1,none⟩ (.string t225))) ?hg ?ho ?hn ?hr ?_;(case ho=>rfl);(case hg=>rfl);(case hn=>rfl);(case hr=>(go_simp;done));intro w13 hw;have hg:w11.grownBy w13 (some go10):=(by rw [hw];exact HP12.2);have hp_:Kd.R k37 37 w13 w.heap.size (fun _=>True) (.slice (some ⟨go10,0,none⟩) x3_1.length co10) y226:=(by rw [hw,Ny226.out];exact HP12.1);clear HP12;replace HO_3:=ζa (hp_);replace HB:=ζa ((by rw [hw];exact δq (δq (HB.out) GB10.out) GB10.out:Below w.heap.size w w13));clear hg hw hp_))
        go_roundg k1
        case measure=>have:=HK1.out;omega
        case rel=>exact ⟨(y226),(ζm (x4_1+1)),(by rfl),H',⟨by have:=HK1.out;omega⟩,⟨by exact HO_3.out⟩,⟨by repeat ((with_reducible exact HB.out))⟩⟩
       ·
        rw [if_neg c9] at H
        exact absurd H (by simp)
      ·
       rw [if_neg c7] at H
       exact absurd H (by simp)
     ·
      rw [if_neg c6] at H
      have c6b0:=decide_eq_false c6
      clear c6
      obtain rfl:=Option.some.inj H
      go_wp2
      go_ret
      exact ⟨_,by rfl,by exact HO_3.out,by repeat ((with_reducible exact HB.out))⟩
  ·
   rw [if_neg c3] at H
   exact absurd H (by simp)
 ·
  rw [if_neg c2] at H
  exact absurd H (by simp)




/-! ### strconv_Itoa: function 103 -/
/-- The table of powers of ten, and the two errors of reading, lie in memory, and go on lying there. -/
def ErrBelow (w : World) (name : String) : Prop := ∃ tp p, ∀ w', Below w.heap.size w w' → w'.var? Tryz.prog name = some #[.iface tp p]
def TabsOK (w : World) : Prop := Lib.TabBelow Tryz.prog w.heap.size w "internal/strconv.uint64pow10" .u64 Lib.pow10Tab ∧ ErrBelow w "strconv.ErrSyntax" ∧ ErrBelow w "strconv.ErrRange"
theorem ErrBelow.below {w w' : World} {name : String} (h : ErrBelow w name) (hb : Below w.heap.size w w') : ErrBelow w' name := by
  obtain ⟨tp, p, h⟩ := h
  exact ⟨tp, p, fun w2 hb2 => h w2 (below_step hb hb2)⟩
theorem ErrBelow.of_var {w : World} {name : String} {tp : TypeId} {p : Value} (h : w.var? Tryz.prog name = some #[.iface tp p]) : ErrBelow w name := ⟨tp, p, fun w' hb => by
  unfold World.var? at *
  cases hg : Tryz.prog.globalNamed name with
  | none => simp [hg] at h
  | some g =>
    simp only [hg, Option.bind_some] at h ⊢
    have hlt : g < w.heap.size := by
      rcases Nat.lt_or_ge g w.heap.size with h' | h'
      · exact h'
      · rw [Array.getElem?_eq_none h'] at h; simp at h
    rw [hb.block g hlt]
    exact h⟩
theorem TabsOK.below {w w' : World} (h : TabsOK w) (hb : Below w.heap.size w w') : TabsOK w' := ⟨fun w2 hb2 => h.1 w2 (below_step hb hb2), h.2.1.below hb, h.2.2.below hb⟩
def strconv_Itoa.f (a0 : Int) : Option ByteArray := if -9223372036854775808 ≤ a0 then (if a0 ≤ 9223372036854775807 then some ⟨(Lib.itoa a0).toArray⟩ else none) else none
theorem strconv_Itoa.calls (a0 : Int) (r : ByteArray) (w : World) (hT0 : TabsOK w) (h : strconv_Itoa.f a0 = some r) :
    Calls Tryz.prog 103 #[.int .i64 a0] w fun e w' => e = .returned (.string r) ∧ Below w.heap.size w w' := by
  unfold strconv_Itoa.f at h
  by_cases h1 : -9223372036854775808 ≤ a0
  · rw [if_pos h1] at h
    by_cases h2 : a0 ≤ 9223372036854775807
    · rw [if_pos h2] at h
      obtain rfl := Option.some.inj h
      refine (Tryz.strconv_Itoa a0 h1 h2 w hT0.1.here).mono ?_
      rintro e w' ⟨rfl, k, os, rfl⟩
      exact ⟨rfl, Lib.below_grow w.heap.size w (Nat.le_refl _) k os⟩
    · rw [if_neg h2] at h; cases h
  · rw [if_neg h1] at h; cases h

end Go.Proofs.YtjhhehjjnfnigaaGreatDoor.Q
