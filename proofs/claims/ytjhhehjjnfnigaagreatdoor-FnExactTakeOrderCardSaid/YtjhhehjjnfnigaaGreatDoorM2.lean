/- Parts of the proof: what single Go functions compute, each with its walk, and plain laws over these. -/
import Derived.Test.YtjhhehjjnfnigaaGreatDoorVMac
import Derived.Test.YtjhhehjjnfnigaaGreatDoorM0
import Derived.Test.YtjhhehjjnfnigaaGreatDoorM1
namespace Go.Proofs.YtjhhehjjnfnigaaGreatDoor.Q
open Go.RowKit Go.Proofs.YtjhhehjjnfnigaaGreatDoorW.PrintWords Go.Proofs.YtjhhehjjnfnigaaGreatDoorW.PrintLast Go.Proofs.YtjhhehjjnfnigaaGreatDoorW.PrintMore
open Go.Proofs.YtjhhehjjnfnigaaGreatDoorW.PrintWords.Aside0 renaming mk → ζa
open Bool renaming true → τ, false → φ
attribute [local go_sem] max2_int min2_int max_two min_two max_three min_three max_four min_four   -- for this text's walks alone
set_option linter.unusedVariables false
set_option linter.unusedSimpArgs false
set_option maxHeartbeats 8000000
set_option maxRecDepth 100000


/-! ### slices_IndexFunc_string_string: function 80 -/
/-- slices.IndexFunc over texts,at a plain predicate that captures nothing. -/
theorem slices_IndexFunc_string_string.at_ (g:Nat) (eg : ∀ args w,(callFunc g args).run Tryz.prog w = .ok (.enter g args) w) (p:ByteArray→Bool)
  (hp : ∀ x W,Calls Tryz.prog g #[.string x] W fun e W'=>e = .returned (.bool (p x))∧Drawn0 W W')
  (A0:Option Addr) (c0:Nat) (l0:List ByteArray) (w:World) (hr0:Kd.C Kd.string w A0 l0.length l0) :
  Calls Tryz.prog 80 #[.slice A0 l0.length c0,.func (.func g) #[] #[]] w fun e w'=>(∃ r:Int,e = .returned (.int .i64 r)∧Aside0 (decide (0≤r)=l0.any p))∧Drawn0 w w':=by
 have HR0:=ζa hr0
 have hmax:l0.length≤9223372036854775807:=hr0.2.1
 clear hr0
 go_enter Tryz.func80,Tryz.ntmps80
 go_wp2
 go_loopg [5,8] l0.length (fun gg _ s8 wr => ∃ kk:Nat,kk≤l0.length∧l0.length - kk≤gg∧s8 = .int .i64 kk∧Aside0 ((l0.take kk).any p=φ)∧Drawn0 w wr)
 case atStart=>exact ⟨0,Nat.zero_le _,by omega,rfl,⟨rfl⟩,by repeat (exact Drawn0.refl _)⟩
 case round =>
  obtain ⟨kk,hkk,hg,rfl,A,⟨m1,rfl⟩⟩:=hrel
  by_cases hlt:kk<l0.length
  ·
   have hltz:(kk:Int)<(l0.length:Int):=by omega
   have p145:0≤(kk:Int):=by omega
   obtain ⟨ad145,e145,hx145_0⟩:=Kd.at_string HR0.out kk p145 hltz
   cases e145
   rw [Int.toNat_natCast] at hx145_0
   have hT:Aside0 ((l0.take (kk+1)).any p=p (rdOf ByteArray.empty l0 kk)):=⟨by
    have hx:l0[kk]? = some (rdOf ByteArray.empty l0 kk):=by
     simp only [rdOf,Int.toNat_natCast,List.getD_eq_getElem?_getD]
     rw [List.getElem?_eq_getElem hlt];rfl
    rw [List.take_add_one,hx,List.any_append,A.out];simp⟩
   generalize rdOf ByteArray.empty l0 kk=x at *
   have hcall:=hp x
   clear hp
   cases hq:p x with
   | true =>
    rw [hq] at hcall hT
    clear hq
    go_wp2_with (go_at_fn g;refine (hcall _).mono ?_;rintro e w' ⟨rfl,⟨q',rfl⟩⟩)
    go_ret
    refine ⟨⟨_,rfl,⟨?_⟩⟩,by repeat (first|exact Drawn0.refl _|apply Drawn0.step)⟩
    have h2:l0.any p=τ:=by
     have:=hT.out
     rw [← List.take_append_drop (kk+1) l0,List.any_append,this];rfl
    rw [h2];simp
   | false =>
    rw [hq] at hcall hT
    clear hq
    go_wp2_with (go_at_fn g;refine (hcall _).mono ?_;rintro e w' ⟨rfl,⟨q',rfl⟩⟩)
    go_roundg (l0.length - (kk+1))
    case measure=>omega
    case rel=>exact ⟨kk+1,by omega,by omega,by go_num,hT,by repeat (first|exact Drawn0.refl _|apply Drawn0.step)⟩
  ·
   have hltz : ¬ (kk:Int)<(l0.length:Int):=by omega
   have hkl:Aside0 (kk=l0.length):=⟨by omega⟩
   go_wp2
   go_ret
   refine ⟨⟨_,rfl,⟨?_⟩⟩,by repeat (first|exact Drawn0.refl _|apply Drawn0.step)⟩
   have:=A.out
   rw [hkl.out,List.take_length] at this
   rw [this];rfl


set_option maxHeartbeats 8000000
set_option maxRecDepth 100000


/-! ### slices_ContainsFunc_string_string: function 51 -/
theorem slices_ContainsFunc_string_string.at_ (g:Nat) (eg : ∀ args w,(callFunc g args).run Tryz.prog w = .ok (.enter g args) w) (p:ByteArray→Bool)
  (hp : ∀ x W,Calls Tryz.prog g #[.string x] W fun e W'=>e = .returned (.bool (p x))∧Drawn0 W W')
  (A0:Option Addr) (c0:Nat) (l0:List ByteArray) (w:World) (hr0:Kd.C Kd.string w A0 l0.length l0) :
  Calls Tryz.prog 51 #[.slice A0 l0.length c0,.func (.func g) #[] #[]] w fun e w'=>e = .returned (.bool (l0.any p))∧Drawn0 w w':=by
 go_enter Tryz.func51,Tryz.ntmps51
 go_wp2_with (go_at_call 80;refine (slices_IndexFunc_string_string.at_ g eg p hp A0 c0 l0 _ hr0).mono ?_;rintro e w' ⟨⟨r,rfl,hr⟩,⟨q',rfl⟩⟩)
 go_ret
 exact ⟨by rw [← hr.out];rfl,by repeat (first|exact Drawn0.refl _|apply Drawn0.step)⟩


set_option maxHeartbeats 8000000
set_option maxRecDepth 100000


/-! ### impl_isText: function 27 -/
def impl_isText.f (l0:List ByteArray):Option Bool:=some (!(l0.any fun t=>decide ((t.size:Int) > 65536)))
theorem impl_isText.lit (a0:ByteArray) (w:World) :
  Calls Tryz.prog 52 #[.string a0] w fun e w'=>e = .returned (.bool (decide ((a0.size:Int) > 65536)))∧Drawn0 w w':=by
 go_enter Tryz.func52,Tryz.ntmps52
 go_wp2
 go_ret
 exact ⟨by rfl,by repeat (exact Drawn0.refl _)⟩
theorem impl_isText.calls (A0:Option Addr) (c0:Nat) (l0:List ByteArray) (r:Bool) (w:World) (hr0:Kd.C Kd.string w A0 l0.length l0) (hc0:l0.length≤c0) (h:impl_isText.f l0=some r) :
  Calls Tryz.prog 27 #[.slice A0 l0.length c0] w fun e w'=>e = .returned (.bool r)∧Drawn0 w w':=by
 obtain rfl:=Option.some.inj h
 go_enter Tryz.func27,Tryz.ntmps27
 go_wp2_with (go_at_call 51;refine (slices_ContainsFunc_string_string.at_ 52 (enters_of Tryz.func52 (by kernel_rfl) rfl) _ impl_isText.lit A0 c0 l0 _ hr0).mono ?_;rintro e w' ⟨rfl,⟨q',rfl⟩⟩)
 go_ret
 exact ⟨rfl,by repeat (first|exact Drawn0.refl _|apply Drawn0.step)⟩


set_option maxHeartbeats 8000000
set_option maxRecDepth 100000

/-! ### impl_isList_impl_Pair: function 28 -/
def impl_isList_impl_Pair.f (l0:List (S37)):Option (Bool):=some (decide ((l0.length:Int)≤4096))
theorem impl_isList_impl_Pair.calls (A0:Option Addr) (c0:Nat) (l0:List (S37)) (r:Bool) (w:World) (hr0:Kd.C k37 w A0 l0.length l0) (hc0:l0.length≤c0) (h:impl_isList_impl_Pair.f l0=some r) :
  Calls Tryz.prog 28 #[.slice A0 l0.length c0] w fun e w'=>e = .returned (.bool r)∧Drawn0 w w':=by
 have HR0:=ζa hr0
 have HC0:=ζa hc0
 clear hr0 hc0
 have H:(some (decide ((l0.length:Int)≤4096)))=some r:=h
 clear h
 obtain rfl:=Option.some.inj H
 go_enter Tryz.func28,Tryz.ntmps28
 go_wp2
 go_ret
 exact ⟨by rfl,by repeat (exact Drawn0.refl _)⟩


open Bool renaming true → τ
set_option maxHeartbeats 8000000
set_option maxRecDepth 100000

/-! ### impl_isChain: function 29 -/
def impl_isChain.f (a0:ByteArray):Option (Bool):=if a0.toList=([120]:List UInt8) then (some τ) else (some (a0.toList == ([121]:List UInt8)))
theorem impl_isChain.calls (a0:ByteArray) (r:Bool) (w:World) (h:impl_isChain.f a0=some r) :
  Calls Tryz.prog 29 #[.string a0] w fun e w'=>e = .returned (.bool r)∧Drawn0 w w':=by
 have H:(if a0.toList=([120]:List UInt8) then (some τ) else (some (a0.toList == ([121]:List UInt8))))=some r:=h
 clear h
 by_cases c2:a0.toList=([120]:List UInt8)
 ·
  rw [if_pos c2] at H
  have c2b0:=beq_iff_eq.mpr c2
  have c2b1:=bne_eq_false_iff_eq.mpr c2
  clear c2
  obtain rfl:=Option.some.inj H
  go_enter Tryz.func29,Tryz.ntmps29
  go_wp2
  go_ret
  exact ⟨by rfl,by repeat (exact Drawn0.refl _)⟩
 ·
  rw [if_neg c2] at H
  have c2b0:=beq_eq_false_iff_ne.mpr c2
  have c2b1:=bne_iff_ne.mpr c2
  obtain rfl:=Option.some.inj H
  go_enter Tryz.func29,Tryz.ntmps29
  go_wp2
  go_ret
  exact ⟨by rfl,by repeat (exact Drawn0.refl _)⟩


set_option maxHeartbeats 8000000
set_option maxRecDepth 100000

/-! ### impl_within: function 81 -/
def impl_within.f (a0:Int) (a1:Int) (a2:Int):Option (Bool):=if a0 ≥ a1 then (some (decide (a0≤a2))) else (some φ)
theorem impl_within.calls (a0:Int) (a1:Int) (a2:Int) (r:Bool) (w:World) (h:impl_within.f a0 a1 a2=some r) :
  Calls Tryz.prog 81 #[.int .i64 a0,.int .i64 a1,.int .i64 a2] w fun e w'=>e = .returned (.bool r)∧Drawn0 w w':=by
 have H:(if a0 ≥ a1 then (some (decide (a0≤a2))) else (some φ))=some r:=h
 clear h
 by_cases c4:a0 ≥ a1
 ·
  rw [if_pos c4] at H
  have c4b0:decide (a1≤a0)=τ:=decide_eq_true c4
  clear c4
  obtain rfl:=Option.some.inj H
  go_enter Tryz.func81,Tryz.ntmps81
  go_wp2
  go_ret
  exact ⟨by rfl,by repeat (exact Drawn0.refl _)⟩
 ·
  rw [if_neg c4] at H
  have c4b0:decide (a1≤a0)=φ:=decide_eq_false c4
  clear c4
  obtain rfl:=Option.some.inj H
  go_enter Tryz.func81,Tryz.ntmps81
  go_wp2
  go_ret
  exact ⟨by rfl,by repeat (exact Drawn0.refl _)⟩


open Go.Proofs.YtjhhehjjnfnigaaGreatDoorW.PrintWords renaming gate_callee → δv
set_option maxHeartbeats 8000000
set_option maxRecDepth 100000

/-! ### impl_isKey: function 53 -/
def impl_isKey.f (a0:ByteArray):Option (Bool):=(impl_within.f (a0.size:Int) 1 60).bind fun t227=>(some t227)
theorem impl_isKey.calls (a0:ByteArray) (r:Bool) (w:World) (h:impl_isKey.f a0=some r) :
  Calls Tryz.prog 53 #[.string a0] w fun e w'=>e = .returned (.bool r)∧Drawn0 w w':=by
 have H:((impl_within.f (a0.size:Int) 1 60).bind fun t227=>(some t227))=some r:=h
 clear h
 obtain ⟨t227,A2,H⟩:=bsm H
 obtain rfl:=Option.some.inj H
 go_enter Tryz.func53,Tryz.ntmps53
 go_wp2_with (((with_reducible refine δv (f:=81) rfl ?_);refine gl 5 Tryz.func81 #[.int .i64 (a0.size:Int),.int .i64 1,.int .i64 60] ?_;(with_reducible refine (impl_within.calls (a0.size:Int) 1 60 t227 _ A2.out).mono ?_);rintro e w' ⟨rfl,⟨nd,rfl⟩⟩;refine ⟨_,rfl,?_⟩))
 go_ret
 exact ⟨by rfl,by repeat (first|exact Drawn0.refl _|apply Drawn0.step)⟩


set_option maxHeartbeats 8000000
set_option maxRecDepth 100000

/-! ### impl_isValue: function 54 -/
def impl_isValue.f (a0:ByteArray):Option (Bool):=some (decide ((a0.size:Int)≤1000))
theorem impl_isValue.calls (a0:ByteArray) (r:Bool) (w:World) (h:impl_isValue.f a0=some r) :
  Calls Tryz.prog 54 #[.string a0] w fun e w'=>e = .returned (.bool r)∧Drawn0 w w':=by
 have H:(some (decide ((a0.size:Int)≤1000)))=some r:=h
 clear h
 obtain rfl:=Option.some.inj H
 go_enter Tryz.func54,Tryz.ntmps54
 go_wp2
 go_ret
 exact ⟨by rfl,by repeat (exact Drawn0.refl _)⟩


open Go.RowKit renaming wrap64 → ζm
open Go.Proofs.YtjhhehjjnfnigaaGreatDoorW.PrintWords renaming below_alloc → δk, pw_below_drewN → δi, below_drew1 → δj
set_option maxHeartbeats 8000000
set_option maxRecDepth 100000


/-! ### impl_StoreOK: function 30 -/
def impl_StoreOK.l0:Nat→List (S37)→List (S37)→Int→Int→Option (Bool)
 | 0,_,_,_,_=>none
 | k+1,x0,x5,x6,x7=>if x7<x6 then (if 0≤x7 then (if x7<(x5.length:Int) then ((impl_isKey.f ((rd_T37 x5 x7).f0)).bind fun t137=>(if t137=τ then ((impl_isValue.f ((rd_T37 x5 x7).f1)).bind fun t138=>(if t138=τ then (if x7 > 0 then (if 0≤(ζm (x7 - 1)) then (if (ζm (x7 - 1))<(x0.length:Int) then (if ((Op.bytesLess (((rd_T37 x0 (ζm (x7 - 1))).f0).toList) (((rd_T37 x5 x7).f0).toList))=τ) then (impl_StoreOK.l0 k x0 x5 x6 (ζm (x7+1))) else (some φ)) else (none)) else (none)) else (impl_StoreOK.l0 k x0 x5 x6 (ζm (x7+1)))) else (some φ))) else (some φ))) else (none)) else (none)) else (some (decide ((x0.length:Int)≤400)))
def impl_StoreOK.f (k:Nat) (l0:List (S37)):Option (Bool):=impl_StoreOK.l0 k l0 l0 (l0.length:Int) 0
theorem impl_StoreOK.geq (t:TypeId) (a b:ByteArray):binOp .geq t (.string a) (.string b)=pure (.bool !(Op.bytesLess a.toList b.toList)):=by simp [binOp,Op.stringOp]
attribute [local go_sem] impl_StoreOK.geq
theorem impl_StoreOK.calls (k:Nat) (A0:Option Addr) (c0:Nat) (l0:List (S37)) (r:Bool) (w:World) (hr0:Kd.C k37 w A0 l0.length l0) (hc0:l0.length≤c0) (h:impl_StoreOK.f k l0=some r) :
  Calls Tryz.prog 30 #[.slice A0 l0.length c0] w fun e w'=>e = .returned (.bool r)∧Below w.heap.size w w':=by
 have hu78:=Tryz.underlying37
 have HR0:=ζa hr0
 clear hr0 hc0
 have HB:=ζa (Below.refl w.heap.size w)
 have H':=ζa (show impl_StoreOK.l0 k l0 l0 (l0.length:Int) 0=some r from h)
 clear h
 go_enter Tryz.func30,Tryz.ntmps30
 go_wp2
 go_loopg [7] k (fun kq v7 w' => ∃ i:Int,v7 = .int .i64 i∧Aside0 (impl_StoreOK.l0 kq l0 l0 (l0.length:Int) i=some r)∧Aside0 (kq≤k)∧Aside0 (Below w.heap.size w w'))
 case atStart=>exact ⟨0,(by rfl),H',⟨Nat.le_refl _⟩,HB⟩
 case round =>
  clear H' HB
  obtain ⟨i,rfl,HA,HK1,HB⟩:=hrel
  cases gk with
  | zero=>exact absurd HA.out (by simp [impl_StoreOK.l0])
  | succ k1 =>
   have H:=HA.out
   clear HA
   simp only [impl_StoreOK.l0] at H
   by_cases c2:i<(l0.length:Int)
   ·
    rw [if_pos c2] at H
    have c2b0:=decide_eq_true c2
    by_cases c3:0≤i
    ·
     rw [if_pos c3,if_pos c2] at H
     obtain ⟨ad,e1,hx0,hx1⟩:=at_T37 HR0.out i c3 c2
     cases e1
     replace hx0:=(HB.out.cell (World.block_lt_of_cell? w _ hx0)).trans hx0
     replace hx1:=(HB.out.cell (World.block_lt_of_cell? w _ hx1)).trans hx1
     obtain ⟨b1,h1,H⟩:=Option.bind_eq_some_iff.mp H
     have A5:=ζa h1
     clear h1
     have prev:0<i → ∃ s t:ByteArray,s=(rd_T37 l0 (i - 1)).f0∧w.cell? (ad.add ((i - 1).toNat * 2))=some (.string s)∧t=s:=fun hp=>by
      obtain ⟨ad2,e2,hy0,_⟩:=at_T37 HR0.out (i - 1) (by omega) (by omega)
      obtain rfl:ad=ad2:=by injection e2
      exact ⟨_,_,rfl,hy0,rfl⟩
     have PV:=ζa prev
     clear prev
     have c3b:decide (0≤i)=τ:=decide_eq_true c3
     go_upto_region 4 with (fail)
     have hcz0:(wr.alloc (.cells #[.string (rd_T37 l0 i).f0,.string (rd_T37 l0 i).f1] 37 (0,0))).cell? ⟨wr.heap.size,0,none⟩=some (.string (rd_T37 l0 i).f0):=(World.cell?_alloc_mark wr _ 37 (0,0) 0).trans rfl
     have hcz1:(wr.alloc (.cells #[.string (rd_T37 l0 i).f0,.string (rd_T37 l0 i).f1] 37 (0,0))).cell? ⟨wr.heap.size,1,none⟩=some (.string (rd_T37 l0 i).f1):=(World.cell?_alloc_mark wr _ 37 (0,0) 1).trans rfl
     have PV2:Aside0 (0<i → ∃ s:ByteArray,s=(rd_T37 l0 (i - 1)).f0∧(wr.alloc (.cells #[.string (rd_T37 l0 i).f0,.string (rd_T37 l0 i).f1] 37 (0,0))).cell? (ad.add ((i - 1).toNat * 2))=some (.string s)):=⟨fun hp=>by
      obtain ⟨s,_,hs,hy,_⟩:=PV.out hp
      exact ⟨s,hs,((HB.out.alloc (HB.out.size) _).cell (World.block_lt_of_cell? w _ hy)).trans hy⟩⟩
     have HB2:=ζa (HB.out.alloc (HB.out.size) (.cells #[.string (rd_T37 l0 i).f0,.string (rd_T37 l0 i).f1] 37 (0,0)))
     clear HB PV hx0 hx1
     generalize wr.alloc (.cells #[.string (rd_T37 l0 i).f0,.string (rd_T37 l0 i).f1] 37 (0,0))=W4 at *
     generalize wr.heap.size=gb at *
     clear c3
     cases b1 with
     | false =>
      obtain rfl:=Option.some.inj H
      go_quiet ((go_at_call 53;(with_reducible refine (impl_isKey.calls _ _ _ A5.out).mono ?_);rintro e w' ⟨rfl,⟨nd,rfl⟩⟩;(try exact ⟨rfl,_,World.drewN_drewN _ _ _⟩)))
      go_wp2
      go_ret
      exact ⟨rfl,by repeat (first|(with_reducible first|exact HB2.out|apply δk|apply δi|apply δj)|exact HB2.out)⟩
     | true =>
      rw [if_pos rfl] at H
      obtain ⟨b2,h2,H⟩:=Option.bind_eq_some_iff.mp H
      have A6:=ζa h2
      clear h2
      cases b2 with
      | false =>
       obtain rfl:=Option.some.inj H
       go_quiet (first|(go_at_call 53;(with_reducible refine (impl_isKey.calls _ _ _ A5.out).mono ?_);rintro e w' ⟨rfl,⟨nd,rfl⟩⟩;(try exact ⟨rfl,_,World.drewN_drewN _ _ _⟩))|(go_at_call 54;(with_reducible refine (impl_isValue.calls _ _ _ A6.out).mono ?_);rintro e w' ⟨rfl,⟨nd,rfl⟩⟩;(try exact ⟨rfl,_,World.drewN_drewN _ _ _⟩)))
       go_wp2
       go_ret
       exact ⟨rfl,by repeat (first|(with_reducible first|exact HB2.out|apply δk|apply δi|apply δj)|exact HB2.out)⟩
      | true =>
       rw [if_pos rfl] at H
       have hmax:(l0.length:Int)≤9223372036854775807:=by have:=Kd.C_max HR0.out;omega
       have hmx:=ζa hmax
       clear hmax
       by_cases c4:i > 0
       ·
        have hw1:IntKind.i64.wrap (i - 1)=i - 1:=IntWalk.i64_in _ (by have:=hmx.out;omega)
        have hw2:ζm (i - 1)=i - 1:=IntWalk.wrap64_in _ (by have:=hmx.out;omega)
        rw [if_pos c4,hw2,if_pos (by omega),if_pos (by omega)] at H
        obtain ⟨s,hs,hy⟩:=PV2.out c4
        rw [← hs] at H
        have c4b0:=decide_eq_true c4
        have c4b1:decide (0<i)=τ:=decide_eq_true c4
        have c5:0≤i - 1:=by omega
        have c6:i - 1<(l0.length:Int):=by omega
        clear c4 PV2 hs c2 hw2
        obtain ⟨j,hj⟩ : ∃ j,j=i - 1:=⟨_,rfl⟩
        rw [← hj] at hy c5 c6
        replace hw1:=hw1.trans hj.symm
        clear hj
        have c5b:decide (0≤j)=τ:=decide_eq_true c5
        have c6b:decide (j<(l0.length:Int))=τ:=decide_eq_true c6
        cases hb:Op.bytesLess s.toList ((rd_T37 l0 i).f0).toList with
        | false =>
         rw [hb] at H
         obtain rfl:=Option.some.inj H
         go_quiet (first|(go_at_call 53;(with_reducible refine (impl_isKey.calls _ _ _ A5.out).mono ?_);rintro e w' ⟨rfl,⟨nd,rfl⟩⟩;(try exact ⟨rfl,_,World.drewN_drewN _ _ _⟩))|(go_at_call 54;(with_reducible refine (impl_isValue.calls _ _ _ A6.out).mono ?_);rintro e w' ⟨rfl,⟨nd,rfl⟩⟩;(try exact ⟨rfl,_,World.drewN_drewN _ _ _⟩)))
         go_wp2
         go_ret
         exact ⟨rfl,by repeat (first|(with_reducible first|exact HB2.out|apply δk|apply δi|apply δj)|exact HB2.out)⟩
        | true =>
         rw [hb,if_pos rfl] at H
         have HN:=ζa H
         clear H
         go_quiet (first|(go_at_call 53;(with_reducible refine (impl_isKey.calls _ _ _ A5.out).mono ?_);rintro e w' ⟨rfl,⟨nd,rfl⟩⟩;(try exact ⟨rfl,_,World.drewN_drewN _ _ _⟩))|(go_at_call 54;(with_reducible refine (impl_isValue.calls _ _ _ A6.out).mono ?_);rintro e w' ⟨rfl,⟨nd,rfl⟩⟩;(try exact ⟨rfl,_,World.drewN_drewN _ _ _⟩)))
         go_wp2
         go_roundg k1
         case measure=>omega
         case rel=>exact ⟨_,rfl,HN,⟨by have:=HK1.out;omega⟩,⟨by repeat ((with_reducible first|exact HB2.out|apply δi))⟩⟩
       ·
        rw [if_neg c4] at H
        have c4b0:=decide_eq_false c4
        have c4b1:decide (0<i)=φ:=decide_eq_false c4
        clear c4 c2 PV2
        have HN:=ζa H
        clear H
        go_quiet (first|(go_at_call 53;(with_reducible refine (impl_isKey.calls _ _ _ A5.out).mono ?_);rintro e w' ⟨rfl,⟨nd,rfl⟩⟩;(try exact ⟨rfl,_,World.drewN_drewN _ _ _⟩))|(go_at_call 54;(with_reducible refine (impl_isValue.calls _ _ _ A6.out).mono ?_);rintro e w' ⟨rfl,⟨nd,rfl⟩⟩;(try exact ⟨rfl,_,World.drewN_drewN _ _ _⟩)))
        go_wp2
        go_roundg k1
        case measure=>omega
        case rel=>exact ⟨_,rfl,HN,⟨by have:=HK1.out;omega⟩,⟨by repeat ((with_reducible first|exact HB2.out|apply δi))⟩⟩
    ·
     rw [if_neg c3] at H
     exact absurd H (by simp)
   ·
    rw [if_neg c2] at H
    have c2b0:=decide_eq_false c2
    clear c2
    obtain rfl:=Option.some.inj H
    go_wp2
    go_ret
    exact ⟨by rfl,HB.out⟩


open Go.Proofs.YtjhhehjjnfnigaaGreatDoorW.PrintWords renaming gate_dst → δx, below_size → δs, below_step → δr, gate_callee → δv, pw_below_drewN → δi
open Go.Proofs.YtjhhehjjnfnigaaGreatDoorW.PrintWords.Kd renaming R_reads' → ζg
set_option maxHeartbeats 8000000
set_option maxRecDepth 100000

/-! ### impl_nameCode: function 15 -/
def impl_nameCode.j0:Nat→ByteArray→List (S37)→Bool→Option (Int)
 | 0,_,_,_=>none
 | k+1,x0,x1,x7=>if x7=τ then (some 2) else ((impl_isChain.f x0).bind fun t234=>(if t234=τ then ((impl_StoreOK.f k x1).bind fun t235=>(if t235=τ then (some 0) else (some 1))) else (some 1)))
def impl_nameCode.f (k:Nat) (a0:ByteArray) (l1:List (S37)) (l2:List ByteArray):Option (Int):=(impl_isText.f (([a0]:List ByteArray))).bind fun t231=>(if t231=τ then ((impl_isList_impl_Pair.f l1).bind fun t232=>(if t232=τ then ((impl_isText.f l2).bind fun t233=>(impl_nameCode.j0 k a0 l1 (!t233))) else (impl_nameCode.j0 k a0 l1 τ))) else (impl_nameCode.j0 k a0 l1 τ))
theorem impl_nameCode.calls (k:Nat) (a0:ByteArray) (A1:Option Addr) (c1:Nat) (l1:List (S37)) (A2:Option Addr) (c2:Nat) (l2:List ByteArray) (r:Int) (w:World) (hr1:Kd.C k37 w A1 l1.length l1) (hc1:l1.length≤c1) (hr2:Kd.C Kd.string w A2 l2.length l2) (hc2:l2.length≤c2) (h:impl_nameCode.f k a0 l1 l2=some r) :
  Calls Tryz.prog 15 #[.string a0,.slice A1 l1.length c1,.slice A2 l2.length c2] w fun e w'=>e = .returned (.int .i64 r)∧Below w.heap.size w w':=by
 have HR1:=ζa hr1
 have HC1:=ζa hc1
 clear hr1 hc1
 have HR2:=ζa hr2
 have HC2:=ζa hc2
 clear hr2 hc2
 have HB:=ζa (Below.refl w.heap.size w)
 have H:((impl_isText.f (([a0]:List ByteArray))).bind fun t231=>(if t231=τ then ((impl_isList_impl_Pair.f l1).bind fun t232=>(if t232=τ then ((impl_isText.f l2).bind fun t233=>(impl_nameCode.j0 k a0 l1 (!t233))) else (impl_nameCode.j0 k a0 l1 τ))) else (impl_nameCode.j0 k a0 l1 τ)))=some r:=h
 clear h
 have HC4:=ζa H
 clear H
 go_enter Tryz.func15,Tryz.ntmps15
 go_upto_region 1 with (fail)
 go_cut [7] (fun v7 wc => ∃ (kq:Nat) (x7_3:Bool),v7 = .bool x7_3∧Aside0 (impl_nameCode.j0 kq a0 l1 x7_3=some r)∧Aside0 (kq≤k)∧Aside0 (Below w.heap.size w wc))
 case first =>
  have H:=HC4.out
  clear HC4
  obtain ⟨y228,hy228⟩ : ∃ y_:List ByteArray,y_=(([a0]:List ByteArray)):=⟨_,rfl⟩
  replace H:((impl_isText.f y228).bind fun t231=>(if t231=τ then ((impl_isList_impl_Pair.f l1).bind fun t232=>(if t232=τ then ((impl_isText.f l2).bind fun t233=>(impl_nameCode.j0 k a0 l1 (!t233))) else (impl_nameCode.j0 k a0 l1 τ))) else (impl_nameCode.j0 k a0 l1 τ)))=some r:=by (rw [hy228];with_reducible exact H)
  have Ny228:=ζa hy228
  clear hy228
  obtain ⟨t231,A5,H⟩:=bsm H
  by_cases c6:t231=τ
  ·
   subst c6
   rw [ifT] at H
   obtain ⟨t232,A7,H⟩:=bsm H
   by_cases c8:t232=τ
   ·
    subst c8
    rw [ifT] at H
    obtain ⟨t233,A9,H⟩:=bsm H
    have H':=ζa H
    clear H
    go_wp2_with (first|((with_reducible refine δx (N:=9) rfl ?_);refine Kd.R_lit Kd.string _ 9 ?hg (N:=9) ?hd (xs:=([a0]:List ByteArray)) (inner:=[.string a0]) (ok:=fun _=>True) (okp:=fun _=>True) ?hr ?hp (fun _ hk=>hk) trivial (Below.refl _ _) (Nat.le_refl _) (by simp) ?_;(case hd=>rfl);(case hg=>rfl);(case hr=>(go_simp;done));(case hp=>exact (Reps.one (show Kd.M Kd.string _ _ _ a0 [.string a0] from rfl) (Reps.none _ _)));intro v229 w10 ho11 hb hg_ hnew_;clear hg_ hnew_;(rw [← Ny228.out] at ho11);have HO230:=ζa (Kd.R_lower ho11 (δs (by exact HB.out)));replace HB:=ζa (δr (by exact HB.out) hb);clear hb ho11;obtain ⟨Ao12,co12,eo12⟩:=Kd.R_slice HO230.out;subst eo12)|((with_reducible refine δv (f:=27) rfl ?_);refine gl 10 Tryz.func27 #[.slice Ao12 y228.length co12] ?_;(with_reducible refine (impl_isText.calls _ _ y228 τ _ ?side1 ?side2 A5.out).mono ?_);(case side1=>repeat (exact (ζg HO230.out).2.2));(case side2=>exact (ζg HO230.out).2.1);rintro e w' ⟨rfl,⟨nd,rfl⟩⟩;refine ⟨_,rfl,?_⟩)|(go_at_call 28;(with_reducible refine (impl_isList_impl_Pair.calls _ _ l1 τ _ ?side1 ?side2 A7.out).mono ?_);(case side1=>repeat (exact (Kd.C_below HR1.out (by repeat ((with_reducible first|exact HB.out|apply δi))))));(case side2=>exact HC1.out);rintro e w' ⟨rfl,⟨nd,rfl⟩⟩)|(go_at_call 27;(with_reducible refine (impl_isText.calls _ _ l2 t233 _ ?side1 ?side2 A9.out).mono ?_);(case side1=>repeat (exact (Kd.C_below HR2.out (by repeat ((with_reducible first|exact HB.out|apply δi))))));(case side2=>exact HC2.out);rintro e w' ⟨rfl,⟨nd,rfl⟩⟩))
    go_meet
    case rel=>exact ⟨_,(!t233),(by rfl),H',⟨by omega⟩,⟨by repeat ((with_reducible first|exact HB.out|apply δi))⟩⟩
   ·
    replace c8:=Bool.eq_false_iff.mpr c8
    subst c8
    rw [ifF] at H
    have H':=ζa H
    clear H
    go_wp2_with (first|((with_reducible refine δx (N:=9) rfl ?_);refine Kd.R_lit Kd.string _ 9 ?hg (N:=9) ?hd (xs:=([a0]:List ByteArray)) (inner:=[.string a0]) (ok:=fun _=>True) (okp:=fun _=>True) ?hr ?hp (fun _ hk=>hk) trivial (Below.refl _ _) (Nat.le_refl _) (by simp) ?_;(case hd=>rfl);(case hg=>rfl);(case hr=>(go_simp;done));(case hp=>exact (Reps.one (show Kd.M Kd.string _ _ _ a0 [.string a0] from rfl) (Reps.none _ _)));intro v229 w13 ho14 hb hg_ hnew_;clear hg_ hnew_;(rw [← Ny228.out] at ho14);have HO230:=ζa (Kd.R_lower ho14 (δs (by exact HB.out)));replace HB:=ζa (δr (by exact HB.out) hb);clear hb ho14;obtain ⟨Ao15,co15,eo15⟩:=Kd.R_slice HO230.out;subst eo15)|((with_reducible refine δv (f:=27) rfl ?_);refine gl 10 Tryz.func27 #[.slice Ao15 y228.length co15] ?_;(with_reducible refine (impl_isText.calls _ _ y228 τ _ ?side1 ?side2 A5.out).mono ?_);(case side1=>repeat (exact (ζg HO230.out).2.2));(case side2=>exact (ζg HO230.out).2.1);rintro e w' ⟨rfl,⟨nd,rfl⟩⟩;refine ⟨_,rfl,?_⟩)|(go_at_call 28;(with_reducible refine (impl_isList_impl_Pair.calls _ _ l1 φ _ ?side1 ?side2 A7.out).mono ?_);(case side1=>repeat (exact (Kd.C_below HR1.out (by repeat ((with_reducible first|exact HB.out|apply δi))))));(case side2=>exact HC1.out);rintro e w' ⟨rfl,⟨nd,rfl⟩⟩))
    go_meet
    case rel=>exact ⟨_,(τ),(by rfl),H',⟨by omega⟩,⟨by repeat ((with_reducible first|exact HB.out|apply δi))⟩⟩
  ·
   replace c6:=Bool.eq_false_iff.mpr c6
   subst c6
   rw [ifF] at H
   have H':=ζa H
   clear H
   go_wp2_with (first|((with_reducible refine δx (N:=9) rfl ?_);refine Kd.R_lit Kd.string _ 9 ?hg (N:=9) ?hd (xs:=([a0]:List ByteArray)) (inner:=[.string a0]) (ok:=fun _=>True) (okp:=fun _=>True) ?hr ?hp (fun _ hk=>hk) trivial (Below.refl _ _) (Nat.le_refl _) (by simp) ?_;(case hd=>rfl);(case hg=>rfl);(case hr=>(go_simp;done));(case hp=>exact (Reps.one (show Kd.M Kd.string _ _ _ a0 [.string a0] from rfl) (Reps.none _ _)));intro v229 w16 ho17 hb hg_ hnew_;clear hg_ hnew_;(rw [← Ny228.out] at ho17);have HO230:=ζa (Kd.R_lower ho17 (δs (by exact HB.out)));replace HB:=ζa (δr (by exact HB.out) hb);clear hb ho17;obtain ⟨Ao18,co18,eo18⟩:=Kd.R_slice HO230.out;subst eo18)|((with_reducible refine δv (f:=27) rfl ?_);refine gl 10 Tryz.func27 #[.slice Ao18 y228.length co18] ?_;(with_reducible refine (impl_isText.calls _ _ y228 φ _ ?side1 ?side2 A5.out).mono ?_);(case side1=>repeat (exact (ζg HO230.out).2.2));(case side2=>exact (ζg HO230.out).2.1);rintro e w' ⟨rfl,⟨nd,rfl⟩⟩;refine ⟨_,rfl,?_⟩))
   go_meet
   case rel=>exact ⟨_,(τ),(by rfl),H',⟨by omega⟩,⟨by repeat ((with_reducible first|exact HB.out|apply δi))⟩⟩
 case rest =>
  clear HC4
  try clear c1
  try clear c2
  try clear p2
  try clear c6
  try clear c8
  try clear c15
  obtain ⟨kq,x7_3,rfl,HA,HJ3,HB⟩:=hcut
  cases kq with
  | zero=>exact absurd HA.out (by simp [impl_nameCode.j0])
  | succ kj3 =>
   have H:=HA.out
   clear HA
   simp only [impl_nameCode.j0] at H
   by_cases c19:x7_3=τ
   ·
    subst c19
    rw [ifT] at H
    obtain rfl:=Option.some.inj H
    go_wp2
    go_ret
    exact ⟨by rfl,by repeat ((with_reducible exact HB.out))⟩
   ·
    replace c19:=Bool.eq_false_iff.mpr c19
    subst c19
    rw [ifF] at H
    obtain ⟨t234,A20,H⟩:=bsm H
    by_cases c21:t234=τ
    ·
     subst c21
     rw [ifT] at H
     obtain ⟨t235,A22,H⟩:=bsm H
     by_cases c23:t235=τ
     ·
      subst c23
      rw [ifT] at H
      obtain rfl:=Option.some.inj H
      go_wp2_with (first|((with_reducible refine δv (f:=29) rfl ?_);refine gl 24 Tryz.func29 #[.string a0] ?_;(with_reducible refine (impl_isChain.calls a0 τ _ A20.out).mono ?_);rintro e w' ⟨rfl,⟨nd,rfl⟩⟩;refine ⟨_,rfl,?_⟩)|(go_at_call 30;(with_reducible refine (impl_StoreOK.calls kj3 _ _ l1 τ _ ?side1 ?side2 A22.out).mono ?_);(case side1=>repeat (exact (Kd.C_below HR1.out (by repeat ((with_reducible first|exact HB.out|apply δi))))));(case side2=>exact HC1.out);rintro e w24 ⟨rfl,hb⟩;replace HB:=ζa (δr (by repeat ((with_reducible first|exact HB.out|apply δi))) hb);(try clear hb);(try clear hb2);(try clear hk);(try clear hi)))
      go_ret
      exact ⟨by rfl,by repeat ((with_reducible exact HB.out))⟩
     ·
      replace c23:=Bool.eq_false_iff.mpr c23
      subst c23
      rw [ifF] at H
      obtain rfl:=Option.some.inj H
      go_wp2_with (first|((with_reducible refine δv (f:=29) rfl ?_);refine gl 24 Tryz.func29 #[.string a0] ?_;(with_reducible refine (impl_isChain.calls a0 τ _ A20.out).mono ?_);rintro e w' ⟨rfl,⟨nd,rfl⟩⟩;refine ⟨_,rfl,?_⟩)|(go_at_call 30;(with_reducible refine (impl_StoreOK.calls kj3 _ _ l1 φ _ ?side1 ?side2 A22.out).mono ?_);(case side1=>repeat (exact (Kd.C_below HR1.out (by repeat ((with_reducible first|exact HB.out|apply δi))))));(case side2=>exact HC1.out);rintro e w25 ⟨rfl,hb⟩;replace HB:=ζa (δr (by repeat ((with_reducible first|exact HB.out|apply δi))) hb);(try clear hb);(try clear hb2);(try clear hk);(try clear hi)))
      go_ret
      exact ⟨by rfl,by repeat ((with_reducible exact HB.out))⟩
    ·
     replace c21:=Bool.eq_false_iff.mpr c21
     subst c21
     rw [ifF] at H
     obtain rfl:=Option.some.inj H
     go_wp2_with (((with_reducible refine δv (f:=29) rfl ?_);refine gl 24 Tryz.func29 #[.string a0] ?_;(with_reducible refine (impl_isChain.calls a0 φ _ A20.out).mono ?_);rintro e w' ⟨rfl,⟨nd,rfl⟩⟩;refine ⟨_,rfl,?_⟩))
     go_ret
     exact ⟨by rfl,by repeat ((with_reducible first|exact HB.out|apply δi))⟩


set_option maxHeartbeats 8000000
set_option maxRecDepth 100000

/-! ### impl_numberOf: function 82 -/
def impl_numberOf.l0:Nat→ByteArray→Int→Int→Int→Option (Int)
 | 0,_,_,_,_=>none
 | k+1,x0,x3,x6,x7=>if x7<x6 then (if 0≤x7 then (if x7<(x0.size:Int) then (impl_numberOf.l0 k x0 (ζm ((ζm (x3 * 256))+(ζm (bt x0 x7)))) x6 (ζm (x7+1))) else (none)) else (none)) else (some x3)
def impl_numberOf.f (k:Nat) (a0:ByteArray):Option (Int):=impl_numberOf.l0 k a0 0 (a0.size:Int) 0
theorem impl_numberOf.calls (k:Nat) (a0:ByteArray) (r:Int) (w:World) (h:impl_numberOf.f k a0=some r) :
  Calls Tryz.prog 82 #[.string a0] w fun e w'=>e = .returned (.int .i64 r)∧Drawn0 w w':=by
 have H:(impl_numberOf.l0 k a0 0 (a0.size:Int) 0)=some r:=h
 clear h
 have H':=ζa H
 clear H
 go_enter Tryz.func82,Tryz.ntmps82
 go_wp2
 go_loopg [3,7] k (fun kq v3 v7 w' => ∃ (x3_1:Int) (x7_1:Int),v3 = .int .i64 x3_1∧v7 = .int .i64 x7_1∧Aside0 (impl_numberOf.l0 kq a0 x3_1 (a0.size:Int) x7_1=some r)∧Aside0 (kq≤k)∧Drawn0 w w')
 case atStart=>exact ⟨(0),(0),(by rfl),(by rfl),H',⟨Nat.le_refl _⟩,by repeat (exact Drawn0.refl _)⟩
 case round =>
  clear H'
  obtain ⟨x3_1,x7_1,rfl,rfl,HA,HK1,⟨m1,rfl⟩⟩:=hrel
  cases gk with
  | zero=>exact absurd HA.out (by simp [impl_numberOf.l0])
  | succ k1 =>
   have H:=HA.out
   clear HA
   simp only [impl_numberOf.l0] at H
   by_cases c2:x7_1<(a0.size:Int)
   ·
    rw [if_pos c2] at H
    have c2b0:=decide_eq_true c2
    clear c2
    by_cases c3:0≤x7_1
    ·
     rw [if_pos c3] at H
     have c3b0:=decide_eq_true c3
     clear c3
     by_cases c4:x7_1<(a0.size:Int)
     ·
      rw [if_pos c4] at H
      have c4b0:=decide_eq_true c4
      clear c4
      have H':=ζa H
      clear H
      have p5:0≤(x7_1:Int):=of_decide_eq_true (by (with_reducible assumption))
      have q5:x7_1<(a0.size:Int):=of_decide_eq_true (by (with_reducible assumption))
      have hx5:=bt_at a0 x7_1
      replace p5:=eq_true p5
      replace q5:=eq_true q5
      go_wp2
      go_roundg k1
      case measure=>have:=HK1.out;omega
      case rel=>exact ⟨(ζm ((ζm (x3_1 * 256))+(ζm (bt a0 x7_1)))),(ζm (x7_1+1)),(by rfl),(by rfl),H',⟨by have:=HK1.out;omega⟩,by repeat (first|exact Drawn0.refl _|apply Drawn0.step)⟩
     ·
      rw [if_neg c4] at H
      exact absurd H (by simp)
    ·
     rw [if_neg c3] at H
     exact absurd H (by simp)
   ·
    rw [if_neg c2] at H
    have c2b0:=decide_eq_false c2
    clear c2
    obtain rfl:=Option.some.inj H
    go_wp2
    go_ret
    exact ⟨by rfl,by repeat (first|exact Drawn0.refl _|apply Drawn0.step)⟩


open Go.Proofs.YtjhhehjjnfnigaaGreatDoorW.PrintWords renaming below_drew1 → δj, below_size → δs, below_step → δr, gate_callee → δv, pw_below_drewN → δi
open Go.Proofs.YtjhhehjjnfnigaaGreatDoorW.PrintLast renaming pure_ → ζk
open Go.Act renaming put → ζl
open List renaming setIfInBounds_toArray → δa, set_cons_zero → δb, set_cons_succ → δc
open Go.Proofs.YtjhhehjjnfnigaaGreatDoorW.PrintWords.Kd renaming R_drewN → ζc, R_drew → ζe
set_option maxHeartbeats 8000000
set_option maxRecDepth 100000

/-! ### impl_readFields: function 55 -/
mutual
def impl_readFields.j0:Nat→ByteArray→Bool→Option (List ByteArray × Bool)
 | 0,_,_=>none
 | k+1,x0,x13=>if x13=τ then (some (([]:List ByteArray),φ)) else (if 1≤(x0.size:Int) then (if 0<(x0.size:Int) then (impl_readFields.l0 k (([]:List ByteArray)) (x0.extract 1 x0.size) (ζm (bt x0 0)) 0) else (none)) else (none))
def impl_readFields.l0:Nat→List ByteArray→ByteArray→Int→Int→Option (List ByteArray × Bool)
 | 0,_,_,_,_=>none
 | k+1,x4,x5,x19,x20=>if x20<x19 then (if (x5.size:Int)<2 then (some (([]:List ByteArray),φ)) else (if 0≤2 then (if 2≤(x5.size:Int) then ((impl_numberOf.f k (x5.extract 0 2)).bind fun t239=>(if t239 > 1000 then (some (([]:List ByteArray),φ)) else (if (x5.size:Int)<(ζm (2+t239)) then (some (([]:List ByteArray),φ)) else (if 2≤(ζm (2+t239)) then (if (ζm (2+t239))≤(x5.size:Int) then (if x4.length<8796093022208 then (if 0≤(ζm (2+t239)) then (impl_readFields.l0 k (x4 ++ [x5.extract 2 ((ζm (2+t239)):Int).toNat]) (x5.extract ((ζm (2+t239)):Int).toNat x5.size) x19 (ζm (x20+1))) else (none)) else (none)) else (none)) else (none))))) else (none)) else (none))) else (some (x4,(x5.toList == ([]:List UInt8))))
end
def impl_readFields.f (k:Nat) (a0:ByteArray):Option (List ByteArray × Bool):=if a0.toList=([]:List UInt8) then (impl_readFields.j0 k a0 τ) else (if 0<(a0.size:Int) then (impl_readFields.j0 k a0 (decide ((bt a0 0) > 40))) else (none))
def impl_readFields.T11:Bool × List (List Nat × List Nat):=(τ,[([],[]),([],[]),([],[]),([2],[2]),([1,3],[1,3]),([4],[4]),([0,5],[0,5]),([],[]),([],[]),([8],[8]),([7,9],[7,9]),([6,6,0,1,2,3,4,5,6],[0,6]),([10,11,0,1,2,3,4,5,6,7,8,9,10,11],[1,7,10])])
def impl_readFields.B11:List Nat:=[0,0,0,4,14,30,63,0,0,256,896,127,4095]
theorem impl_readFields.tab11:rtab .any (opsOf Tryz.f55 11)=impl_readFields.T11:=by kernel_rfl
theorem impl_readFields.bits11:waitsOk impl_readFields.T11.2 impl_readFields.B11=τ:=by kernel_rfl
theorem impl_readFields.calls (k:Nat) (a0:ByteArray) (r1:List ByteArray) (r2:Bool) (w:World) (h:impl_readFields.f k a0=some (r1,r2)) :
  Calls Tryz.prog 55 #[.string a0] w fun e w' => ∃ v0_:Value,e = .returned (.tuple #[v0_,.bool r2])∧Kd.R Kd.string 9 w' w.heap.size (fun _=>True) v0_ r1∧Below w.heap.size w w':=by
 have HB:=ζa (Below.refl w.heap.size w)
 have H:(if a0.toList=([]:List UInt8) then (impl_readFields.j0 k a0 τ) else (if 0<(a0.size:Int) then (impl_readFields.j0 k a0 (decide ((bt a0 0) > 40))) else (none)))=some (r1,r2):=h
 clear h
 have HC2:=ζa H
 clear H
 go_enter Tryz.func55,Tryz.ntmps55
 go_upto_region 1 with (fail)
 go_cut [13] (fun v13 wc => ∃ (kq:Nat) (x13_1:Bool),v13 = .bool x13_1∧Aside0 (impl_readFields.j0 kq a0 x13_1=some (r1,r2))∧Aside0 (kq≤k)∧Aside0 (Below w.heap.size w wc))
 case first =>
  have H:=HC2.out
  clear HC2
  by_cases c3:a0.toList=([]:List UInt8)
  ·
   rw [if_pos c3] at H
   have c3b0:=beq_iff_eq.mpr c3
   have c3b1:=bne_eq_false_iff_eq.mpr c3
   clear c3
   have H':=ζa H
   clear H
   go_wp2
   go_meet
   case rel=>exact ⟨_,(τ),(by rfl),H',⟨by omega⟩,⟨by repeat ((with_reducible exact HB.out))⟩⟩
  ·
   rw [if_neg c3] at H
   have c3b0:=beq_eq_false_iff_ne.mpr c3
   have c3b1:=bne_iff_ne.mpr c3
   by_cases c4:0<(a0.size:Int)
   ·
    rw [if_pos c4] at H
    have c4b0:=decide_eq_true c4
    have c4b1:decide (0<a0.size)=τ:=decide_eq_true (by omega)
    clear c4
    have H':=ζa H
    clear H
    have p5:0≤(0:Int):=(by omega)
    have q5:0<a0.size:=(by have:(0:Int)<(a0.size:Int):=of_decide_eq_true (by (with_reducible assumption));omega)
    have hx5 : ∀ h:0<a0.size,((a0[0]'h).toNat:Int)=bt a0 0:=bt_at a0 0
    clear p5
    have qi5:(0<(a0.size:Int))=True:=eq_true (of_decide_eq_true (by (with_reducible assumption)))
    replace q5:=eq_true q5
    go_wp2
    go_meet
    case rel=>exact ⟨_,(decide ((bt a0 0) > 40)),(by rfl),H',⟨by omega⟩,⟨by repeat ((with_reducible exact HB.out))⟩⟩
   ·
    rw [if_neg c4] at H
    exact absurd H (by simp)
 case rest =>
  clear HC2
  try clear p2
  try clear c3
  try clear c3b0
  try clear c3b1
  try clear c4
  try clear c4b0
  try clear c4b1
  try clear c5
  try clear p5
  try clear q5
  try clear hx5
  try clear qi5
  try clear p5
  try clear q5
  obtain ⟨kq,x13_1,rfl,HA,HJ1,HB⟩:=hcut
  cases kq with
  | zero=>exact absurd HA.out (by simp [impl_readFields.j0])
  | succ kj1 =>
   have H:=HA.out
   clear HA
   simp only [impl_readFields.j0] at H
   by_cases c6:x13_1=τ
   ·
    subst c6
    rw [ifT] at H
    simp only [Option.some.injEq,Prod.mk.injEq] at H
    obtain ⟨rfl,rfl⟩:=H
    go_wp2
    go_ret2
    exact ⟨_,by rfl,by exact Kd.R_nil _ _ _ _ _,by repeat ((with_reducible exact HB.out))⟩
   ·
    replace c6:=Bool.eq_false_iff.mpr c6
    subst c6
    rw [ifF] at H
    obtain ⟨y236,hy236⟩ : ∃ y_:List ByteArray,y_=(([]:List ByteArray)):=⟨_,rfl⟩
    replace H:(if 1≤(a0.size:Int) then (if 0<(a0.size:Int) then (impl_readFields.l0 kj1 y236 (a0.extract 1 a0.size) (ζm (bt a0 0)) 0) else (none)) else (none))=some (r1,r2):=by (rw [hy236];with_reducible exact H)
    have Ny236:=ζa hy236
    clear hy236
    by_cases c7:1≤(a0.size:Int)
    ·
     rw [if_pos c7] at H
     have c7b0:=eq_true c7
     have c7b1:=decide_eq_true c7
     clear c7
     by_cases c8:0<(a0.size:Int)
     ·
      rw [if_pos c8] at H
      have c8b0:=decide_eq_true c8
      have c8b1:decide (0<a0.size)=τ:=decide_eq_true (by omega)
      clear c8
      have H':=ζa H
      clear H
      try go_wp2
      replace HB:=ζa (δj HB.out)
      refine start_ (n:=5) (S:=fun w'=>True) (ds:=[]) #[φ,φ,φ,φ,φ] (by kernel_rfl) rfl rfl trivial (fun hHeld => ?_)
      generalize wc.drew=w10 at HB hHeld ⊢
      refine ζk (i:=1) (N:=some 15) (v:=?_) (a':=?_) #[φ,τ,φ,φ,φ] rfl rfl (by kernel_rfl) (fun _ _ _ h=>h) (Or.inl ⟨by rfl,?_⟩) ?_ ?_
      rotate_left
      · intro w';go_simp;with_reducible rfl
      rotate_left
      · simp only [ζl,δa,δb,δc,i64_w,i32_w];rfl
      refine ζk (i:=2) (N:=some 16) (v:=?_) (a':=?_) #[φ,τ,τ,φ,φ] rfl rfl (by kernel_rfl) (fun _ _ _ h=>h) (Or.inl ⟨by rfl,?_⟩) ?_ ?_
      rotate_left
      · intro w';go_simp;with_reducible rfl
      rotate_left
      · simp only [ζl,δa,δb,δc,i64_w,i32_w];rfl
      refine one_ (i:=0) (N:=some 14) #[τ,τ,τ,φ,φ] rfl rfl (by kernel_rfl) (by decide) (fun K hK => ?_)
      refine Kd.R_lit_step Kd.string _ 9 ?hg (N:=14) ?hd (xs:=([]:List ByteArray)) (inner:=[]) (ok:=fun _=>True) (okp:=fun _=>True) ?hr ?hp (fun _ hk=>hk) trivial (Below.refl _ _) (Nat.le_refl _) (by simp) ?_;(case hd=>rfl);(case hg=>rfl);(case hr=>(go_simp;done));(case hp=>exact (Reps.none _ _))
      intro v237 w11 ho12 hb hg_ hnew_
      clear hg_ hnew_
      (rw [← Ny236.out] at ho12)
      have HO238:=ζa (Kd.R_lower ho12 (δs (by exact HB.out)))
      replace HB:=ζa (δr (by exact HB.out) hb)
      clear hb ho12
      refine hK.out _ _ trivial (fun hHeld => ?_)
      clear hK K
      refine nm 14 ?_
      refine ζk (i:=3) (N:=some 4) (v:=?_) (a':=?_) #[τ,τ,τ,τ,φ] rfl rfl (by kernel_rfl) (fun _ _ _ h=>h) (Or.inl ⟨by rfl,?_⟩) ?_ ?_
      rotate_left
      · intro w';go_simp;with_reducible rfl
      rotate_left
      · simp only [ζl,δa,δb,δc,i64_w,i32_w];rfl
      refine ζk (i:=4) (N:=some 5) (v:=?_) (a':=?_) #[τ,τ,τ,τ,τ] rfl rfl (by kernel_rfl) (fun _ _ _ h=>h) (Or.inl ⟨by rfl,?_⟩) ?_ ?_
      rotate_left
      · intro w';go_simp;with_reducible rfl
      rotate_left
      · simp only [ζl,δa,δb,δc,i64_w,i32_w];rfl
      refine done_ (by kernel_rfl) ?_
      have p9:0≤(0:Int):=(by omega)
      have q9:0<a0.size:=(by have:(0:Int)<(a0.size:Int):=of_decide_eq_true (by (with_reducible assumption));omega)
      have hx9 : ∀ h:0<a0.size,((a0[0]'h).toNat:Int)=bt a0 0:=bt_at a0 0
      clear p9
      have qi9:(0<(a0.size:Int))=True:=eq_true (of_decide_eq_true (by (with_reducible assumption)))
      replace q9:=eq_true q9
      try go_wp2
      go_loopg [4,5,20] kj1 (fun kq v4 v5 v20 w' => ∃ (x4_2:List ByteArray) (x5_2:ByteArray) (x20_2:Int),v5 = .string x5_2∧v20 = .int .i64 x20_2∧Aside0 (impl_readFields.l0 kq x4_2 x5_2 (ζm (bt a0 0)) x20_2=some (r1,r2))∧Aside0 (kq≤kj1)∧Aside0 (Kd.R Kd.string 9 w' w.heap.size (fun _=>True) v4 x4_2)∧Aside0 (Below w.heap.size w w'))
      case atStart=>exact ⟨(y236),(a0.extract 1 a0.size),(0),(by rfl),(by rfl),H',⟨Nat.le_refl _⟩,⟨by exact HO238.out⟩,⟨by repeat ((with_reducible exact HB.out))⟩⟩
      case round =>
       clear H'
       try clear p2
       try clear c3
       try clear c3b0
       try clear c3b1
       try clear c4
       try clear c4b0
       try clear c4b1
       try clear c5
       try clear p5
       try clear q5
       try clear hx5
       try clear qi5
       try clear c6
       try clear p6
       try clear c7
       try clear c7b0
       try clear c7b1
       try clear c8
       try clear c8b0
       try clear c8b1
       try clear p9
       try clear q9
       try clear hx9
       try clear qi9
       try clear p2
       try clear p5
       try clear p9
       try clear q5
       try clear q9
       obtain ⟨x4_2,x5_2,x20_2,rfl,rfl,HA,HK2,HO_4,HB⟩:=hrel
       cases gk with
       | zero=>exact absurd HA.out (by simp [impl_readFields.l0])
       | succ k2 =>
        have H:=HA.out
        clear HA
        simp only [impl_readFields.l0] at H
        by_cases c13:x20_2<(ζm (bt a0 0))
        ·
         rw [if_pos c13] at H
         have c13b0:=decide_eq_true c13
         clear c13
         by_cases c14:(x5_2.size:Int)<2
         ·
          rw [if_pos c14] at H
          have c14b0:=decide_eq_true c14
          have c14b1:decide (x5_2.size<2)=τ:=decide_eq_true (by omega)
          clear c14
          simp only [Option.some.injEq,Prod.mk.injEq] at H
          obtain ⟨rfl,rfl⟩:=H
          go_wp2
          go_ret2
          exact ⟨_,by rfl,by exact Kd.R_nil _ _ _ _ _,by repeat ((with_reducible exact HB.out))⟩
         ·
          rw [if_neg c14] at H
          have c14b0:=decide_eq_false c14
          have c14b1:decide (x5_2.size<2)=φ:=decide_eq_false (by omega)
          clear c14
          by_cases c15:0≤2
          ·
           rw [if_pos c15] at H
           have c15b0:=eq_true c15
           have c15b1:=decide_eq_true c15
           clear c15
           by_cases c16:2≤(x5_2.size:Int)
           ·
            rw [if_pos c16] at H
            have c16b0:=eq_true c16
            have c16b1:=decide_eq_true c16
            clear c16
            obtain ⟨t239,A17,H⟩:=bsm H
            by_cases c18:t239 > 1000
            ·
             rw [if_pos c18] at H
             have c18b0:decide (1000<t239)=τ:=decide_eq_true c18
             clear c18
             simp only [Option.some.injEq,Prod.mk.injEq] at H
             obtain ⟨rfl,rfl⟩:=H
             go_wp2_with (((with_reducible refine δv (f:=82) rfl ?_);refine gl 27 Tryz.func82 #[.string (x5_2.extract 0 2)] ?_;(with_reducible refine (impl_numberOf.calls k2 (x5_2.extract 0 2) t239 _ A17.out).mono ?_);rintro e w' ⟨rfl,⟨nd,rfl⟩⟩;refine ⟨_,rfl,?_⟩))
             go_ret2
             exact ⟨_,by rfl,by exact Kd.R_nil _ _ _ _ _,by repeat ((with_reducible first|exact HB.out|apply δi))⟩
            ·
             rw [if_neg c18] at H
             have c18b0:decide (1000<t239)=φ:=decide_eq_false c18
             clear c18
             by_cases c19:(x5_2.size:Int)<(ζm (2+t239))
             ·
              rw [if_pos c19] at H
              have c19b0:=decide_eq_true c19
              clear c19
              simp only [Option.some.injEq,Prod.mk.injEq] at H
              obtain ⟨rfl,rfl⟩:=H
              go_wp2_with (((with_reducible refine δv (f:=82) rfl ?_);refine gl 27 Tryz.func82 #[.string (x5_2.extract 0 2)] ?_;(with_reducible refine (impl_numberOf.calls k2 (x5_2.extract 0 2) t239 _ A17.out).mono ?_);rintro e w' ⟨rfl,⟨nd,rfl⟩⟩;refine ⟨_,rfl,?_⟩))
              go_ret2
              exact ⟨_,by rfl,by exact Kd.R_nil _ _ _ _ _,by repeat ((with_reducible first|exact HB.out|apply δi))⟩
             ·
              rw [if_neg c19] at H
              have c19b0:=decide_eq_false c19
              clear c19
              by_cases c20:2≤(ζm (2+t239))
              ·
               rw [if_pos c20] at H
               have c20b0:=eq_true c20
               have c20b1:=decide_eq_true c20
               by_cases c21:(ζm (2+t239))≤(x5_2.size:Int)
               ·
                rw [if_pos c21] at H
                have c21b0:=eq_true c21
                have c21b1:=decide_eq_true c21
                by_cases c22:x4_2.length<8796093022208
                ·
                 rw [if_pos c22] at H
                 have LMc22:=ζa c22
                 clear c22
                 obtain ⟨y240,hy240⟩ : ∃ y_:List ByteArray,y_=(x4_2 ++ [x5_2.extract 2 ((ζm (2+t239)):Int).toNat]):=⟨_,rfl⟩
                 replace H:(if 0≤(ζm (2+t239)) then (impl_readFields.l0 k2 y240 (x5_2.extract ((ζm (2+t239)):Int).toNat x5_2.size) (ζm (bt a0 0)) (ζm (x20_2+1))) else (none))=some (r1,r2):=by (rw [hy240];with_reducible exact H)
                 have Ny240:=ζa hy240
                 clear hy240
                 obtain ⟨ji23,hji23⟩ : ∃ j_:Int,(ζm (2+t239))=j_:=⟨_,rfl⟩
                 replace H:(if 0≤(ji23) then (impl_readFields.l0 k2 y240 (x5_2.extract ((ji23):Int).toNat x5_2.size) (ζm (bt a0 0)) (ζm (x20_2+1))) else (none))=some (r1,r2):=by (rw [hji23] at H;exact H)
                 (try rw [hji23] at c19b0)
                 (try rw [hji23] at c20b0)
                 (try rw [hji23] at c20b1)
                 (try rw [hji23] at c20)
                 (try rw [hji23] at c21b0)
                 (try rw [hji23] at c21b1)
                 (try rw [hji23] at c21)
                 (try rw [hji23] at A17)
                 (try rw [hji23] at Ny240)
                 have hji23w:(IntKind.i64.wrap (2+t239))=ji23:=(i64_w _).trans hji23
                 by_cases c24:0≤(ji23)
                 ·
                  rw [if_pos c24] at H
                  have c24b0:=eq_true c24
                  have c24b1:=decide_eq_true c24
                  clear c24
                  have c25b0:=eq_true (of_decide_eq_true (by (with_reducible assumption)):(ji23)≤(x5_2.size:Int))
                  have H':=ζa H
                  clear H
                  try go_wp2_with (((with_reducible refine δv (f:=82) rfl ?_);refine gl 27 Tryz.func82 #[.string (x5_2.extract 0 2)] ?_;(with_reducible refine (impl_numberOf.calls k2 (x5_2.extract 0 2) t239 _ A17.out).mono ?_);rintro e w' ⟨rfl,⟨nd,rfl⟩⟩;refine ⟨_,rfl,?_⟩))
                  (try (rw [drewN_self wr];generalize hq_:World.drewN wr _=wr;have n0_:Aside0 (Kd.R Kd.string 9 wr w.heap.size (fun _=>True) u4 x4_2):=⟨by rw [← hq_];exact (by (with_reducible repeat (apply ζc));exact HO_4.out)⟩;have n1_:Aside0 (Below w.heap.size w wr):=⟨by rw [← hq_];exact (by repeat ((with_reducible first|exact HB.out|apply δi)))⟩;clear HO_4 HB hq_;have HO_4:=n0_;have HB:=n1_;clear n0_ n1_))
                  replace HO_4:=ζa (ζe HO_4.out)
                  replace HB:=ζa (δj HB.out)
                  refine sta 13 (fun w'=>True) [] impl_readFields.tab11 impl_readFields.bits11 trivial (fun hHeld HT_ HW_ => ?_)
                  generalize wr.drew=w26 at HO_4 HB hHeld ⊢
                  refine pu 0 37 ?_
                  refine pu 1 38 ?_
                  refine pu 2 39 ?_
                  refine pu 3 40 ?_
                  refine pu 4 41 ?_
                  refine pu 7 44 ?_
                  refine pu 8 45 ?_
                  refine pu 9 46 ?_
                  refine pu 10 47 ?_
                  refine on 5 42 (fun K hK => ?_)
                  refine value_ (w1:=?_) (v:=?_) (by rfl) rfl ?_ ?_
                  rotate_left 2
                  ·
                   go_simp
                   constructor
                   · rfl
                   ·
                    rfl
                  refine hK.out _ _ trivial (fun hHeld => ?_)
                  clear hK K
                  refine nm 42 ?_
                  refine on 6 43 (fun K hK => ?_)
                  refine Kd.R_append_step Kd.string (w0:=w) w.heap.size (by rfl) (.tmp 37) (.tmp 42) 56 9 (.string ⟨#[]⟩) 16 rfl Tryz.underlying56 info9 rfl (by decide) (by omega) u4 x4_2 (x5_2.extract 2 ((ji23):Int).toNat) [.string (x5_2.extract 2 ((ji23):Int).toNat)] (fun _=>True) (fun _=>False) rfl rfl ?aP (fun _ hk=>hk.elim) ?aF ?aO ?aB ?aS ?aL ?_
                  (case aP=>exact rfl)
                  (case aB=>exact (by exact HB.out))
                  (case aF=>exact (fun _ _=>trivial))
                  (case aO=>exact (by exact HO_4.out))
                  (case aS=>exact (δs (by exact HB.out)))
                  (case aL=>have:=LMc22.out;omega)
                  intro v241 w27 ho hb hg hat
                  rw [← Ny240.out] at ho
                  have n0_:=ζa (hb)
                  have n1_:=ζa (ho)
                  clear HB
                  clear HO_4
                  have HB:=n0_
                  have HO242:=n1_
                  clear n0_ n1_
                  clear ho hb hg hat
                  refine hK.out _ _ trivial (fun hHeld => ?_)
                  clear hK K
                  refine nm 43 ?_
                  refine pu 11 4 ?_
                  refine pu 12 5 ?_
                  refine done_ (done_of HT_.out (by kernel_rfl)) ?_
                  try go_wp2
                  go_roundg k2
                  case measure=>have:=HJ1.out;have:=HK2.out;omega
                  case rel=>exact ⟨(y240),(x5_2.extract ((ji23):Int).toNat x5_2.size),(ζm (x20_2+1)),(by rfl),(by rfl),H',⟨by have:=HJ1.out;have:=HK2.out;omega⟩,⟨by exact HO242.out⟩,⟨by repeat ((with_reducible exact HB.out))⟩⟩
                 ·
                  rw [if_neg c24] at H
                  exact absurd H (by simp)
                ·
                 rw [if_neg c22] at H
                 exact absurd H (by simp)
               ·
                rw [if_neg c21] at H
                exact absurd H (by simp)
              ·
               rw [if_neg c20] at H
               exact absurd H (by simp)
           ·
            rw [if_neg c16] at H
            exact absurd H (by simp)
          ·
           rw [if_neg c15] at H
           exact absurd H (by simp)
        ·
         rw [if_neg c13] at H
         have c13b0:=decide_eq_false c13
         clear c13
         simp only [Option.some.injEq,Prod.mk.injEq] at H
         obtain ⟨rfl,rfl⟩:=H
         go_wp2
         go_ret2
         exact ⟨_,by first|(simp [errW_none,errW_some] <;> rfl),by exact HO_4.out,by repeat ((with_reducible exact HB.out))⟩
     ·
      rw [if_neg c8] at H
      exact absurd H (by simp)
    ·
     rw [if_neg c7] at H
     exact absurd H (by simp)


set_option maxHeartbeats 8000000
set_option maxRecDepth 100000

/-! ### impl_isAmount: function 84 -/
def impl_isAmount.f (a0:Int):Option (Bool):=(impl_within.f a0 0 1000000000000000000).bind fun t275=>(some t275)
theorem impl_isAmount.calls (a0:Int) (r:Bool) (w:World) (h:impl_isAmount.f a0=some r) :
  Calls Tryz.prog 84 #[.int .i64 a0] w fun e w'=>e = .returned (.bool r)∧Drawn0 w w':=by
 have H:((impl_within.f a0 0 1000000000000000000).bind fun t275=>(some t275))=some r:=h
 clear h
 obtain ⟨t275,A2,H⟩:=bsm H
 obtain rfl:=Option.some.inj H
 go_enter Tryz.func84,Tryz.ntmps84
 go_wp2_with (((with_reducible refine δv (f:=81) rfl ?_);refine gl 4 Tryz.func81 #[.int .i64 a0,.int .i64 0,.int .i64 1000000000000000000] ?_;(with_reducible refine (impl_within.calls a0 0 1000000000000000000 t275 _ A2.out).mono ?_);rintro e w' ⟨rfl,⟨nd,rfl⟩⟩;refine ⟨_,rfl,?_⟩))
 go_ret
 exact ⟨by rfl,by repeat (first|exact Drawn0.refl _|apply Drawn0.step)⟩


open Go.Proofs.YtjhhehjjnfnigaaGreatDoorW.PrintWords renaming gate_callee → δv, below_step → δr
set_option maxHeartbeats 8000000
set_option maxRecDepth 100000

/-! ### impl_amountText: function 85 -/
def impl_amountText.f (a0:Int):Option (ByteArray):=(strconv_Itoa.f a0).bind fun t276=>(some t276)
theorem impl_amountText.calls (a0:Int) (r:ByteArray) (w:World) (hT0:TabsOK w) (h:impl_amountText.f a0=some r) :
  Calls Tryz.prog 85 #[.int .i64 a0] w fun e w'=>e = .returned (.string r)∧Below w.heap.size w w':=by
 have HT0:=ζa hT0
 clear hT0
 have HB:=ζa (Below.refl w.heap.size w)
 have H:((strconv_Itoa.f a0).bind fun t276=>(some t276))=some r:=h
 clear h
 obtain ⟨t276,A2,H⟩:=bsm H
 obtain rfl:=Option.some.inj H
 go_enter Tryz.func85,Tryz.ntmps85
 go_wp2_with (((with_reducible refine δv (f:=103) rfl ?_);refine gl 4 Tryz.func103 #[.int .i64 a0] ?_;(with_reducible refine (strconv_Itoa.calls a0 t276 _ (HT0.out.below (by exact HB.out)) A2.out).mono ?_);rintro e w3 ⟨rfl,hb⟩;refine ⟨_,rfl,?_⟩;replace HB:=ζa (δr (by exact HB.out) hb);(try clear hb);(try clear hb2);(try clear hk);(try clear hi)))
 go_ret
 exact ⟨by rfl,by repeat ((with_reducible exact HB.out))⟩


open Go.Proofs.YtjhhehjjnfnigaaGreatDoorW.PrintWords renaming pw_below_drewN → δi, below_step → δr
set_option maxHeartbeats 8000000
set_option maxRecDepth 100000


/-! ### impl_readAmount: function 56 -/
/-- The amount that a text tells,and whether it is one. -/
def impl_readAmount.f (a0:ByteArray):Option (Int × Bool) :=
 if a0.size≤281474976710656 then (match Lib.atoiAll a0.data.toList with
  | .ok v=>if 0≤v then (if v≤1000000000000000000 then (if (⟨(Lib.itoa v).toArray⟩:ByteArray).toList=a0.toList then some (v,τ) else some (0,φ)) else some (0,φ)) else some (0,φ)
  | _=>some (0,φ)) else none
theorem impl_readAmount.bad (a0:ByteArray) (hs:a0.size≤281474976710656) (hb:(∀ v,Lib.atoiAll a0.data.toList ≠ .ok v)) (w:World) (hT0:TabsOK w) :
  Calls Tryz.prog 83 #[.string a0] w fun e w' => ∃ (n:Int) (te N:Nat),e = .returned (.tuple #[.int .i64 n,.iface te (.pointer (some ⟨N,0,none⟩))])∧Below w.heap.size w w':=by
 cases hh:Lib.atoiAll a0.data.toList with
 | ok v=>exact absurd hh (hb v)
 | range =>
  obtain ⟨tp,p,hv⟩:=hT0.2.2
  refine (Tryz.strconv_Atoi_range_var a0 hs hh tp p w (hv w (Below.refl _ _))).mono ?_
  rintro e w' ⟨N,rfl,_,_,hb⟩
  exact ⟨_,_,N,rfl,hb⟩
 | _ =>
  obtain ⟨tp,p,hv⟩:=hT0.2.1
  refine (Tryz.strconv_Atoi_syntax_var a0 hs hh tp p w (hv w (Below.refl _ _))).mono ?_
  rintro e w' ⟨N,rfl,_,_,hb⟩
  exact ⟨_,_,N,rfl,hb⟩
theorem impl_readAmount.good (a0:ByteArray) (hs:a0.size≤281474976710656) (v:Int) (hb:Lib.atoiAll a0.data.toList = .ok v) (w:World) :
  Calls Tryz.prog 83 #[.string a0] w fun e w'=>e = .returned (.tuple #[.int .i64 v,.nilIface])∧Below w.heap.size w w':=by
 refine (Tryz.strconv_Atoi_ok a0 (by omega) v hb w).mono ?_
 rintro e w' ⟨rfl,rfl|⟨t,rfl⟩⟩
 · exact ⟨rfl,Below.refl _ _⟩
 ·
  exact ⟨rfl,bytes_below (Below.refl _ _) (Nat.le_refl _) 5 t⟩
theorem impl_readAmount.calls (a0:ByteArray) (r1:Int) (r2:Bool) (w:World) (hT0:TabsOK w) (h:impl_readAmount.f a0=some (r1,r2)) :
  Calls Tryz.prog 56 #[.string a0] w fun e w'=>e = .returned (.tuple #[.int .i64 r1,.bool r2])∧Below w.heap.size w w':=by
 unfold impl_readAmount.f at h
 by_cases hs:a0.size≤281474976710656
 ·
  rw [if_pos hs] at h
  by_cases hg : ∃ v,Lib.atoiAll a0.data.toList = .ok v
  ·
   obtain ⟨v,hv⟩:=hg
   rw [hv] at h
   have HV:=ζa hv
   have HS:=ζa hs
   have HT:=ζa hT0
   clear hv hs hT0
   dsimp only at h
   by_cases h0:0≤v∧v≤1000000000000000000
   ·
    rw [if_pos h0.1,if_pos h0.2] at h
    have HA:Aside0 (impl_isAmount.f v=some τ):=⟨by
     unfold impl_isAmount.f impl_within.f
     rw [if_pos h0.1,decide_eq_true h0.2]
     rfl⟩
    have HI:Aside0 (impl_amountText.f v=some ⟨(Lib.itoa v).toArray⟩):=⟨by
     unfold impl_amountText.f strconv_Itoa.f
     rw [if_pos (by omega),if_pos (by omega)]
     rfl⟩
    generalize (⟨(Lib.itoa v).toArray⟩:ByteArray)=t at h HI
    by_cases ht:t.toList=a0.toList
    ·
     rw [if_pos ht] at h
     injection h with h
     injection h with e1 e2
     subst e1 e2
     go_enter Tryz.func56,Tryz.ntmps56
     go_wp2_with fail
     refine (impl_readAmount.good a0 HS.out v HV.out _).mono ?_
     rintro e w' ⟨rfl,hb⟩
     have HB:=ζa hb
     clear hb
     go_wp2_with fail
     refine (impl_isAmount.calls v τ _ HA.out).mono ?_
     rintro e w2 ⟨rfl,⟨m,rfl⟩⟩
     go_wp2_with fail
     refine (impl_amountText.calls v t _ (HT.out.below (δi HB.out m)) HI.out).mono ?_
     rintro e w3 ⟨rfl,hb3⟩
     have HB3:=ζa (δr (δi HB.out m) hb3)
     clear hb3
     go_wp2
     go_ret2
     exact ⟨rfl,HB3.out⟩
    ·
     rw [if_neg ht] at h
     have htb:(t.toList == a0.toList)=φ:=beq_eq_false_iff_ne.2 ht
     clear ht
     injection h with h
     injection h with e1 e2
     subst e1 e2
     go_enter Tryz.func56,Tryz.ntmps56
     go_wp2_with fail
     refine (impl_readAmount.good a0 HS.out v HV.out _).mono ?_
     rintro e w' ⟨rfl,hb⟩
     have HB:=ζa hb
     clear hb
     go_wp2_with fail
     refine (impl_isAmount.calls v τ _ HA.out).mono ?_
     rintro e w2 ⟨rfl,⟨m,rfl⟩⟩
     go_wp2_with fail
     refine (impl_amountText.calls v t _ (HT.out.below (δi HB.out m)) HI.out).mono ?_
     rintro e w3 ⟨rfl,hb3⟩
     have HB3:=ζa (δr (δi HB.out m) hb3)
     clear hb3
     go_wp2
     go_ret2
     exact ⟨rfl,HB3.out⟩
   ·
    have e:(some ((0:Int),φ):Option (Int × Bool))=some (r1,r2):=by
     by_cases h1:0≤v
     · rw [if_pos h1,if_neg (fun h2=>h0 ⟨h1,h2⟩)] at h;exact h
     ·
      rw [if_neg h1] at h;exact h
    clear h
    injection e with h
    injection h with e1 e2
    subst e1 e2
    have HA:Aside0 (impl_isAmount.f v=some φ):=⟨by
     unfold impl_isAmount.f impl_within.f
     by_cases h1:0≤v
     · rw [if_pos h1,decide_eq_false (fun h2=>h0 ⟨h1,h2⟩)];rfl
     ·
      rw [if_neg h1];rfl⟩
    clear h0
    go_enter Tryz.func56,Tryz.ntmps56
    go_wp2_with fail
    refine (impl_readAmount.good a0 HS.out v HV.out _).mono ?_
    rintro e w' ⟨rfl,hb⟩
    have HB:=ζa hb
    clear hb
    go_wp2_with fail
    refine (impl_isAmount.calls v φ _ HA.out).mono ?_
    rintro e w2 ⟨rfl,⟨m,rfl⟩⟩
    go_wp2
    go_ret2
    exact ⟨rfl,δi HB.out m⟩
  ·
   have hn : ∀ v,Lib.atoiAll a0.data.toList ≠ .ok v:=fun v hv=>hg ⟨v,hv⟩
   have e:(some ((0:Int),φ):Option (Int × Bool))=some (r1,r2):=by
    cases hh:Lib.atoiAll a0.data.toList with
    | ok v=>exact absurd hh (hn v)
    | range=>rw [hh] at h;exact h
    | _ => rw [hh] at h;exact h
   clear h
   injection e with h
   injection h with e1 e2
   subst e1 e2
   have HN:=ζa (impl_readAmount.bad a0 hs hn w hT0)
   clear hs hn hg hT0
   go_enter Tryz.func56,Tryz.ntmps56
   go_wp2_with fail
   refine HN.out.mono ?_
   rintro e w' ⟨n,te,N,rfl,hb⟩
   have HB:=ζa hb
   clear hb
   go_wp2
   go_ret2
   exact ⟨rfl,HB.out⟩
 · rw [if_neg hs] at h;cases h


set_option maxHeartbeats 8000000
set_option maxRecDepth 100000

/-! ### impl_isSome: function 61 -/
def impl_isSome.f (a0:Int):Option (Bool):=(impl_within.f a0 1 1000000000000000000).bind fun t277=>(some t277)
theorem impl_isSome.calls (a0:Int) (r:Bool) (w:World) (h:impl_isSome.f a0=some r) :
  Calls Tryz.prog 61 #[.int .i64 a0] w fun e w'=>e = .returned (.bool r)∧Drawn0 w w':=by
 have H:((impl_within.f a0 1 1000000000000000000).bind fun t277=>(some t277))=some r:=h
 clear h
 obtain ⟨t277,A2,H⟩:=bsm H
 obtain rfl:=Option.some.inj H
 go_enter Tryz.func61,Tryz.ntmps61
 go_wp2_with (((with_reducible refine δv (f:=81) rfl ?_);refine gl 4 Tryz.func81 #[.int .i64 a0,.int .i64 1,.int .i64 1000000000000000000] ?_;(with_reducible refine (impl_within.calls a0 1 1000000000000000000 t277 _ A2.out).mono ?_);rintro e w' ⟨rfl,⟨nd,rfl⟩⟩;refine ⟨_,rfl,?_⟩))
 go_ret
 exact ⟨by rfl,by repeat (first|exact Drawn0.refl _|apply Drawn0.step)⟩


set_option maxHeartbeats 8000000
set_option maxRecDepth 100000

/-! ### impl_NameOK: function 121 -/
def impl_NameOK.l0:Nat→ByteArray→Int→Int→Option (Bool)
 | 0,_,_,_=>none
 | k+1,x0,x7,x8=>if x8<x7 then (if 0≤x8 then (if x8<(x0.size:Int) then (if (bt x0 x8) ≥ 97 then (if (bt x0 x8)≤122 then (impl_NameOK.l0 k x0 x7 (ζm (x8+1))) else (if (bt x0 x8) ≥ 65 then (if (bt x0 x8)≤90 then (impl_NameOK.l0 k x0 x7 (ζm (x8+1))) else (if ((bt x0 x8)=95) then (impl_NameOK.l0 k x0 x7 (ζm (x8+1))) else (if x8=0 then (some φ) else (if (bt x0 x8)<48 then (some φ) else (if (bt x0 x8) > 57 then (some φ) else (impl_NameOK.l0 k x0 x7 (ζm (x8+1)))))))) else (if ((bt x0 x8)=95) then (impl_NameOK.l0 k x0 x7 (ζm (x8+1))) else (if x8=0 then (some φ) else (if (bt x0 x8)<48 then (some φ) else (if (bt x0 x8) > 57 then (some φ) else (impl_NameOK.l0 k x0 x7 (ζm (x8+1))))))))) else (if (bt x0 x8) ≥ 65 then (if (bt x0 x8)≤90 then (impl_NameOK.l0 k x0 x7 (ζm (x8+1))) else (if ((bt x0 x8)=95) then (impl_NameOK.l0 k x0 x7 (ζm (x8+1))) else (if x8=0 then (some φ) else (if (bt x0 x8)<48 then (some φ) else (if (bt x0 x8) > 57 then (some φ) else (impl_NameOK.l0 k x0 x7 (ζm (x8+1)))))))) else (if ((bt x0 x8)=95) then (impl_NameOK.l0 k x0 x7 (ζm (x8+1))) else (if x8=0 then (some φ) else (if (bt x0 x8)<48 then (some φ) else (if (bt x0 x8) > 57 then (some φ) else (impl_NameOK.l0 k x0 x7 (ζm (x8+1))))))))) else (none)) else (none)) else ((impl_within.f (x0.size:Int) 1 40).bind fun t278=>(some t278))
def impl_NameOK.f (k:Nat) (a0:ByteArray):Option (Bool):=impl_NameOK.l0 k a0 (a0.size:Int) 0
theorem impl_NameOK.calls (k:Nat) (a0:ByteArray) (r:Bool) (w:World) (h:impl_NameOK.f k a0=some r) :
  Calls Tryz.prog 121 #[.string a0] w fun e w'=>e = .returned (.bool r)∧Drawn0 w w':=by
 have H:(impl_NameOK.l0 k a0 (a0.size:Int) 0)=some r:=h
 clear h
 have H':=ζa H
 clear H
 go_enter Tryz.func121,Tryz.ntmps121
 go_wp2
 go_loopg [8] k (fun kq v8 w' => ∃ (x8_1:Int),v8 = .int .i64 x8_1∧Aside0 (impl_NameOK.l0 kq a0 (a0.size:Int) x8_1=some r)∧Aside0 (kq≤k)∧Drawn0 w w')
 case atStart=>exact ⟨(0),(by rfl),H',⟨Nat.le_refl _⟩,by repeat (exact Drawn0.refl _)⟩
 case round =>
  clear H'
  try clear c1
  obtain ⟨x8_1,rfl,HA,HK1,⟨m1,rfl⟩⟩:=hrel
  cases gk with
  | zero=>exact absurd HA.out (by simp [impl_NameOK.l0])
  | succ k1 =>
   have H:=HA.out
   clear HA
   simp only [impl_NameOK.l0] at H
   by_cases c2:x8_1<(a0.size:Int)
   ·
    rw [if_pos c2] at H
    have c2b0:=decide_eq_true c2
    clear c2
    by_cases c3:0≤x8_1
    ·
     rw [if_pos c3] at H
     have c3b0:=decide_eq_true c3
     clear c3
     by_cases c4:x8_1<(a0.size:Int)
     ·
      rw [if_pos c4] at H
      have c4b0:=decide_eq_true c4
      clear c4
      by_cases c6:(bt a0 x8_1) ≥ 97
      ·
       rw [if_pos c6] at H
       have c6b0:decide (97≤(bt a0 x8_1))=τ:=decide_eq_true c6
       clear c6
       by_cases c7:(bt a0 x8_1)≤122
       ·
        rw [if_pos c7] at H
        have c7b0:=decide_eq_true c7
        clear c7
        have H':=ζa H
        clear H
        have p5:0≤(x8_1:Int):=of_decide_eq_true (by (with_reducible assumption))
        have q5:x8_1<(a0.size:Int):=of_decide_eq_true (by (with_reducible assumption))
        have hx5:=bt_at a0 x8_1
        replace p5:=eq_true p5
        replace q5:=eq_true q5
        go_wp2
        go_roundg k1
        case measure=>have:=HK1.out;omega
        case rel=>exact ⟨(ζm (x8_1+1)),(by rfl),H',⟨by have:=HK1.out;omega⟩,by repeat (first|exact Drawn0.refl _|apply Drawn0.step)⟩
       ·
        rw [if_neg c7] at H
        have c7b0:=decide_eq_false c7
        clear c7
        by_cases c8:(bt a0 x8_1) ≥ 65
        ·
         rw [if_pos c8] at H
         have c8b0:decide (65≤(bt a0 x8_1))=τ:=decide_eq_true c8
         clear c8
         by_cases c9:(bt a0 x8_1)≤90
         ·
          rw [if_pos c9] at H
          have c9b0:=decide_eq_true c9
          clear c9
          have H':=ζa H
          clear H
          have p5:0≤(x8_1:Int):=of_decide_eq_true (by (with_reducible assumption))
          have q5:x8_1<(a0.size:Int):=of_decide_eq_true (by (with_reducible assumption))
          have hx5:=bt_at a0 x8_1
          replace p5:=eq_true p5
          replace q5:=eq_true q5
          go_wp2
          go_roundg k1
          case measure=>have:=HK1.out;omega
          case rel=>exact ⟨(ζm (x8_1+1)),(by rfl),H',⟨by have:=HK1.out;omega⟩,by repeat (first|exact Drawn0.refl _|apply Drawn0.step)⟩
         ·
          rw [if_neg c9] at H
          have c9b0:=decide_eq_false c9
          clear c9
          by_cases c10:((bt a0 x8_1)=95)
          ·
           rw [if_pos c10] at H
           have c10b0:=beq_iff_eq.mpr c10
           have c10b1:=bne_eq_false_iff_eq.mpr c10
           clear c10
           have H':=ζa H
           clear H
           have p5:0≤(x8_1:Int):=of_decide_eq_true (by (with_reducible assumption))
           have q5:x8_1<(a0.size:Int):=of_decide_eq_true (by (with_reducible assumption))
           have hx5:=bt_at a0 x8_1
           replace p5:=eq_true p5
           replace q5:=eq_true q5
           go_wp2
           go_roundg k1
           case measure=>have:=HK1.out;omega
           case rel=>exact ⟨(ζm (x8_1+1)),(by rfl),H',⟨by have:=HK1.out;omega⟩,by repeat (first|exact Drawn0.refl _|apply Drawn0.step)⟩
          ·
           rw [if_neg c10] at H
           have c10b0:=beq_eq_false_iff_ne.mpr c10
           have c10b1:=bne_iff_ne.mpr c10
           by_cases c11:x8_1=0
           ·
            rw [if_pos c11] at H
            have c11b0:=beq_iff_eq.mpr c11
            have c11b1:=bne_eq_false_iff_eq.mpr c11
            clear c11
            obtain rfl:=Option.some.inj H
            have p5:0≤(x8_1:Int):=of_decide_eq_true (by (with_reducible assumption))
            have q5:x8_1<(a0.size:Int):=of_decide_eq_true (by (with_reducible assumption))
            have hx5:=bt_at a0 x8_1
            replace p5:=eq_true p5
            replace q5:=eq_true q5
            go_wp2
            go_ret
            exact ⟨by rfl,by repeat (first|exact Drawn0.refl _|apply Drawn0.step)⟩
           ·
            rw [if_neg c11] at H
            have c11b0:=beq_eq_false_iff_ne.mpr c11
            have c11b1:=bne_iff_ne.mpr c11
            by_cases c12:(bt a0 x8_1)<48
            ·
             rw [if_pos c12] at H
             have c12b0:=decide_eq_true c12
             clear c12
             obtain rfl:=Option.some.inj H
             have p5:0≤(x8_1:Int):=of_decide_eq_true (by (with_reducible assumption))
             have q5:x8_1<(a0.size:Int):=of_decide_eq_true (by (with_reducible assumption))
             have hx5:=bt_at a0 x8_1
             replace p5:=eq_true p5
             replace q5:=eq_true q5
             go_wp2
             go_ret
             exact ⟨by rfl,by repeat (first|exact Drawn0.refl _|apply Drawn0.step)⟩
            ·
             rw [if_neg c12] at H
             have c12b0:=decide_eq_false c12
             clear c12
             by_cases c13:(bt a0 x8_1) > 57
             ·
              rw [if_pos c13] at H
              have c13b0:decide (57<(bt a0 x8_1))=τ:=decide_eq_true c13
              clear c13
              obtain rfl:=Option.some.inj H
              have p5:0≤(x8_1:Int):=of_decide_eq_true (by (with_reducible assumption))
              have q5:x8_1<(a0.size:Int):=of_decide_eq_true (by (with_reducible assumption))
              have hx5:=bt_at a0 x8_1
              replace p5:=eq_true p5
              replace q5:=eq_true q5
              go_wp2
              go_ret
              exact ⟨by rfl,by repeat (first|exact Drawn0.refl _|apply Drawn0.step)⟩
             ·
              rw [if_neg c13] at H
              have c13b0:decide (57<(bt a0 x8_1))=φ:=decide_eq_false c13
              clear c13
              have H':=ζa H
              clear H
              have p5:0≤(x8_1:Int):=of_decide_eq_true (by (with_reducible assumption))
              have q5:x8_1<(a0.size:Int):=of_decide_eq_true (by (with_reducible assumption))
              have hx5:=bt_at a0 x8_1
              replace p5:=eq_true p5
              replace q5:=eq_true q5
              go_wp2
              go_roundg k1
              case measure=>have:=HK1.out;omega
              case rel=>exact ⟨(ζm (x8_1+1)),(by rfl),H',⟨by have:=HK1.out;omega⟩,by repeat (first|exact Drawn0.refl _|apply Drawn0.step)⟩
        ·
         rw [if_neg c8] at H
         have c8b0:decide (65≤(bt a0 x8_1))=φ:=decide_eq_false c8
         clear c8
         by_cases c14:((bt a0 x8_1)=95)
         ·
          rw [if_pos c14] at H
          have c14b0:=beq_iff_eq.mpr c14
          have c14b1:=bne_eq_false_iff_eq.mpr c14
          clear c14
          have H':=ζa H
          clear H
          have p5:0≤(x8_1:Int):=of_decide_eq_true (by (with_reducible assumption))
          have q5:x8_1<(a0.size:Int):=of_decide_eq_true (by (with_reducible assumption))
          have hx5:=bt_at a0 x8_1
          replace p5:=eq_true p5
          replace q5:=eq_true q5
          go_wp2
          go_roundg k1
          case measure=>have:=HK1.out;omega
          case rel=>exact ⟨(ζm (x8_1+1)),(by rfl),H',⟨by have:=HK1.out;omega⟩,by repeat (first|exact Drawn0.refl _|apply Drawn0.step)⟩
         ·
          rw [if_neg c14] at H
          have c14b0:=beq_eq_false_iff_ne.mpr c14
          have c14b1:=bne_iff_ne.mpr c14
          by_cases c15:x8_1=0
          ·
           rw [if_pos c15] at H
           have c15b0:=beq_iff_eq.mpr c15
           have c15b1:=bne_eq_false_iff_eq.mpr c15
           clear c15
           obtain rfl:=Option.some.inj H
           have p5:0≤(x8_1:Int):=of_decide_eq_true (by (with_reducible assumption))
           have q5:x8_1<(a0.size:Int):=of_decide_eq_true (by (with_reducible assumption))
           have hx5:=bt_at a0 x8_1
           replace p5:=eq_true p5
           replace q5:=eq_true q5
           go_wp2
           go_ret
           exact ⟨by rfl,by repeat (first|exact Drawn0.refl _|apply Drawn0.step)⟩
          ·
           rw [if_neg c15] at H
           have c15b0:=beq_eq_false_iff_ne.mpr c15
           have c15b1:=bne_iff_ne.mpr c15
           by_cases c16:(bt a0 x8_1)<48
           ·
            rw [if_pos c16] at H
            have c16b0:=decide_eq_true c16
            clear c16
            obtain rfl:=Option.some.inj H
            have p5:0≤(x8_1:Int):=of_decide_eq_true (by (with_reducible assumption))
            have q5:x8_1<(a0.size:Int):=of_decide_eq_true (by (with_reducible assumption))
            have hx5:=bt_at a0 x8_1
            replace p5:=eq_true p5
            replace q5:=eq_true q5
            go_wp2
            go_ret
            exact ⟨by rfl,by repeat (first|exact Drawn0.refl _|apply Drawn0.step)⟩
           ·
            rw [if_neg c16] at H
            have c16b0:=decide_eq_false c16
            clear c16
            by_cases c17:(bt a0 x8_1) > 57
            ·
             rw [if_pos c17] at H
             have c17b0:decide (57<(bt a0 x8_1))=τ:=decide_eq_true c17
             clear c17
             obtain rfl:=Option.some.inj H
             have p5:0≤(x8_1:Int):=of_decide_eq_true (by (with_reducible assumption))
             have q5:x8_1<(a0.size:Int):=of_decide_eq_true (by (with_reducible assumption))
             have hx5:=bt_at a0 x8_1
             replace p5:=eq_true p5
             replace q5:=eq_true q5
             go_wp2
             go_ret
             exact ⟨by rfl,by repeat (first|exact Drawn0.refl _|apply Drawn0.step)⟩
            ·
             rw [if_neg c17] at H
             have c17b0:decide (57<(bt a0 x8_1))=φ:=decide_eq_false c17
             clear c17
             have H':=ζa H
             clear H
             have p5:0≤(x8_1:Int):=of_decide_eq_true (by (with_reducible assumption))
             have q5:x8_1<(a0.size:Int):=of_decide_eq_true (by (with_reducible assumption))
             have hx5:=bt_at a0 x8_1
             replace p5:=eq_true p5
             replace q5:=eq_true q5
             go_wp2
             go_roundg k1
             case measure=>have:=HK1.out;omega
             case rel=>exact ⟨(ζm (x8_1+1)),(by rfl),H',⟨by have:=HK1.out;omega⟩,by repeat (first|exact Drawn0.refl _|apply Drawn0.step)⟩
      ·
       rw [if_neg c6] at H
       have c6b0:decide (97≤(bt a0 x8_1))=φ:=decide_eq_false c6
       clear c6
       by_cases c18:(bt a0 x8_1) ≥ 65
       ·
        rw [if_pos c18] at H
        have c18b0:decide (65≤(bt a0 x8_1))=τ:=decide_eq_true c18
        clear c18
        by_cases c19:(bt a0 x8_1)≤90
        ·
         rw [if_pos c19] at H
         have c19b0:=decide_eq_true c19
         clear c19
         have H':=ζa H
         clear H
         have p5:0≤(x8_1:Int):=of_decide_eq_true (by (with_reducible assumption))
         have q5:x8_1<(a0.size:Int):=of_decide_eq_true (by (with_reducible assumption))
         have hx5:=bt_at a0 x8_1
         replace p5:=eq_true p5
         replace q5:=eq_true q5
         go_wp2
         go_roundg k1
         case measure=>have:=HK1.out;omega
         case rel=>exact ⟨(ζm (x8_1+1)),(by rfl),H',⟨by have:=HK1.out;omega⟩,by repeat (first|exact Drawn0.refl _|apply Drawn0.step)⟩
        ·
         rw [if_neg c19] at H
         have c19b0:=decide_eq_false c19
         clear c19
         by_cases c20:((bt a0 x8_1)=95)
         ·
          rw [if_pos c20] at H
          have c20b0:=beq_iff_eq.mpr c20
          have c20b1:=bne_eq_false_iff_eq.mpr c20
          clear c20
          have H':=ζa H
          clear H
          have p5:0≤(x8_1:Int):=of_decide_eq_true (by (with_reducible assumption))
          have q5:x8_1<(a0.size:Int):=of_decide_eq_true (by (with_reducible assumption))
          have hx5:=bt_at a0 x8_1
          replace p5:=eq_true p5
          replace q5:=eq_true q5
          go_wp2
          go_roundg k1
          case measure=>have:=HK1.out;omega
          case rel=>exact ⟨(ζm (x8_1+1)),(by rfl),H',⟨by have:=HK1.out;omega⟩,by repeat (first|exact Drawn0.refl _|apply Drawn0.step)⟩
         ·
          rw [if_neg c20] at H
          have c20b0:=beq_eq_false_iff_ne.mpr c20
          have c20b1:=bne_iff_ne.mpr c20
          by_cases c21:x8_1=0
          ·
           rw [if_pos c21] at H
           have c21b0:=beq_iff_eq.mpr c21
           have c21b1:=bne_eq_false_iff_eq.mpr c21
           clear c21
           obtain rfl:=Option.some.inj H
           have p5:0≤(x8_1:Int):=of_decide_eq_true (by (with_reducible assumption))
           have q5:x8_1<(a0.size:Int):=of_decide_eq_true (by (with_reducible assumption))
           have hx5:=bt_at a0 x8_1
           replace p5:=eq_true p5
           replace q5:=eq_true q5
           go_wp2
           go_ret
           exact ⟨by rfl,by repeat (first|exact Drawn0.refl _|apply Drawn0.step)⟩
          ·
           rw [if_neg c21] at H
           have c21b0:=beq_eq_false_iff_ne.mpr c21
           have c21b1:=bne_iff_ne.mpr c21
           by_cases c22:(bt a0 x8_1)<48
           ·
            rw [if_pos c22] at H
            have c22b0:=decide_eq_true c22
            clear c22
            obtain rfl:=Option.some.inj H
            have p5:0≤(x8_1:Int):=of_decide_eq_true (by (with_reducible assumption))
            have q5:x8_1<(a0.size:Int):=of_decide_eq_true (by (with_reducible assumption))
            have hx5:=bt_at a0 x8_1
            replace p5:=eq_true p5
            replace q5:=eq_true q5
            go_wp2
            go_ret
            exact ⟨by rfl,by repeat (first|exact Drawn0.refl _|apply Drawn0.step)⟩
           ·
            rw [if_neg c22] at H
            have c22b0:=decide_eq_false c22
            clear c22
            by_cases c23:(bt a0 x8_1) > 57
            ·
             rw [if_pos c23] at H
             have c23b0:decide (57<(bt a0 x8_1))=τ:=decide_eq_true c23
             clear c23
             obtain rfl:=Option.some.inj H
             have p5:0≤(x8_1:Int):=of_decide_eq_true (by (with_reducible assumption))
             have q5:x8_1<(a0.size:Int):=of_decide_eq_true (by (with_reducible assumption))
             have hx5:=bt_at a0 x8_1
             replace p5:=eq_true p5
             replace q5:=eq_true q5
             go_wp2
             go_ret
             exact ⟨by rfl,by repeat (first|exact Drawn0.refl _|apply Drawn0.step)⟩
            ·
             rw [if_neg c23] at H
             have c23b0:decide (57<(bt a0 x8_1))=φ:=decide_eq_false c23
             clear c23
             have H':=ζa H
             clear H
             have p5:0≤(x8_1:Int):=of_decide_eq_true (by (with_reducible assumption))
             have q5:x8_1<(a0.size:Int):=of_decide_eq_true (by (with_reducible assumption))
             have hx5:=bt_at a0 x8_1
             replace p5:=eq_true p5
             replace q5:=eq_true q5
             go_wp2
             go_roundg k1
             case measure=>have:=HK1.out;omega
             case rel=>exact ⟨(ζm (x8_1+1)),(by rfl),H',⟨by have:=HK1.out;omega⟩,by repeat (first|exact Drawn0.refl _|apply Drawn0.step)⟩
       ·
        rw [if_neg c18] at H
        have c18b0:decide (65≤(bt a0 x8_1))=φ:=decide_eq_false c18
        clear c18
        by_cases c24:((bt a0 x8_1)=95)
        ·
         rw [if_pos c24] at H
         have c24b0:=beq_iff_eq.mpr c24
         have c24b1:=bne_eq_false_iff_eq.mpr c24
         clear c24
         have H':=ζa H
         clear H
         have p5:0≤(x8_1:Int):=of_decide_eq_true (by (with_reducible assumption))
         have q5:x8_1<(a0.size:Int):=of_decide_eq_true (by (with_reducible assumption))
         have hx5:=bt_at a0 x8_1
         replace p5:=eq_true p5
         replace q5:=eq_true q5
         go_wp2
         go_roundg k1
         case measure=>have:=HK1.out;omega
         case rel=>exact ⟨(ζm (x8_1+1)),(by rfl),H',⟨by have:=HK1.out;omega⟩,by repeat (first|exact Drawn0.refl _|apply Drawn0.step)⟩
        ·
         rw [if_neg c24] at H
         have c24b0:=beq_eq_false_iff_ne.mpr c24
         have c24b1:=bne_iff_ne.mpr c24
         by_cases c25:x8_1=0
         ·
          rw [if_pos c25] at H
          have c25b0:=beq_iff_eq.mpr c25
          have c25b1:=bne_eq_false_iff_eq.mpr c25
          clear c25
          obtain rfl:=Option.some.inj H
          have p5:0≤(x8_1:Int):=of_decide_eq_true (by (with_reducible assumption))
          have q5:x8_1<(a0.size:Int):=of_decide_eq_true (by (with_reducible assumption))
          have hx5:=bt_at a0 x8_1
          replace p5:=eq_true p5
          replace q5:=eq_true q5
          go_wp2
          go_ret
          exact ⟨by rfl,by repeat (first|exact Drawn0.refl _|apply Drawn0.step)⟩
         ·
          rw [if_neg c25] at H
          have c25b0:=beq_eq_false_iff_ne.mpr c25
          have c25b1:=bne_iff_ne.mpr c25
          by_cases c26:(bt a0 x8_1)<48
          ·
           rw [if_pos c26] at H
           have c26b0:=decide_eq_true c26
           clear c26
           obtain rfl:=Option.some.inj H
           have p5:0≤(x8_1:Int):=of_decide_eq_true (by (with_reducible assumption))
           have q5:x8_1<(a0.size:Int):=of_decide_eq_true (by (with_reducible assumption))
           have hx5:=bt_at a0 x8_1
           replace p5:=eq_true p5
           replace q5:=eq_true q5
           go_wp2
           go_ret
           exact ⟨by rfl,by repeat (first|exact Drawn0.refl _|apply Drawn0.step)⟩
          ·
           rw [if_neg c26] at H
           have c26b0:=decide_eq_false c26
           clear c26
           by_cases c27:(bt a0 x8_1) > 57
           ·
            rw [if_pos c27] at H
            have c27b0:decide (57<(bt a0 x8_1))=τ:=decide_eq_true c27
            clear c27
            obtain rfl:=Option.some.inj H
            have p5:0≤(x8_1:Int):=of_decide_eq_true (by (with_reducible assumption))
            have q5:x8_1<(a0.size:Int):=of_decide_eq_true (by (with_reducible assumption))
            have hx5:=bt_at a0 x8_1
            replace p5:=eq_true p5
            replace q5:=eq_true q5
            go_wp2
            go_ret
            exact ⟨by rfl,by repeat (first|exact Drawn0.refl _|apply Drawn0.step)⟩
           ·
            rw [if_neg c27] at H
            have c27b0:decide (57<(bt a0 x8_1))=φ:=decide_eq_false c27
            clear c27
            have H':=ζa H
            clear H
            have p5:0≤(x8_1:Int):=of_decide_eq_true (by (with_reducible assumption))
            have q5:x8_1<(a0.size:Int):=of_decide_eq_true (by (with_reducible assumption))
            have hx5:=bt_at a0 x8_1
            replace p5:=eq_true p5
            replace q5:=eq_true q5
            go_wp2
            go_roundg k1
            case measure=>have:=HK1.out;omega
            case rel=>exact ⟨(ζm (x8_1+1)),(by rfl),H',⟨by have:=HK1.out;omega⟩,by repeat (first|exact Drawn0.refl _|apply Drawn0.step)⟩
     ·
      rw [if_neg c4] at H
      exact absurd H (by simp)
    ·
     rw [if_neg c3] at H
     exact absurd H (by simp)
   ·
    rw [if_neg c2] at H
    have c2b0:=decide_eq_false c2
    clear c2
    obtain ⟨t278,A28,H⟩:=bsm H
    obtain rfl:=Option.some.inj H
    go_wp2_with (((with_reducible refine δv (f:=81) rfl ?_);refine gl 49 Tryz.func81 #[.int .i64 (a0.size:Int),.int .i64 1,.int .i64 40] ?_;(with_reducible refine (impl_within.calls (a0.size:Int) 1 40 t278 _ A28.out).mono ?_);rintro e w' ⟨rfl,⟨nd,rfl⟩⟩;refine ⟨_,rfl,?_⟩))
    go_ret
    exact ⟨by rfl,by repeat (first|exact Drawn0.refl _|apply Drawn0.step)⟩


set_option maxHeartbeats 8000000
set_option maxRecDepth 100000

/-! ### impl_DenomOK: function 104 -/
def impl_DenomOK.f (k:Nat) (a0:ByteArray):Option (Bool):=(impl_NameOK.f k a0).bind fun t279=>(if t279=τ then (some (decide ((a0.size:Int)≤12))) else (some φ))
theorem impl_DenomOK.calls (k:Nat) (a0:ByteArray) (r:Bool) (w:World) (h:impl_DenomOK.f k a0=some r) :
  Calls Tryz.prog 104 #[.string a0] w fun e w'=>e = .returned (.bool r)∧Drawn0 w w':=by
 have H:((impl_NameOK.f k a0).bind fun t279=>(if t279=τ then (some (decide ((a0.size:Int)≤12))) else (some φ)))=some r:=h
 clear h
 obtain ⟨t279,A2,H⟩:=bsm H
 by_cases c3:t279=τ
 ·
  subst c3
  rw [ifT] at H
  obtain rfl:=Option.some.inj H
  go_enter Tryz.func104,Tryz.ntmps104
  go_wp2_with (((with_reducible refine δv (f:=121) rfl ?_);refine gl 4 Tryz.func121 #[.string a0] ?_;(with_reducible refine (impl_NameOK.calls k a0 τ _ A2.out).mono ?_);rintro e w' ⟨rfl,⟨nd,rfl⟩⟩;refine ⟨_,rfl,?_⟩))
  go_ret
  exact ⟨by rfl,by repeat (first|exact Drawn0.refl _|apply Drawn0.step)⟩
 ·
  replace c3:=Bool.eq_false_iff.mpr c3
  subst c3
  rw [ifF] at H
  obtain rfl:=Option.some.inj H
  go_enter Tryz.func104,Tryz.ntmps104
  go_wp2_with (((with_reducible refine δv (f:=121) rfl ?_);refine gl 4 Tryz.func121 #[.string a0] ?_;(with_reducible refine (impl_NameOK.calls k a0 φ _ A2.out).mono ?_);rintro e w' ⟨rfl,⟨nd,rfl⟩⟩;refine ⟨_,rfl,?_⟩))
  go_ret
  exact ⟨by rfl,by repeat (first|exact Drawn0.refl _|apply Drawn0.step)⟩


set_option maxHeartbeats 8000000
set_option maxRecDepth 100000

/-! ### impl_areNames: function 86 -/
def impl_areNames.l0:Nat→List ByteArray→Int→Int→Option (Bool)
 | 0,_,_,_=>none
 | k+1,x5,x6,x7=>if x7<x6 then (if 0≤x7 then (if x7<(x5.length:Int) then ((impl_DenomOK.f k (rdOf ByteArray.empty x5 x7)).bind fun t281=>(if t281=τ then (impl_areNames.l0 k x5 x6 (ζm (x7+1))) else (some φ))) else (none)) else (none)) else (some τ)
def impl_areNames.f (k:Nat) (l0:List ByteArray):Option (Bool):=impl_areNames.l0 k l0 (l0.length:Int) 0
theorem impl_areNames.calls (k:Nat) (A0:Option Addr) (c0:Nat) (l0:List ByteArray) (r:Bool) (w:World) (hr0:Kd.C Kd.string w A0 l0.length l0) (hc0:l0.length≤c0) (h:impl_areNames.f k l0=some r) :
  Calls Tryz.prog 86 #[.slice A0 l0.length c0] w fun e w'=>e = .returned (.bool r)∧Drawn0 w w':=by
 have HR0:=ζa hr0
 have HC0:=ζa hc0
 clear hr0 hc0
 have H:(impl_areNames.l0 k l0 (l0.length:Int) 0)=some r:=h
 clear h
 have H':=ζa H
 clear H
 go_enter Tryz.func86,Tryz.ntmps86
 go_wp2
 go_loopg [7] k (fun kq v7 w' => ∃ (x7_1:Int),v7 = .int .i64 x7_1∧Aside0 (impl_areNames.l0 kq l0 (l0.length:Int) x7_1=some r)∧Aside0 (kq≤k)∧Drawn0 w w')
 case atStart=>exact ⟨(0),(by rfl),H',⟨Nat.le_refl _⟩,by repeat (exact Drawn0.refl _)⟩
 case round =>
  clear H'
  obtain ⟨x7_1,rfl,HA,HK1,⟨m1,rfl⟩⟩:=hrel
  cases gk with
  | zero=>exact absurd HA.out (by simp [impl_areNames.l0])
  | succ k1 =>
   have H:=HA.out
   clear HA
   simp only [impl_areNames.l0] at H
   by_cases c2:x7_1<(l0.length:Int)
   ·
    rw [if_pos c2] at H
    have c2b0:=decide_eq_true c2
    clear c2
    by_cases c3:0≤x7_1
    ·
     rw [if_pos c3] at H
     have c3b0:=decide_eq_true c3
     clear c3
     by_cases c4:x7_1<(l0.length:Int)
     ·
      rw [if_pos c4] at H
      have c4b0:=decide_eq_true c4
      clear c4
      obtain ⟨t281,A5,H⟩:=bsm H
      by_cases c6:t281=τ
      ·
       subst c6
       rw [ifT] at H
       have H':=ζa H
       clear H
       have p280:0≤(x7_1:Int):=of_decide_eq_true (by (with_reducible assumption))
       have q280:x7_1<(l0.length:Int):=of_decide_eq_true (by (with_reducible assumption))
       obtain ⟨ad280,e280,hx280_0⟩:=Kd.at_string HR0.out x7_1 p280 q280
       cases e280
       replace p280:=eq_true p280
       replace q280:=eq_true q280
       go_wp2_with (((with_reducible refine δv (f:=104) rfl ?_);refine gl 12 Tryz.func104 #[.string (rdOf ByteArray.empty l0 x7_1)] ?_;(with_reducible refine (impl_DenomOK.calls k1 (rdOf ByteArray.empty l0 x7_1) τ _ A5.out).mono ?_);rintro e w' ⟨rfl,⟨nd,rfl⟩⟩;refine ⟨_,rfl,?_⟩))
       go_roundg k1
       case measure=>have:=HK1.out;omega
       case rel=>exact ⟨(ζm (x7_1+1)),(by rfl),H',⟨by have:=HK1.out;omega⟩,by repeat (first|exact Drawn0.refl _|apply Drawn0.step)⟩
      ·
       replace c6:=Bool.eq_false_iff.mpr c6
       subst c6
       rw [ifF] at H
       obtain rfl:=Option.some.inj H
       have p280:0≤(x7_1:Int):=of_decide_eq_true (by (with_reducible assumption))
       have q280:x7_1<(l0.length:Int):=of_decide_eq_true (by (with_reducible assumption))
       obtain ⟨ad280,e280,hx280_0⟩:=Kd.at_string HR0.out x7_1 p280 q280
       cases e280
       replace p280:=eq_true p280
       replace q280:=eq_true q280
       go_wp2_with (((with_reducible refine δv (f:=104) rfl ?_);refine gl 12 Tryz.func104 #[.string (rdOf ByteArray.empty l0 x7_1)] ?_;(with_reducible refine (impl_DenomOK.calls k1 (rdOf ByteArray.empty l0 x7_1) φ _ A5.out).mono ?_);rintro e w' ⟨rfl,⟨nd,rfl⟩⟩;refine ⟨_,rfl,?_⟩))
       go_ret
       exact ⟨by rfl,by repeat (first|exact Drawn0.refl _|apply Drawn0.step)⟩
     ·
      rw [if_neg c4] at H
      exact absurd H (by simp)
    ·
     rw [if_neg c3] at H
     exact absurd H (by simp)
   ·
    rw [if_neg c2] at H
    have c2b0:=decide_eq_false c2
    clear c2
    obtain rfl:=Option.some.inj H
    go_wp2
    go_ret
    exact ⟨by rfl,by repeat (first|exact Drawn0.refl _|apply Drawn0.step)⟩


set_option maxHeartbeats 8000000
set_option maxRecDepth 100000


/-! ### impl_isPeople: function 87 -/
def impl_isPeople.bad (t:ByteArray):Bool:=t.toList == ([101,115,99,114,111,119]:List UInt8) || (t.toList == ([111,114,100,101,114,115]:List UInt8) || (t.toList == ([116,97,107,101,115]:List UInt8) || t.toList == ([112,111,111,108]:List UInt8)))
def impl_isPeople.f (k:Nat) (l0:List ByteArray):Option Bool:=(impl_areNames.f k l0).bind fun t=>if t=τ then some (!(l0.any impl_isPeople.bad)) else some φ
theorem impl_isPeople.lit (a0:ByteArray) (w:World) :
  Calls Tryz.prog 105 #[.string a0] w fun e w'=>e = .returned (.bool (impl_isPeople.bad a0))∧Drawn0 w w':=by
 unfold impl_isPeople.bad
 cases h1:(a0.toList == ([101,115,99,114,111,119]:List UInt8)) <;> cases h2:(a0.toList == ([111,114,100,101,114,115]:List UInt8)) <;> cases h3:(a0.toList == ([116,97,107,101,115]:List UInt8)) <;>
 ·
  go_enter Tryz.func105,Tryz.ntmps105
  go_wp2
  go_ret
  exact ⟨by rfl,by repeat (exact Drawn0.refl _)⟩
theorem impl_isPeople.calls (k:Nat) (A0:Option Addr) (c0:Nat) (l0:List ByteArray) (r:Bool) (w:World) (hr0:Kd.C Kd.string w A0 l0.length l0) (hc0:l0.length≤c0) (h:impl_isPeople.f k l0=some r) :
  Calls Tryz.prog 87 #[.slice A0 l0.length c0] w fun e w'=>e = .returned (.bool r)∧Drawn0 w w':=by
 obtain ⟨t,ht,h⟩:=Option.bind_eq_some_iff.mp h
 have HA:=ζa ht
 clear ht
 cases t with
 | true =>
  rw [if_pos rfl] at h
  obtain rfl:=Option.some.inj h
  go_enter Tryz.func87,Tryz.ntmps87
  go_wp2_with (first
   | (go_at_call 86;refine (impl_areNames.calls k A0 c0 l0 _ _ hr0 hc0 HA.out).mono ?_;rintro e w' ⟨rfl,⟨q',rfl⟩⟩)
   | (go_at_call 51;refine (slices_ContainsFunc_string_string.at_ 105 (enters_of Tryz.func105 (by kernel_rfl) rfl) _ impl_isPeople.lit A0 c0 l0 _ (by exact Kd.C_drewN hr0 _)).mono ?_;rintro e w' ⟨rfl,⟨q',rfl⟩⟩))
  go_ret
  exact ⟨rfl,by repeat (first|exact Drawn0.refl _|apply Drawn0.step)⟩
 | false =>
  rw [if_neg (by decide)] at h
  obtain rfl:=Option.some.inj h
  go_enter Tryz.func87,Tryz.ntmps87
  go_wp2_with (first
   | (go_at_call 86;refine (impl_areNames.calls k A0 c0 l0 _ _ hr0 hc0 HA.out).mono ?_;rintro e w' ⟨rfl,⟨q',rfl⟩⟩))
  go_ret
  exact ⟨rfl,by repeat (first|exact Drawn0.refl _|apply Drawn0.step)⟩


open Go.Proofs.YtjhhehjjnfnigaaGreatDoorW.PrintWords renaming gate_dst → δx, below_step → δr, blk_cell → δl, blk_frozen → δm, below_size → δs, gate_callee → δv, pw_below_drewN → δi, blk_drewN → δn
open Go.Proofs.YtjhhehjjnfnigaaGreatDoorW.PrintWords.Kd renaming R_reads' → ζg, R_drewN → ζc
set_option maxHeartbeats 8000000
set_option maxRecDepth 100000

/-! ### impl_take_isRight: function 57 -/
def impl_take_isRight.f (k:Nat) (a0_0:ByteArray) (a0_1:ByteArray) (a0_2:ByteArray) (a0_3:Int):Option (Bool):=(impl_areNames.f k (([a0_0]:List ByteArray))).bind fun t286=>(if t286=τ then ((impl_isPeople.f k (([a0_1,a0_2]:List ByteArray))).bind fun t290=>(if t290=τ then ((impl_isSome.f a0_3).bind fun t291=>(some t291)) else (some φ))) else (some φ))
theorem impl_take_isRight.calls (k:Nat) (a0_0:ByteArray) (a0_1:ByteArray) (a0_2:ByteArray) (a0_3:Int) (r:Bool) (w:World) (h:impl_take_isRight.f k a0_0 a0_1 a0_2 a0_3=some r) :
  Calls Tryz.prog 57 #[.agg #[.string a0_0,.string a0_1,.string a0_2,.int .i64 a0_3]] w fun e w'=>e = .returned (.bool r)∧Below w.heap.size w w':=by
 have hu60:=Tryz.underlying60
 have HB:=ζa (Below.refl w.heap.size w)
 have H:((impl_areNames.f k (([a0_0]:List ByteArray))).bind fun t286=>(if t286=τ then ((impl_isPeople.f k (([a0_1,a0_2]:List ByteArray))).bind fun t290=>(if t290=τ then ((impl_isSome.f a0_3).bind fun t291=>(some t291)) else (some φ))) else (some φ)))=some r:=h
 clear h
 obtain ⟨y283,hy283⟩ : ∃ y_:List ByteArray,y_=(([a0_0]:List ByteArray)):=⟨_,rfl⟩
 replace H:((impl_areNames.f k y283).bind fun t286=>(if t286=τ then ((impl_isPeople.f k (([a0_1,a0_2]:List ByteArray))).bind fun t290=>(if t290=τ then ((impl_isSome.f a0_3).bind fun t291=>(some t291)) else (some φ))) else (some φ)))=some r:=by (rw [hy283];with_reducible exact H)
 have Ny283:=ζa hy283
 clear hy283
 obtain ⟨t286,A2,H⟩:=bsm H
 by_cases c3:t286=τ
 ·
  subst c3
  rw [ifT] at H
  obtain ⟨y287,hy287⟩ : ∃ y_:List ByteArray,y_=(([a0_1,a0_2]:List ByteArray)):=⟨_,rfl⟩
  replace H:((impl_isPeople.f k y287).bind fun t290=>(if t290=τ then ((impl_isSome.f a0_3).bind fun t291=>(some t291)) else (some φ)))=some r:=by (rw [hy287];with_reducible exact H)
  have Ny287:=ζa hy287
  clear hy287
  obtain ⟨t290,A4,H⟩:=bsm H
  by_cases c5:t290=τ
  ·
   subst c5
   rw [ifT] at H
   obtain ⟨t291,A6,H⟩:=bsm H
   obtain rfl:=Option.some.inj H
   go_enter Tryz.func57,Tryz.ntmps57
   go_wp2_with (first|((with_reducible refine δx (N:=1) rfl ?_);(try (refine gate_guard (by rfl) ?_;dsimp only));refine bev 1 #[.string a0_0,.string a0_1,.string a0_2,.int .i64 a0_3] 60 ?_;intro gb282 hg w7 hbox hb;have BK282:=ζa (hbox);have GW282:=ζa (gbw hg (by exact HB.out));have GE282:=ζa (gbw hg (by exact HB.out));replace HB:=ζa (δr (by exact HB.out) hb);clear hb hbox hg;have hcz8_0:w7.cell? ⟨gb282,0,none⟩=some (.string a0_0):=(δl BK282.out 0).trans rfl;have hcz8_1:w7.cell? ⟨gb282,1,none⟩=some (.string a0_1):=(δl BK282.out 1).trans rfl;have hcz8_2:w7.cell? ⟨gb282,2,none⟩=some (.string a0_2):=(δl BK282.out 2).trans rfl;have hcz8_3:w7.cell? ⟨gb282,3,none⟩=some (.int .i64 a0_3):=(δl BK282.out 3).trans rfl;have hfz8_0:=δm BK282.out 0;have hfz8_1:=δm BK282.out 1;have hfz8_2:=δm BK282.out 2;have hfz8_3:=δm BK282.out 3)|((with_reducible refine δx (N:=5) rfl ?_);(try (refine gate_guard (by rfl) ?_;dsimp only));refine Kd.R_lit Kd.string _ 9 ?hg (N:=5) ?hd (xs:=([a0_0]:List ByteArray)) (inner:=[.string a0_0]) (ok:=fun _=>True) (okp:=fun _=>True) ?hr ?hp (fun _ hk=>hk) trivial (Below.refl _ _) (Nat.le_refl _) (by simp) ?_;(case hd=>rfl);(case hg=>rfl);(case hr=>(go_simp;done));(case hp=>exact (Reps.one (show Kd.M Kd.string _ _ _ a0_0 [.string a0_0] from rfl) (Reps.none _ _)));intro v284 w9 ho10 hb hg_ hnew_;clear hg_ hnew_;(rw [← Ny283.out] at ho10);have HO285:=ζa (Kd.R_lower ho10 (δs (by exact HB.out)));replace BK282:=ζa (blk_below (g:=gb282) (o:=.cells #[.string a0_0,.string a0_1,.string a0_2,.int .i64 a0_3] 60 (0,0)) (by exact BK282.out) hb);replace HB:=ζa (δr (by exact HB.out) hb);clear hb ho10;obtain ⟨Ao11,co11,eo11⟩:=Kd.R_slice HO285.out;subst eo11)|((with_reducible refine δv (f:=86) rfl ?_);refine gl 6 Tryz.func86 #[.slice Ao11 y283.length co11] ?_;(with_reducible refine (impl_areNames.calls k _ _ y283 τ _ ?side1 ?side2 A2.out).mono ?_);(case side1=>repeat (exact (ζg HO285.out).2.2));(case side2=>exact (ζg HO285.out).2.1);rintro e w' ⟨rfl,⟨nd,rfl⟩⟩;refine ⟨_,rfl,?_⟩;have hcz12_0:w9.cell? ⟨gb282,0,none⟩=some (.string a0_0):=(δl BK282.out 0).trans rfl;have hcz12_1:w9.cell? ⟨gb282,1,none⟩=some (.string a0_1):=(δl BK282.out 1).trans rfl;have hcz12_2:w9.cell? ⟨gb282,2,none⟩=some (.string a0_2):=(δl BK282.out 2).trans rfl;have hcz12_3:w9.cell? ⟨gb282,3,none⟩=some (.int .i64 a0_3):=(δl BK282.out 3).trans rfl;have hfz12_0:=δm BK282.out 0;have hfz12_1:=δm BK282.out 1;have hfz12_2:=δm BK282.out 2;have hfz12_3:=δm BK282.out 3)|((with_reducible refine δx (N:=12) rfl ?_);(try (refine gate_guard (by rfl) ?_;dsimp only));refine Kd.R_lit Kd.string _ 9 ?hg (N:=12) ?hd (xs:=([a0_1,a0_2]:List ByteArray)) (inner:=[.string a0_1,.string a0_2]) (ok:=fun _=>True) (okp:=fun _=>True) ?hr ?hp (fun _ hk=>hk) trivial (Below.refl _ _) (Nat.le_refl _) (by simp) ?_;(case hd=>rfl);(case hg=>rfl);(case hr=>(go_simp;done));(case hp=>exact (Reps.one (show Kd.M Kd.string _ _ _ a0_1 [.string a0_1] from rfl) (Reps.one (show Kd.M Kd.string _ _ _ a0_2 [.string a0_2] from rfl) (Reps.none _ _))));intro v288 w13 ho14 hb hg_ hnew_;clear hg_ hnew_;(rw [← Ny287.out] at ho14);have HO289:=ζa (Kd.R_lower (Kd.R_new' ho14 (Kd.R_lt (by (with_reducible repeat (apply ζc));exact HO285.out))) (δs (by repeat ((with_reducible first|exact HB.out|apply δi)))));replace HO285:=ζa (Kd.R_elder' (by (with_reducible repeat (apply ζc));exact HO285.out) (Kd.R_base ho14) hb);replace BK282:=ζa (blk_below (g:=gb282) (o:=.cells #[.string a0_0,.string a0_1,.string a0_2,.int .i64 a0_3] 60 (0,0)) (by (with_reducible repeat (refine δn ?_ _));exact BK282.out) hb);replace HB:=ζa (δr (by repeat ((with_reducible first|exact HB.out|apply δi))) hb);clear hb ho14;obtain ⟨Ao15,co15,eo15⟩:=Kd.R_slice HO289.out;subst eo15)|(go_at_call 87;(with_reducible refine (impl_isPeople.calls k _ _ y287 τ _ ?side1 ?side2 A4.out).mono ?_);(case side1=>repeat (exact (ζg HO289.out).2.2));(case side2=>exact (ζg HO289.out).2.1);rintro e w' ⟨rfl,⟨nd,rfl⟩⟩;have hcz16_0:w13.cell? ⟨gb282,0,none⟩=some (.string a0_0):=(δl BK282.out 0).trans rfl;have hcz16_1:w13.cell? ⟨gb282,1,none⟩=some (.string a0_1):=(δl BK282.out 1).trans rfl;have hcz16_2:w13.cell? ⟨gb282,2,none⟩=some (.string a0_2):=(δl BK282.out 2).trans rfl;have hcz16_3:w13.cell? ⟨gb282,3,none⟩=some (.int .i64 a0_3):=(δl BK282.out 3).trans rfl;have hfz16_0:=δm BK282.out 0;have hfz16_1:=δm BK282.out 1;have hfz16_2:=δm BK282.out 2;have hfz16_3:=δm BK282.out 3)|(go_at_call 61;(with_reducible refine (impl_isSome.calls a0_3 t291 _ A6.out).mono ?_);rintro e w' ⟨rfl,⟨nd,rfl⟩⟩))
   go_ret
   exact ⟨by rfl,by repeat ((with_reducible first|exact HB.out|apply δi))⟩
  ·
   replace c5:=Bool.eq_false_iff.mpr c5
   subst c5
   rw [ifF] at H
   obtain rfl:=Option.some.inj H
   go_enter Tryz.func57,Tryz.ntmps57
   go_wp2_with (first|((with_reducible refine δx (N:=1) rfl ?_);(try (refine gate_guard (by rfl) ?_;dsimp only));refine bev 1 #[.string a0_0,.string a0_1,.string a0_2,.int .i64 a0_3] 60 ?_;intro gb282 hg w17 hbox hb;have BK282:=ζa (hbox);have GW282:=ζa (gbw hg (by exact HB.out));have GE282:=ζa (gbw hg (by exact HB.out));replace HB:=ζa (δr (by exact HB.out) hb);clear hb hbox hg;have hcz18_0:w17.cell? ⟨gb282,0,none⟩=some (.string a0_0):=(δl BK282.out 0).trans rfl;have hcz18_1:w17.cell? ⟨gb282,1,none⟩=some (.string a0_1):=(δl BK282.out 1).trans rfl;have hcz18_2:w17.cell? ⟨gb282,2,none⟩=some (.string a0_2):=(δl BK282.out 2).trans rfl;have hcz18_3:w17.cell? ⟨gb282,3,none⟩=some (.int .i64 a0_3):=(δl BK282.out 3).trans rfl;have hfz18_0:=δm BK282.out 0;have hfz18_1:=δm BK282.out 1;have hfz18_2:=δm BK282.out 2;have hfz18_3:=δm BK282.out 3)|((with_reducible refine δx (N:=5) rfl ?_);(try (refine gate_guard (by rfl) ?_;dsimp only));refine Kd.R_lit Kd.string _ 9 ?hg (N:=5) ?hd (xs:=([a0_0]:List ByteArray)) (inner:=[.string a0_0]) (ok:=fun _=>True) (okp:=fun _=>True) ?hr ?hp (fun _ hk=>hk) trivial (Below.refl _ _) (Nat.le_refl _) (by simp) ?_;(case hd=>rfl);(case hg=>rfl);(case hr=>(go_simp;done));(case hp=>exact (Reps.one (show Kd.M Kd.string _ _ _ a0_0 [.string a0_0] from rfl) (Reps.none _ _)));intro v284 w19 ho20 hb hg_ hnew_;clear hg_ hnew_;(rw [← Ny283.out] at ho20);have HO285:=ζa (Kd.R_lower ho20 (δs (by exact HB.out)));replace BK282:=ζa (blk_below (g:=gb282) (o:=.cells #[.string a0_0,.string a0_1,.string a0_2,.int .i64 a0_3] 60 (0,0)) (by exact BK282.out) hb);replace HB:=ζa (δr (by exact HB.out) hb);clear hb ho20;obtain ⟨Ao21,co21,eo21⟩:=Kd.R_slice HO285.out;subst eo21)|((with_reducible refine δv (f:=86) rfl ?_);refine gl 6 Tryz.func86 #[.slice Ao21 y283.length co21] ?_;(with_reducible refine (impl_areNames.calls k _ _ y283 τ _ ?side1 ?side2 A2.out).mono ?_);(case side1=>repeat (exact (ζg HO285.out).2.2));(case side2=>exact (ζg HO285.out).2.1);rintro e w' ⟨rfl,⟨nd,rfl⟩⟩;refine ⟨_,rfl,?_⟩;have hcz22_0:w19.cell? ⟨gb282,0,none⟩=some (.string a0_0):=(δl BK282.out 0).trans rfl;have hcz22_1:w19.cell? ⟨gb282,1,none⟩=some (.string a0_1):=(δl BK282.out 1).trans rfl;have hcz22_2:w19.cell? ⟨gb282,2,none⟩=some (.string a0_2):=(δl BK282.out 2).trans rfl;have hcz22_3:w19.cell? ⟨gb282,3,none⟩=some (.int .i64 a0_3):=(δl BK282.out 3).trans rfl;have hfz22_0:=δm BK282.out 0;have hfz22_1:=δm BK282.out 1;have hfz22_2:=δm BK282.out 2;have hfz22_3:=δm BK282.out 3)|((with_reducible refine δx (N:=12) rfl ?_);(try (refine gate_guard (by rfl) ?_;dsimp only));refine Kd.R_lit Kd.string _ 9 ?hg (N:=12) ?hd (xs:=([a0_1,a0_2]:List ByteArray)) (inner:=[.string a0_1,.string a0_2]) (ok:=fun _=>True) (okp:=fun _=>True) ?hr ?hp (fun _ hk=>hk) trivial (Below.refl _ _) (Nat.le_refl _) (by simp) ?_;(case hd=>rfl);(case hg=>rfl);(case hr=>(go_simp;done));(case hp=>exact (Reps.one (show Kd.M Kd.string _ _ _ a0_1 [.string a0_1] from rfl) (Reps.one (show Kd.M Kd.string _ _ _ a0_2 [.string a0_2] from rfl) (Reps.none _ _))));intro v288 w23 ho24 hb hg_ hnew_;clear hg_ hnew_;(rw [← Ny287.out] at ho24);have HO289:=ζa (Kd.R_lower (Kd.R_new' ho24 (Kd.R_lt (by (with_reducible repeat (apply ζc));exact HO285.out))) (δs (by repeat ((with_reducible first|exact HB.out|apply δi)))));replace HO285:=ζa (Kd.R_elder' (by (with_reducible repeat (apply ζc));exact HO285.out) (Kd.R_base ho24) hb);replace BK282:=ζa (blk_below (g:=gb282) (o:=.cells #[.string a0_0,.string a0_1,.string a0_2,.int .i64 a0_3] 60 (0,0)) (by (with_reducible repeat (refine δn ?_ _));exact BK282.out) hb);replace HB:=ζa (δr (by repeat ((with_reducible first|exact HB.out|apply δi))) hb);clear hb ho24;obtain ⟨Ao25,co25,eo25⟩:=Kd.R_slice HO289.out;subst eo25)|(go_at_call 87;(with_reducible refine (impl_isPeople.calls k _ _ y287 φ _ ?side1 ?side2 A4.out).mono ?_);(case side1=>repeat (exact (ζg HO289.out).2.2));(case side2=>exact (ζg HO289.out).2.1);rintro e w' ⟨rfl,⟨nd,rfl⟩⟩))
   go_ret
   exact ⟨by rfl,by repeat ((with_reducible first|exact HB.out|apply δi))⟩
 ·
  replace c3:=Bool.eq_false_iff.mpr c3
  subst c3
  rw [ifF] at H
  obtain rfl:=Option.some.inj H
  go_enter Tryz.func57,Tryz.ntmps57
  go_wp2_with (first|((with_reducible refine δx (N:=1) rfl ?_);(try (refine gate_guard (by rfl) ?_;dsimp only));refine bev 1 #[.string a0_0,.string a0_1,.string a0_2,.int .i64 a0_3] 60 ?_;intro gb282 hg w26 hbox hb;have BK282:=ζa (hbox);have GW282:=ζa (gbw hg (by exact HB.out));have GE282:=ζa (gbw hg (by exact HB.out));replace HB:=ζa (δr (by exact HB.out) hb);clear hb hbox hg;have hcz27_0:w26.cell? ⟨gb282,0,none⟩=some (.string a0_0):=(δl BK282.out 0).trans rfl;have hcz27_1:w26.cell? ⟨gb282,1,none⟩=some (.string a0_1):=(δl BK282.out 1).trans rfl;have hcz27_2:w26.cell? ⟨gb282,2,none⟩=some (.string a0_2):=(δl BK282.out 2).trans rfl;have hcz27_3:w26.cell? ⟨gb282,3,none⟩=some (.int .i64 a0_3):=(δl BK282.out 3).trans rfl;have hfz27_0:=δm BK282.out 0;have hfz27_1:=δm BK282.out 1;have hfz27_2:=δm BK282.out 2;have hfz27_3:=δm BK282.out 3)|((with_reducible refine δx (N:=5) rfl ?_);(try (refine gate_guard (by rfl) ?_;dsimp only));refine Kd.R_lit Kd.string _ 9 ?hg (N:=5) ?hd (xs:=([a0_0]:List ByteArray)) (inner:=[.string a0_0]) (ok:=fun _=>True) (okp:=fun _=>True) ?hr ?hp (fun _ hk=>hk) trivial (Below.refl _ _) (Nat.le_refl _) (by simp) ?_;(case hd=>rfl);(case hg=>rfl);(case hr=>(go_simp;done));(case hp=>exact (Reps.one (show Kd.M Kd.string _ _ _ a0_0 [.string a0_0] from rfl) (Reps.none _ _)));intro v284 w28 ho29 hb hg_ hnew_;clear hg_ hnew_;(rw [← Ny283.out] at ho29);have HO285:=ζa (Kd.R_lower ho29 (δs (by exact HB.out)));replace BK282:=ζa (blk_below (g:=gb282) (o:=.cells #[.string a0_0,.string a0_1,.string a0_2,.int .i64 a0_3] 60 (0,0)) (by exact BK282.out) hb);replace HB:=ζa (δr (by exact HB.out) hb);clear hb ho29;obtain ⟨Ao30,co30,eo30⟩:=Kd.R_slice HO285.out;subst eo30)|((with_reducible refine δv (f:=86) rfl ?_);refine gl 6 Tryz.func86 #[.slice Ao30 y283.length co30] ?_;(with_reducible refine (impl_areNames.calls k _ _ y283 φ _ ?side1 ?side2 A2.out).mono ?_);(case side1=>repeat (exact (ζg HO285.out).2.2));(case side2=>exact (ζg HO285.out).2.1);rintro e w' ⟨rfl,⟨nd,rfl⟩⟩;refine ⟨_,rfl,?_⟩))
  go_ret
  exact ⟨by rfl,by repeat ((with_reducible first|exact HB.out|apply δi))⟩


open Go.Proofs.YtjhhehjjnfnigaaGreatDoorW.PrintWords renaming gate_dst → δx, below_step → δr, gate_callee → δv, below_size → δs, blk_cell → δl, blk_frozen → δm, blk_put → δw, below_set → δq, blk_drew → δp, below_drew1 → δj, cell_far → δt
open Go.Proofs.YtjhhehjjnfnigaaGreatDoorW.PrintWords.Kd renaming R_reads' → ζg, R_below → ζh, R_drew → ζe, own_blk → ζb, R_ne → ζf, R_far → ζi
set_option maxHeartbeats 8000000
set_option maxRecDepth 100000

/-! ### impl_takeOf: function 31 -/
def impl_takeOf.j0:Nat→List ByteArray→Bool→Option (ByteArray × ByteArray × ByteArray × Int × Bool)
 | 0,_,_=>none
 | k+1,x4,x26=>if x26=τ then (some ((⟨#[]⟩:ByteArray),(⟨#[]⟩:ByteArray),(⟨#[]⟩:ByteArray),0,φ)) else (if 4<(x4.length:Int) then ((impl_readAmount.f (rdOf ByteArray.empty x4 4)).bind fun bt299=>(if 1<(x4.length:Int) then (if 2<(x4.length:Int) then (if 3<(x4.length:Int) then ((impl_take_isRight.f k (rdOf ByteArray.empty x4 1) (rdOf ByteArray.empty x4 2) (rdOf ByteArray.empty x4 3) bt299.1).bind fun t305=>(some (rdOf ByteArray.empty x4 1,rdOf ByteArray.empty x4 2,rdOf ByteArray.empty x4 3,bt299.1,t305))) else (none)) else (none)) else (none))) else (none))
def impl_takeOf.f (k:Nat) (a0:ByteArray):Option (ByteArray × ByteArray × ByteArray × Int × Bool):=(impl_readFields.f k a0).bind fun bt293=>(if bt293.2=τ then (if (bt293.1.length:Int)=5 then (if 0<(bt293.1.length:Int) then (impl_takeOf.j0 k bt293.1 ((rdOf ByteArray.empty bt293.1 0).toList != ([107]:List UInt8))) else (none)) else (impl_takeOf.j0 k bt293.1 τ)) else (impl_takeOf.j0 k bt293.1 τ))
def impl_takeOf.T5:Bool × List (List Nat × List Nat):=(τ,[([],[]),([0],[0]),([1],[1]),([],[]),([3],[3]),([4],[4]),([],[]),([6],[6]),([7],[7]),([],[]),([2,5,8,9],[2,5,8,9]),([],[]),([11,10,0,1,2,3,4,5,6,7,8,9,10,11],[10,11])])
def impl_takeOf.B5:List Nat:=[0,1,3,0,8,24,0,64,192,0,1023,0,4095]
theorem impl_takeOf.tab5:rtab .any (opsOf Tryz.f31 5)=impl_takeOf.T5:=by kernel_rfl
theorem impl_takeOf.bits5:waitsOk impl_takeOf.T5.2 impl_takeOf.B5=τ:=by kernel_rfl
theorem impl_takeOf.calls (k:Nat) (a0:ByteArray) (r1:ByteArray) (r2:ByteArray) (r3:ByteArray) (r4:Int) (r5:Bool) (w:World) (hT0:TabsOK w) (h:impl_takeOf.f k a0=some (r1,r2,r3,r4,r5)) :
  Calls Tryz.prog 31 #[.string a0] w fun e w'=>e = .returned (.tuple #[.agg #[.string r1,.string r2,.string r3,.int .i64 r4],.bool r5])∧Below w.heap.size w w':=by
 have HT0:=ζa hT0
 clear hT0
 have hu60:=Tryz.underlying60
 have HB:=ζa (Below.refl w.heap.size w)
 have H:((impl_readFields.f k a0).bind fun bt293=>(if bt293.2=τ then (if (bt293.1.length:Int)=5 then (if 0<(bt293.1.length:Int) then (impl_takeOf.j0 k bt293.1 ((rdOf ByteArray.empty bt293.1 0).toList != ([107]:List UInt8))) else (none)) else (impl_takeOf.j0 k bt293.1 τ)) else (impl_takeOf.j0 k bt293.1 τ)))=some (r1,r2,r3,r4,r5):=h
 clear h
 obtain ⟨⟨t293,t294⟩,A2,H⟩:=bsm H
 dsimp only at H
 have HC3:=ζa H
 clear H
 go_enter Tryz.func31,Tryz.ntmps31
 go_upto_region 2 with (first|((with_reducible refine δx (N:=2) rfl ?_);(try (refine gate_guard (by rfl) ?_;dsimp only));refine bev 2 #[.string (⟨#[]⟩:ByteArray),.string (⟨#[]⟩:ByteArray),.string (⟨#[]⟩:ByteArray),.int .i64 0] 60 ?_;intro gb292 hg w4 hbox hb;have BK292:=ζa (hbox);have GW292:=ζa (gbw hg (by exact HB.out));have GE292:=ζa (gbw hg (by exact HB.out));replace HB:=ζa (δr (by exact HB.out) hb);clear hb hbox hg)|((with_reducible refine δv (f:=55) rfl ?_);refine gl 11 Tryz.func55 #[.string a0] ?_;(with_reducible refine (impl_readFields.calls k a0 t293 t294 _ A2.out).mono ?_);rintro e w5 ⟨v295,rfl,ho0,hb⟩;refine ⟨_,rfl,?_⟩;have HO296:=ζa (Kd.R_lower ho0 (δs (by exact HB.out)));replace BK292:=ζa (blk_below (g:=gb292) (o:=.cells #[.string (⟨#[]⟩:ByteArray),.string (⟨#[]⟩:ByteArray),.string (⟨#[]⟩:ByteArray),.int .i64 0] 60 (0,0)) (by exact BK292.out) hb);replace HB:=ζa (δr (by exact HB.out) hb);(try clear hb);(try clear hb2);(try clear hk);(try clear hi);(try clear ho0)))
 (try simp only [ζl,δa,δb,δc])
 go_cut [26] (fun v26 wc => ∃ (kq:Nat) (x26_2:Bool),v26 = .bool x26_2∧Aside0 (impl_takeOf.j0 kq t293 x26_2=some (r1,r2,r3,r4,r5))∧Aside0 (kq≤k)∧Aside0 (Kd.R Kd.string 9 wc w.heap.size (fun _=>True) v295 t293)∧Aside0 (wc.heap[gb292]? = some (.cells #[.string (⟨#[]⟩:ByteArray),.string (⟨#[]⟩:ByteArray),.string (⟨#[]⟩:ByteArray),.int .i64 0] 60 (0,0)))∧Aside0 (Below w.heap.size w wc))
 case first =>
  have H:=HC3.out
  clear HC3
  by_cases c6:t294=τ
  ·
   subst c6
   rw [ifT] at H
   by_cases c7:(t293.length:Int)=5
   ·
    rw [if_pos c7] at H
    have c7b0:=beq_iff_eq.mpr c7
    have c7b1:=bne_eq_false_iff_eq.mpr c7
    clear c7
    by_cases c8:0<(t293.length:Int)
    ·
     rw [if_pos c8] at H
     have c8b0:=decide_eq_true c8
     have c8b1:decide (0<t293.length)=τ:=decide_eq_true (by omega)
     clear c8
     have H':=ζa H
     clear H
     obtain ⟨Ao9,co9,eo9⟩:=Kd.R_slice HO296.out
     subst eo9
     have p297:0≤(0:Int):=(by omega)
     have q297:0<(t293.length:Int):=of_decide_eq_true (by (with_reducible assumption))
     obtain ⟨ad297,e297,hx297_0⟩:=Kd.at_string (ζg HO296.out).2.2 0 p297 q297
     cases e297
     have qi297:(0<t293.length)=True:=eq_true (by omega)
     (try rw [show ((0:Int)).toNat=0 from rfl] at hx297_0)
     (try rw [Addr.add_zero'] at hx297_0)
     replace p297:=eq_true p297
     replace q297:=eq_true q297
     go_wp2
     go_meet
     case rel=>exact ⟨_,(((rdOf ByteArray.empty t293 0).toList != ([107]:List UInt8))),(by rfl),H',⟨by omega⟩,⟨by exact HO296.out⟩,⟨by exact BK292.out⟩,⟨by repeat ((with_reducible exact HB.out))⟩⟩
    ·
     rw [if_neg c8] at H
     exact absurd H (by simp)
   ·
    rw [if_neg c7] at H
    have c7b0:=beq_eq_false_iff_ne.mpr c7
    have c7b1:=bne_iff_ne.mpr c7
    have H':=ζa H
    clear H
    obtain ⟨Ao10,co10,eo10⟩:=Kd.R_slice HO296.out
    subst eo10
    go_wp2
    go_meet
    case rel=>exact ⟨_,(τ),(by rfl),H',⟨by omega⟩,⟨by exact HO296.out⟩,⟨by exact BK292.out⟩,⟨by repeat ((with_reducible exact HB.out))⟩⟩
  ·
   replace c6:=Bool.eq_false_iff.mpr c6
   subst c6
   rw [ifF] at H
   have H':=ζa H
   clear H
   go_wp2
   go_meet
   case rel=>exact ⟨_,(τ),(by rfl),H',⟨by omega⟩,⟨by exact HO296.out⟩,⟨by exact BK292.out⟩,⟨by repeat ((with_reducible exact HB.out))⟩⟩
 case rest =>
  clear HC3
  try clear p2
  try clear q2
  try clear hx2
  try clear qi2
  try clear c3
  try clear c5
  try clear c6
  try clear c7
  try clear c7b0
  try clear c7b1
  try clear c8
  try clear c8b0
  try clear c8b1
  try clear hx297_0
  try clear p297
  try clear q297
  obtain ⟨kq,x26_2,rfl,HA,HJ2,HO_4,BK292,HB⟩:=hcut
  cases kq with
  | zero=>exact absurd HA.out (by simp [impl_takeOf.j0])
  | succ kj2 =>
   have H:=HA.out
   clear HA
   simp only [impl_takeOf.j0] at H
   by_cases c11:x26_2=τ
   ·
    subst c11
    rw [ifT] at H
    simp only [Option.some.injEq,Prod.mk.injEq] at H
    obtain ⟨rfl,rfl,rfl,rfl,rfl⟩:=H
    have hcz12_0:wc.cell? ⟨gb292,0,none⟩=some (.string (⟨#[]⟩:ByteArray)):=(δl BK292.out 0).trans rfl
    have hcz12_1:wc.cell? ⟨gb292,1,none⟩=some (.string (⟨#[]⟩:ByteArray)):=(δl BK292.out 1).trans rfl
    have hcz12_2:wc.cell? ⟨gb292,2,none⟩=some (.string (⟨#[]⟩:ByteArray)):=(δl BK292.out 2).trans rfl
    have hcz12_3:wc.cell? ⟨gb292,3,none⟩=some (.int .i64 0):=(δl BK292.out 3).trans rfl
    have hfz12_0:=δm BK292.out 0
    have hfz12_1:=δm BK292.out 1
    have hfz12_2:=δm BK292.out 2
    have hfz12_3:=δm BK292.out 3
    go_wp2
    refine bodyPost_ret (results_ct rfl _ _ gb292 60 #[.string (⟨#[]⟩:ByteArray),.string (⟨#[]⟩:ByteArray),.string (⟨#[]⟩:ByteArray),.int .i64 0] (0,0) _ rfl (by refine δw (cs:=#[.string (⟨#[]⟩:ByteArray),.string (⟨#[]⟩:ByteArray),.string (⟨#[]⟩:ByteArray),.int .i64 0]) ?_ 3 _ rfl;refine δw (cs:=#[.string (⟨#[]⟩:ByteArray),.string (⟨#[]⟩:ByteArray),.string (⟨#[]⟩:ByteArray),.int .i64 0]) ?_ 2 _ rfl;refine δw (cs:=#[.string (⟨#[]⟩:ByteArray),.string (⟨#[]⟩:ByteArray),.string (⟨#[]⟩:ByteArray),.int .i64 0]) ?_ 1 _ rfl;refine δw (cs:=#[.string (⟨#[]⟩:ByteArray),.string (⟨#[]⟩:ByteArray),.string (⟨#[]⟩:ByteArray),.int .i64 0]) ?_ 0 _ rfl;exact BK292.out) Tryz.underlying60 rfl (by kernel_rfl)) rfl ?_
    exact ⟨by rfl,by repeat ((with_reducible first|exact HB.out|refine δq ?_ GE292.out))⟩
   ·
    replace c11:=Bool.eq_false_iff.mpr c11
    subst c11
    rw [ifF] at H
    by_cases c13:4<(t293.length:Int)
    ·
     rw [if_pos c13] at H
     have c13b0:=decide_eq_true c13
     have c13b1:decide (4<t293.length)=τ:=decide_eq_true (by omega)
     clear c13
     obtain ⟨⟨t299,t300⟩,A14,H⟩:=bsm H
     dsimp only at H
     by_cases c15:1<(t293.length:Int)
     ·
      rw [if_pos c15] at H
      have c15b0:=decide_eq_true c15
      have c15b1:decide (1<t293.length)=τ:=decide_eq_true (by omega)
      clear c15
      by_cases c16:2<(t293.length:Int)
      ·
       rw [if_pos c16] at H
       have c16b0:=decide_eq_true c16
       have c16b1:decide (2<t293.length)=τ:=decide_eq_true (by omega)
       clear c16
       by_cases c17:3<(t293.length:Int)
       ·
        rw [if_pos c17] at H
        have c17b0:=decide_eq_true c17
        have c17b1:decide (3<t293.length)=τ:=decide_eq_true (by omega)
        clear c17
        obtain ⟨t305,A18,H⟩:=bsm H
        simp only [Option.some.injEq,Prod.mk.injEq] at H
        obtain ⟨rfl,rfl,rfl,rfl,rfl⟩:=H
        obtain ⟨Ao19,co19,eo19⟩:=Kd.R_slice HO_4.out
        subst eo19
        have p298:0≤(4:Int):=(by omega)
        have q298:4<(t293.length:Int):=of_decide_eq_true (by (with_reducible assumption))
        obtain ⟨ad298,e298,hx298_0⟩:=Kd.at_string (ζg HO_4.out).2.2 4 p298 q298
        cases e298
        (try simp only [show (4:Int).toNat=4 from rfl,Nat.reduceMul,Nat.reduceEqDiff,Go.Addr.add,↓reduceIte] at hx298_0)
        have qi298:(4<t293.length)=True:=eq_true (by omega)
        (try rw [show ((4:Int)).toNat=4 from rfl] at hx298_0)
        replace p298:=eq_true p298
        replace q298:=eq_true q298
        try go_wp2_with (((with_reducible refine δv (f:=56) rfl ?_);refine gl 32 Tryz.func56 #[.string (rdOf ByteArray.empty t293 4)] ?_;(with_reducible refine (impl_readAmount.calls (rdOf ByteArray.empty t293 4) t299 t300 _ (HT0.out.below (by exact HB.out)) A14.out).mono ?_);rintro e w20 ⟨rfl,hb⟩;refine ⟨_,rfl,?_⟩;replace HO_4:=ζa (ζh (by exact HO_4.out) hb);replace BK292:=ζa (blk_below (g:=gb292) (o:=.cells #[.string (⟨#[]⟩:ByteArray),.string (⟨#[]⟩:ByteArray),.string (⟨#[]⟩:ByteArray),.int .i64 0] 60 (0,0)) (by exact BK292.out) hb);replace HB:=ζa (δr (by exact HB.out) hb);(try clear hb);(try clear hb2);(try clear hk);(try clear hi)))
        replace HO_4:=ζa (ζe HO_4.out)
        replace BK292:=ζa (δp BK292.out)
        replace HB:=ζa (δj HB.out)
        have p301:0≤(1:Int):=(by omega)
        have q301:1<(t293.length:Int):=of_decide_eq_true (by (with_reducible assumption))
        obtain ⟨ad301,e301,hx301_0⟩:=Kd.at_string (ζg HO_4.out).2.2 1 p301 q301
        obtain rfl:ad298=ad301:=(by injection e301)
        (try simp only [show (1:Int).toNat=1 from rfl,Nat.reduceMul,Nat.reduceEqDiff,Go.Addr.add,↓reduceIte] at hx301_0)
        have qi301:(1<t293.length)=True:=eq_true (by omega)
        (try rw [show ((1:Int)).toNat=1 from rfl] at hx301_0)
        replace p301:=eq_true p301
        replace q301:=eq_true q301
        have p302:0≤(2:Int):=(by omega)
        have q302:2<(t293.length:Int):=of_decide_eq_true (by (with_reducible assumption))
        obtain ⟨ad302,e302,hx302_0⟩:=Kd.at_string (ζg HO_4.out).2.2 2 p302 q302
        obtain rfl:ad298=ad302:=(by injection e302)
        (try simp only [show (2:Int).toNat=2 from rfl,Nat.reduceMul,Nat.reduceEqDiff,Go.Addr.add,↓reduceIte] at hx302_0)
        have qi302:(2<t293.length)=True:=eq_true (by omega)
        (try rw [show ((2:Int)).toNat=2 from rfl] at hx302_0)
        replace p302:=eq_true p302
        replace q302:=eq_true q302
        have p303:0≤(3:Int):=(by omega)
        have q303:3<(t293.length:Int):=of_decide_eq_true (by (with_reducible assumption))
        obtain ⟨ad303,e303,hx303_0⟩:=Kd.at_string (ζg HO_4.out).2.2 3 p303 q303
        obtain rfl:ad298=ad303:=(by injection e303)
        (try simp only [show (3:Int).toNat=3 from rfl,Nat.reduceMul,Nat.reduceEqDiff,Go.Addr.add,↓reduceIte] at hx303_0)
        have qi303:(3<t293.length)=True:=eq_true (by omega)
        (try rw [show ((3:Int)).toNat=3 from rfl] at hx303_0)
        replace p303:=eq_true p303
        replace q303:=eq_true q303
        refine sta 13 (fun w'=>w'.cell? ⟨ad298.block,ad298.off+1,none⟩=some (.string (rdOf ByteArray.empty t293 1))∧w'.cell? ⟨ad298.block,ad298.off+2,none⟩=some (.string (rdOf ByteArray.empty t293 2))∧w'.cell? ⟨ad298.block,ad298.off+3,none⟩=some (.string (rdOf ByteArray.empty t293 3))) [] impl_takeOf.tab5 impl_takeOf.bits5 ⟨hx301_0,hx302_0,hx303_0⟩ (fun hHeld HT_ HW_ => ?_)
        generalize w20.drew=w21 at HO_4 BK292 HB hx301_0 hx302_0 hx303_0 hHeld ⊢
        refine pu 0 35 ?_
        refine pu 1 36 ?_
        refine pu 3 38 ?_
        refine pu 4 39 ?_
        refine pu 6 41 ?_
        refine pu 7 42 ?_
        refine pu 9 44 ?_
        refine ta 2 37 ?_
        refine ta 5 40 ?_
        refine ta 8 43 ?_
        refine pu 10 45 ?_
        refine on 11 8 (fun K hK => ?_)
        refine box_step ?hg (N:=8) ?hd (cs:=#[.string (⟨#[]⟩:ByteArray),.string (⟨#[]⟩:ByteArray),.string (⟨#[]⟩:ByteArray),.int .i64 0]) (t:=60) ?hr ?_;(case hd=>rfl);(case hg=>rfl);(case hr=>(go_simp;done))
        intro gb304 hg w22 hbox hb
        have HS0_:=(hb.cell (World.block_lt_of_cell? _ _ (hHeld.1))).trans (hHeld.1)
        have HS1_:=(hb.cell (World.block_lt_of_cell? _ _ (hHeld.2.1))).trans (hHeld.2.1)
        have HS2_:=(hb.cell (World.block_lt_of_cell? _ _ (hHeld.2.2))).trans (hHeld.2.2)
        replace HO_4:=ζa (ζh (by exact HO_4.out) hb)
        have BK304:=ζa (hbox)
        have GW304:=ζa (gbw hg (by exact HB.out))
        have GE304:=ζa (gbw hg (by exact HB.out))
        replace HB:=ζa (δr (by exact HB.out) hb)
        have NB292_304:=ζa ((by rw [hg];exact Nat.ne_of_lt (blk_lt (g:=gb292) (o:=.cells #[.string (⟨#[]⟩:ByteArray),.string (⟨#[]⟩:ByteArray),.string (⟨#[]⟩:ByteArray),.int .i64 0] 60 (0,0)) (by exact BK292.out)):gb292≠gb304))
        have NB304_292:=ζa ((by rw [hg];exact Nat.ne_of_gt (blk_lt (g:=gb292) (o:=.cells #[.string (⟨#[]⟩:ByteArray),.string (⟨#[]⟩:ByteArray),.string (⟨#[]⟩:ByteArray),.int .i64 0] 60 (0,0)) (by exact BK292.out)):gb304≠gb292))
        replace BK292:=ζa (blk_below (g:=gb292) (o:=.cells #[.string (⟨#[]⟩:ByteArray),.string (⟨#[]⟩:ByteArray),.string (⟨#[]⟩:ByteArray),.int .i64 0] 60 (0,0)) (by exact BK292.out) hb)
        clear hb hbox hg
        refine hK.out _ _ ⟨HS0_,HS1_,HS2_⟩ (fun hHeld => ?_)
        clear hK K
        refine nm 8 ?_
        refine one_ (i:=12) (N:=none) #[τ,τ,τ,τ,τ,τ,τ,τ,τ,τ,τ,τ,τ] rfl rfl (one_of HT_.out (by kernel_rfl)) (by decide) (fun K hK => ?_)
        have hs23:w22.cell? ⟨gb304,0,none⟩=some (.string (⟨#[]⟩:ByteArray)):=(δl BK304.out 0).trans rfl
        have hfs23:=δm BK304.out 0
        have hns23_0:=NB292_304.out
        have hms23_0:=NB304_292.out
        have hs24:w22.cell? ⟨gb304,1,none⟩=some (.string (⟨#[]⟩:ByteArray)):=(δl BK304.out 1).trans rfl
        have hfs24:=δm BK304.out 1
        have hns24_0:=NB292_304.out
        have hms24_0:=NB304_292.out
        have hs25:w22.cell? ⟨gb304,2,none⟩=some (.string (⟨#[]⟩:ByteArray)):=(δl BK304.out 2).trans rfl
        have hfs25:=δm BK304.out 2
        have hns25_0:=NB292_304.out
        have hms25_0:=NB304_292.out
        have hs26:w22.cell? ⟨gb304,3,none⟩=some (.int .i64 0):=(δl BK304.out 3).trans rfl
        have hfs26:=δm BK304.out 3
        have hns26_0:=NB292_304.out
        have hms26_0:=NB304_292.out
        refine skip_ (w1:=?_) (by rfl) rfl ?_ ?_
        rotate_left
        ·
         go_simp
         rfl
        refine hK.out _ _ ⟨((δt (p:=⟨gb304,_,none⟩) (by (dsimp only;exact ζb (ζf HO_4.out BK304.out (by decide)))) _).trans (((δt (p:=⟨gb304,_,none⟩) (by (dsimp only;exact ζb (ζf HO_4.out BK304.out (by decide)))) _).trans (((δt (p:=⟨gb304,_,none⟩) (by (dsimp only;exact ζb (ζf HO_4.out BK304.out (by decide)))) _).trans (((δt (p:=⟨gb304,_,none⟩) (by (dsimp only;exact ζb (ζf HO_4.out BK304.out (by decide)))) _).trans (hHeld.1)))))))),((δt (p:=⟨gb304,_,none⟩) (by (dsimp only;exact ζb (ζf HO_4.out BK304.out (by decide)))) _).trans (((δt (p:=⟨gb304,_,none⟩) (by (dsimp only;exact ζb (ζf HO_4.out BK304.out (by decide)))) _).trans (((δt (p:=⟨gb304,_,none⟩) (by (dsimp only;exact ζb (ζf HO_4.out BK304.out (by decide)))) _).trans (((δt (p:=⟨gb304,_,none⟩) (by (dsimp only;exact ζb (ζf HO_4.out BK304.out (by decide)))) _).trans (hHeld.2.1)))))))),((δt (p:=⟨gb304,_,none⟩) (by (dsimp only;exact ζb (ζf HO_4.out BK304.out (by decide)))) _).trans (((δt (p:=⟨gb304,_,none⟩) (by (dsimp only;exact ζb (ζf HO_4.out BK304.out (by decide)))) _).trans (((δt (p:=⟨gb304,_,none⟩) (by (dsimp only;exact ζb (ζf HO_4.out BK304.out (by decide)))) _).trans (((δt (p:=⟨gb304,_,none⟩) (by (dsimp only;exact ζb (ζf HO_4.out BK304.out (by decide)))) _).trans (hHeld.2.2))))))))⟩ (fun hHeld => ?_)
        clear hK K
        refine done_ (done_of HT_.out (by kernel_rfl)) ?_
        try go_wp2
        have n0_:Aside0 (Kd.R Kd.string 9 ((((w22.setCell ⟨gb304,0,none⟩ (.string (rdOf ByteArray.empty t293 1))).setCell ⟨gb304,1,none⟩ (.string (rdOf ByteArray.empty t293 2))).setCell ⟨gb304,2,none⟩ (.string (rdOf ByteArray.empty t293 3))).setCell ⟨gb304,3,none⟩ (.int .i64 t299)) w.heap.size (fun _=>True) (.slice (some ad298) t293.length co19) t293):=⟨by exact Kd.R_mono (ζi (p:=⟨gb304,3,none⟩) (ζi (p:=⟨gb304,2,none⟩) (ζi (p:=⟨gb304,1,none⟩) (ζi (p:=⟨gb304,0,none⟩) (Kd.R_types HO_4.out BK304.out (by decide)) (fun _ hk=>hk.2) (.string (rdOf ByteArray.empty t293 1))) (fun _ hk=>hk.2) (.string (rdOf ByteArray.empty t293 2))) (fun _ hk=>hk.2) (.string (rdOf ByteArray.empty t293 3))) (fun _ hk=>hk.2) (.int .i64 t299)) (fun _ hk=>trivial)⟩
        have n1_:Aside0 (((((w22.setCell ⟨gb304,0,none⟩ (.string (rdOf ByteArray.empty t293 1))).setCell ⟨gb304,1,none⟩ (.string (rdOf ByteArray.empty t293 2))).setCell ⟨gb304,2,none⟩ (.string (rdOf ByteArray.empty t293 3))).setCell ⟨gb304,3,none⟩ (.int .i64 t299)).heap[gb292]? = some (.cells #[.string (⟨#[]⟩:ByteArray),.string (⟨#[]⟩:ByteArray),.string (⟨#[]⟩:ByteArray),.int .i64 0] 60 (0,0))):=⟨by refine blk_far ?_ NB292_304.out _;refine blk_far ?_ NB292_304.out _;refine blk_far ?_ NB292_304.out _;refine blk_far ?_ NB292_304.out _;exact BK292.out⟩
        have n2_:Aside0 (((((w22.setCell ⟨gb304,0,none⟩ (.string (rdOf ByteArray.empty t293 1))).setCell ⟨gb304,1,none⟩ (.string (rdOf ByteArray.empty t293 2))).setCell ⟨gb304,2,none⟩ (.string (rdOf ByteArray.empty t293 3))).setCell ⟨gb304,3,none⟩ (.int .i64 t299)).heap[gb304]? = some (.cells #[.string (rdOf ByteArray.empty t293 1),.string (rdOf ByteArray.empty t293 2),.string (rdOf ByteArray.empty t293 3),.int .i64 t299] 60 (0,0))):=⟨by refine δw (cs:=#[.string (rdOf ByteArray.empty t293 1),.string (rdOf ByteArray.empty t293 2),.string (rdOf ByteArray.empty t293 3),.int .i64 0]) ?_ 3 _ rfl;refine δw (cs:=#[.string (rdOf ByteArray.empty t293 1),.string (rdOf ByteArray.empty t293 2),.string (⟨#[]⟩:ByteArray),.int .i64 0]) ?_ 2 _ rfl;refine δw (cs:=#[.string (rdOf ByteArray.empty t293 1),.string (⟨#[]⟩:ByteArray),.string (⟨#[]⟩:ByteArray),.int .i64 0]) ?_ 1 _ rfl;refine δw (cs:=#[.string (⟨#[]⟩:ByteArray),.string (⟨#[]⟩:ByteArray),.string (⟨#[]⟩:ByteArray),.int .i64 0]) ?_ 0 _ rfl;exact BK304.out⟩
        have n3_:Aside0 (Below w.heap.size w ((((w22.setCell ⟨gb304,0,none⟩ (.string (rdOf ByteArray.empty t293 1))).setCell ⟨gb304,1,none⟩ (.string (rdOf ByteArray.empty t293 2))).setCell ⟨gb304,2,none⟩ (.string (rdOf ByteArray.empty t293 3))).setCell ⟨gb304,3,none⟩ (.int .i64 t299))):=⟨by repeat ((with_reducible first|exact HB.out|refine δq ?_ GE304.out))⟩
        (try clear HO_4)
        (try clear BK292)
        (try clear BK304)
        (try clear HB)
        generalize ((((w22.setCell ⟨gb304,0,none⟩ (.string (rdOf ByteArray.empty t293 1))).setCell ⟨gb304,1,none⟩ (.string (rdOf ByteArray.empty t293 2))).setCell ⟨gb304,2,none⟩ (.string (rdOf ByteArray.empty t293 3))).setCell ⟨gb304,3,none⟩ (.int .i64 t299))=w27 at n0_ n1_ n2_ n3_ ⊢
        have HO_4:=n0_
        have BK292:=n1_
        have BK304:=n2_
        have HB:=n3_
        clear n0_ n1_ n2_ n3_
        replace HO_4:=ζa (ζe HO_4.out)
        replace BK292:=ζa (δp BK292.out)
        replace BK304:=ζa (δp BK304.out)
        replace HB:=ζa (δj HB.out)
        refine start_ (n:=5) (S:=fun w'=>w'.cell? ⟨gb304,0,none⟩=some (.string (rdOf ByteArray.empty t293 1))∧w'.cell? ⟨gb304,1,none⟩=some (.string (rdOf ByteArray.empty t293 2))∧w'.cell? ⟨gb304,2,none⟩=some (.string (rdOf ByteArray.empty t293 3))∧w'.cell? ⟨gb304,3,none⟩=some (.int .i64 t299)) (ds:=[]) #[φ,φ,φ,φ,φ] (by kernel_rfl) rfl rfl ⟨(δl BK304.out 0).trans rfl,(δl BK304.out 1).trans rfl,(δl BK304.out 2).trans rfl,(δl BK304.out 3).trans rfl⟩ (fun hHeld => ?_)
        generalize w27.drew=w28 at HO_4 BK292 BK304 HB hHeld ⊢
        refine take_ (i:=0) (N:=some 46) (v:=?_) (a':=?_) #[τ,φ,φ,φ,φ] rfl rfl (by kernel_rfl) (fun _ _ _ h=>h) (Or.inl ⟨by rfl,?_⟩) hHeld ?_ ?_
        rotate_left
        · rintro w' ⟨s0,s1,s2,s3⟩;go_simp;with_reducible rfl
        rotate_left
        · simp only [ζl,δa,δb,δc,i64_w,i32_w];rfl
        refine take_ (i:=1) (N:=some 47) (v:=?_) (a':=?_) #[τ,τ,φ,φ,φ] rfl rfl (by kernel_rfl) (fun _ _ _ h=>h) (Or.inl ⟨by rfl,?_⟩) hHeld ?_ ?_
        rotate_left
        · rintro w' ⟨s0,s1,s2,s3⟩;go_simp;with_reducible rfl
        rotate_left
        · simp only [ζl,δa,δb,δc,i64_w,i32_w];rfl
        refine one_ (i:=2) (N:=some 48) #[τ,τ,τ,φ,φ] rfl rfl (by kernel_rfl) (by decide) (fun K hK => ?_)
        refine gs Tryz.func57 #[.agg #[.string (rdOf ByteArray.empty t293 1),.string (rdOf ByteArray.empty t293 2),.string (rdOf ByteArray.empty t293 3),.int .i64 t299]] ?_
        with_reducible refine (impl_take_isRight.calls kj2 (rdOf ByteArray.empty t293 1) (rdOf ByteArray.empty t293 2) (rdOf ByteArray.empty t293 3) t299 t305 _ A18.out).mono ?_
        rintro e w29 ⟨rfl,hb⟩
        refine ⟨_,rfl,?_⟩
        replace HO_4:=ζa (ζh (by exact HO_4.out) hb)
        replace BK292:=ζa (blk_below (g:=gb292) (o:=.cells #[.string (⟨#[]⟩:ByteArray),.string (⟨#[]⟩:ByteArray),.string (⟨#[]⟩:ByteArray),.int .i64 0] 60 (0,0)) (by exact BK292.out) hb)
        replace BK304:=ζa (blk_below (g:=gb304) (o:=.cells #[.string (rdOf ByteArray.empty t293 1),.string (rdOf ByteArray.empty t293 2),.string (rdOf ByteArray.empty t293 3),.int .i64 t299] 60 (0,0)) (by exact BK304.out) hb)
        replace HB:=ζa (δr (by exact HB.out) hb)
        (try clear hb)
        (try clear hb2)
        (try clear hk)
        (try clear hi)
        refine hK.out _ _ ⟨(δl BK304.out 0).trans rfl,(δl BK304.out 1).trans rfl,(δl BK304.out 2).trans rfl,(δl BK304.out 3).trans rfl⟩ (fun hHeld => ?_)
        clear hK K
        refine nm 48 ?_
        refine one_ (i:=3) (N:=none) #[τ,τ,τ,τ,φ] rfl rfl (by kernel_rfl) (by decide) (fun K hK => ?_)
        have hs30:w29.cell? ⟨gb292,0,none⟩=some (.string (⟨#[]⟩:ByteArray)):=(δl BK292.out 0).trans rfl
        have hfs30:=δm BK292.out 0
        have hns30_1:=NB304_292.out
        have hms30_1:=NB292_304.out
        have hs31:w29.cell? ⟨gb292,1,none⟩=some (.string (⟨#[]⟩:ByteArray)):=(δl BK292.out 1).trans rfl
        have hfs31:=δm BK292.out 1
        have hns31_1:=NB304_292.out
        have hms31_1:=NB292_304.out
        have hs32:w29.cell? ⟨gb292,2,none⟩=some (.string (⟨#[]⟩:ByteArray)):=(δl BK292.out 2).trans rfl
        have hfs32:=δm BK292.out 2
        have hns32_1:=NB304_292.out
        have hms32_1:=NB292_304.out
        have hs33:w29.cell? ⟨gb292,3,none⟩=some (.int .i64 0):=(δl BK292.out 3).trans rfl
        have hfs33:=δm BK292.out 3
        have hns33_1:=NB304_292.out
        have hms33_1:=NB292_304.out
        refine skip_ (w1:=?_) (by rfl) rfl ?_ ?_
        rotate_left
        ·
         go_simp
         rfl
        refine hK.out _ _ ⟨((δt (p:=⟨gb292,_,none⟩) NB304_292.out _).trans (((δt (p:=⟨gb292,_,none⟩) NB304_292.out _).trans (((δt (p:=⟨gb292,_,none⟩) NB304_292.out _).trans (((δt (p:=⟨gb292,_,none⟩) NB304_292.out _).trans (hHeld.1)))))))),((δt (p:=⟨gb292,_,none⟩) NB304_292.out _).trans (((δt (p:=⟨gb292,_,none⟩) NB304_292.out _).trans (((δt (p:=⟨gb292,_,none⟩) NB304_292.out _).trans (((δt (p:=⟨gb292,_,none⟩) NB304_292.out _).trans (hHeld.2.1)))))))),((δt (p:=⟨gb292,_,none⟩) NB304_292.out _).trans (((δt (p:=⟨gb292,_,none⟩) NB304_292.out _).trans (((δt (p:=⟨gb292,_,none⟩) NB304_292.out _).trans (((δt (p:=⟨gb292,_,none⟩) NB304_292.out _).trans (hHeld.2.2.1)))))))),((δt (p:=⟨gb292,_,none⟩) NB304_292.out _).trans (((δt (p:=⟨gb292,_,none⟩) NB304_292.out _).trans (((δt (p:=⟨gb292,_,none⟩) NB304_292.out _).trans (((δt (p:=⟨gb292,_,none⟩) NB304_292.out _).trans (hHeld.2.2.2))))))))⟩ (fun hHeld => ?_)
        clear hK K
        refine ζk (i:=4) (N:=some 3) (v:=?_) (a':=?_) #[τ,τ,τ,τ,τ] rfl rfl (by kernel_rfl) (fun _ _ _ h=>h) (Or.inl ⟨by rfl,?_⟩) ?_ ?_
        rotate_left
        · intro w';go_simp;with_reducible rfl
        rotate_left
        · simp only [ζl,δa,δb,δc,i64_w,i32_w];rfl
        refine done_ (by kernel_rfl) ?_
        try go_wp2
        refine bodyPost_ret (results_ct rfl _ _ gb292 60 #[.string (rdOf ByteArray.empty t293 1),.string (rdOf ByteArray.empty t293 2),.string (rdOf ByteArray.empty t293 3),.int .i64 t299] (0,0) _ rfl (by refine δw (cs:=#[.string (rdOf ByteArray.empty t293 1),.string (rdOf ByteArray.empty t293 2),.string (rdOf ByteArray.empty t293 3),.int .i64 0]) ?_ 3 _ rfl;refine δw (cs:=#[.string (rdOf ByteArray.empty t293 1),.string (rdOf ByteArray.empty t293 2),.string (⟨#[]⟩:ByteArray),.int .i64 0]) ?_ 2 _ rfl;refine δw (cs:=#[.string (rdOf ByteArray.empty t293 1),.string (⟨#[]⟩:ByteArray),.string (⟨#[]⟩:ByteArray),.int .i64 0]) ?_ 1 _ rfl;refine δw (cs:=#[.string (⟨#[]⟩:ByteArray),.string (⟨#[]⟩:ByteArray),.string (⟨#[]⟩:ByteArray),.int .i64 0]) ?_ 0 _ rfl;exact BK292.out) Tryz.underlying60 rfl (by kernel_rfl)) rfl ?_
        exact ⟨by rfl,by repeat ((with_reducible first|exact HB.out|refine δq ?_ GE292.out))⟩
       ·
        rw [if_neg c17] at H
        exact absurd H (by simp)
      ·
       rw [if_neg c16] at H
       exact absurd H (by simp)
     ·
      rw [if_neg c15] at H
      exact absurd H (by simp)
    ·
     rw [if_neg c13] at H
     exact absurd H (by simp)




/-! ### strings_Compare: function 108 -/
def strings_Compare.f (a0 : ByteArray) (a1 : ByteArray) : Option Int := some (Lib.compareBytes a0.data.toList a1.data.toList)
theorem strings_Compare.calls (a0 : ByteArray) (a1 : ByteArray) (r : Int) (w : World) (h : strings_Compare.f a0 a1 = some r) :
    Calls Tryz.prog 108 #[.string a0, .string a1] w fun e w' => e = .returned (.int .i64 r) ∧ Drawn0 w w' := by
  obtain rfl := Option.some.inj h
  refine (Tryz.strings_Compare a0 a1 w).mono ?_
  rintro e w' ⟨rfl, rfl⟩
  exact ⟨rfl, Drawn0.refl _⟩


open Go.Proofs.YtjhhehjjnfnigaaGreatDoorW.PrintWords renaming gate_dst → δx, below_step → δr, blk_cell → δl, blk_frozen → δm, gate_callee → δv, pw_below_drewN → δi
set_option maxHeartbeats 8000000
set_option maxRecDepth 100000

/-! ### impl_pairAt_1: function 107 -/
def impl_pairAt_1.f (a0_0:ByteArray) (a0_1:ByteArray) (a1:ByteArray):Option (Int):=(strings_Compare.f a0_0 a1).bind fun t307=>(some t307)
theorem impl_pairAt_1.calls (a0_0:ByteArray) (a0_1:ByteArray) (a1:ByteArray) (r:Int) (w:World) (h:impl_pairAt_1.f a0_0 a0_1 a1=some r) :
  Calls Tryz.prog 107 #[.agg #[.string a0_0,.string a0_1],.string a1] w fun e w'=>e = .returned (.int .i64 r)∧Below w.heap.size w w':=by
 have hu37:=Tryz.underlying37
 have HB:=ζa (Below.refl w.heap.size w)
 have H:((strings_Compare.f a0_0 a1).bind fun t307=>(some t307))=some r:=h
 clear h
 obtain ⟨t307,A3,H⟩:=bsm H
 obtain rfl:=Option.some.inj H
 go_enter Tryz.func107,Tryz.ntmps107
 go_wp2_with (first|((with_reducible refine δx (N:=2) rfl ?_);refine bev 2 #[.string a0_0,.string a0_1] 37 ?_;intro gb306 hg w4 hbox hb;have BK306:=ζa (hbox);have GW306:=ζa (gbw hg (by exact HB.out));have GE306:=ζa (gbw hg (by exact HB.out));replace HB:=ζa (δr (by exact HB.out) hb);clear hb hbox hg;have hcz5_0:w4.cell? ⟨gb306,0,none⟩=some (.string a0_0):=(δl BK306.out 0).trans rfl;have hcz5_1:w4.cell? ⟨gb306,1,none⟩=some (.string a0_1):=(δl BK306.out 1).trans rfl;have hfz5_0:=δm BK306.out 0;have hfz5_1:=δm BK306.out 1)|((with_reducible refine δv (f:=108) rfl ?_);refine gl 8 Tryz.func108 #[.string a0_0,.string a1] ?_;(with_reducible refine (strings_Compare.calls a0_0 a1 t307 _ A3.out).mono ?_);rintro e w' ⟨rfl,⟨nd,rfl⟩⟩;refine ⟨_,rfl,?_⟩))
 go_ret
 exact ⟨by rfl,by repeat ((with_reducible first|exact HB.out|apply δi))⟩


open Go.Proofs.YtjhhehjjnfnigaaGreatDoorW.PrintWords renaming below_step → δr
set_option maxHeartbeats 8000000
set_option maxRecDepth 100000


/-! ### impl_pairAt: function 88 -/
def impl_pairAt.l0:Nat→List S37→ByteArray→Int→Int→Option Int
 | 0,_,_,_,_=>none
 | k+1,l,key,i,j=>if i<j then (if 0≤(i+j) / 2 then (if (i+j) / 2<(l.length:Int) then (if Lib.compareBytes ((rd_T37 l ((i+j) / 2)).f0).data.toList key.data.toList<0 then (impl_pairAt.l0 k l key ((i+j) / 2+1) j) else (impl_pairAt.l0 k l key i ((i+j) / 2))) else none) else none) else some i
def impl_pairAt.hit (l:List S37) (key:ByteArray) (r:Int):Bool:=decide (r<(l.length:Int)) && (Lib.compareBytes ((rd_T37 l r).f0).data.toList key.data.toList == 0)
def impl_pairAt.f (k:Nat) (l0:List S37) (a1:ByteArray):Option (Int × Bool):=(impl_pairAt.l0 k l0 a1 0 (l0.length:Int)).bind fun r=>if (l0.length:Int)<1000000000000 then (if 0≤r then (if r≤(l0.length:Int) then some (r,impl_pairAt.hit l0 a1 r) else none) else none) else none
theorem impl_pairAt.lit (x:S37) (key:ByteArray) (w:World) :
  Calls Tryz.prog 107 #[.agg #[.string x.f0,.string x.f1],.string key] w fun e w'=>e = .returned (.int .i64 (Lib.compareBytes x.f0.data.toList key.data.toList))∧Below w.heap.size w w' :=
 impl_pairAt_1.calls x.f0 x.f1 key _ w rfl
theorem impl_pairAt.search (k:Nat) (A0:Option Addr) (c0:Nat) (l0:List S37) (key:ByteArray) (r:Int) (w:World) (hr0:Kd.C k37 w A0 l0.length l0)
  (h:impl_pairAt.l0 k l0 key 0 (l0.length:Int)=some r) (hlen:(l0.length:Int)<1000000000000) (hr:0≤r) (hr':r≤(l0.length:Int)) :
  Calls Tryz.prog 106 #[.slice A0 l0.length c0,.string key,.func (.func 107) #[] #[]] w fun e w'=>e = .returned (.tuple #[.int .i64 r,.bool (impl_pairAt.hit l0 key r)])∧Below w.heap.size w w':=by
 have HR0:=ζa hr0
 have HB:=ζa (Below.refl w.heap.size w)
 clear hr0
 have H':=ζa h
 clear h
 go_enter Tryz.func106,Tryz.ntmps106
 go_wp2
 go_loopg [9,10] k (fun kq v9 v10 w' => ∃ i j:Int,v9 = .int .i64 i∧v10 = .int .i64 j∧0≤i∧i≤j∧j≤(l0.length:Int)∧Aside0 (impl_pairAt.l0 kq l0 key i j=some r)∧Aside0 (Below w.heap.size w w'))
 case atStart=>exact ⟨0,(l0.length:Int),rfl,rfl,by omega,by omega,by omega,H',HB⟩
 case round =>
  clear H' HB
  obtain ⟨i,j,rfl,rfl,g0,g1,g2,HA,HB⟩:=hrel
  cases gk with
  | zero=>exact absurd HA.out (by simp [impl_pairAt.l0])
  | succ k1 =>
   have H:=HA.out
   clear HA
   simp only [impl_pairAt.l0] at H
   by_cases c2:i<j
   ·
    rw [if_pos c2] at H
    have p0:0≤(i+j) / 2:=by omega
    have p1:(i+j) / 2<(l0.length:Int):=by omega
    rw [if_pos p0,if_pos p1] at H
    obtain ⟨ad,e1,hx0,hx1⟩:=at_T37 HR0.out _ p0 p1
    cases e1
    replace hx0:=(HB.out.cell (World.block_lt_of_cell? w _ hx0)).trans hx0
    replace hx1:=(HB.out.cell (World.block_lt_of_cell? w _ hx1)).trans hx1
    have hcall:=impl_pairAt.lit (rd_T37 l0 ((i+j) / 2)) key
    obtain ⟨X,hX⟩ : ∃ X,Lib.compareBytes ((rd_T37 l0 ((i+j) / 2)).f0).data.toList key.data.toList=X:=⟨_,rfl⟩
    rw [hX] at hcall H
    clear hX
    have hcall':=ζa hcall
    clear hcall
    go_wp2_with fail
    refine (hcall'.out _).mono ?_
    rintro e w' ⟨rfl,hb⟩
    have HB2:=ζa (δr HB.out hb)
    clear hb HB hcall'
    by_cases c3:X<0
    ·
     rw [if_pos c3] at H
     have H':=ζa H
     clear H hr hr'
     have hw1:IntKind.i64.wrap ((i+j) / 2+1)=(i+j) / 2+1:=IntWalk.i64_in _ (by omega)
     have q1:(i+j) / 2<j:=by omega
     have c3b:decide (X<0)=τ:=decide_eq_true c3
     clear c3
     generalize hm:(i+j) / 2=m at *
     clear hm p1
     go_wp2
     go_roundg k1
     case measure=>omega
     case rel=>exact ⟨m+1,j,by rfl,rfl,by omega,by omega,by omega,H',HB2⟩
    ·
     rw [if_neg c3] at H
     have H':=ζa H
     clear H hr hr'
     have q1:(i+j) / 2<j:=by omega
     have q2:i≤(i+j) / 2:=by omega
     have c3b:decide (X<0)=φ:=decide_eq_false c3
     clear c3
     generalize hm:(i+j) / 2=m at *
     clear hm p1
     go_wp2
     go_roundg k1
     case measure=>omega
     case rel=>exact ⟨i,m,rfl,by rfl,by omega,by omega,by omega,H',HB2⟩
   ·
    rw [if_neg c2] at H
    obtain rfl:=Option.some.inj H
    obtain rfl:i=j:=by omega
    by_cases c4:i<(l0.length:Int)
    ·
     obtain ⟨ad,e1,hx0,hx1⟩:=at_T37 HR0.out _ g0 c4
     cases e1
     replace hx0:=(HB.out.cell (World.block_lt_of_cell? w _ hx0)).trans hx0
     replace hx1:=(HB.out.cell (World.block_lt_of_cell? w _ hx1)).trans hx1
     have hfin:Aside0 (impl_pairAt.hit l0 key i=(Lib.compareBytes ((rd_T37 l0 i).f0).data.toList key.data.toList == 0)):=⟨by unfold impl_pairAt.hit;rw [decide_eq_true c4];rfl⟩
     have hcall:=impl_pairAt.lit (rd_T37 l0 i) key
     obtain ⟨X,hX⟩ : ∃ X,Lib.compareBytes ((rd_T37 l0 i).f0).data.toList key.data.toList=X:=⟨_,rfl⟩
     rw [hX] at hcall hfin
     clear hX
     have hcall':=ζa hcall
     clear hcall
     go_wp2_with fail
     refine (hcall'.out _).mono ?_
     rintro e w' ⟨rfl,hb⟩
     have HB2:=ζa (δr HB.out hb)
     clear hb HB hcall'
     go_wp2
     go_ret2
     exact ⟨by rw [hfin.out];rfl,HB2.out⟩
    ·
     have hfin:Aside0 (impl_pairAt.hit l0 key i=φ):=⟨by unfold impl_pairAt.hit;rw [decide_eq_false c4];rfl⟩
     go_wp2
     go_ret2
     exact ⟨by rw [hfin.out];rfl,HB.out⟩
theorem impl_pairAt.calls (k:Nat) (A0:Option Addr) (c0:Nat) (l0:List (S37)) (a1:ByteArray) (r1:Int) (r2:Bool) (w:World) (hr0:Kd.C k37 w A0 l0.length l0) (hc0:l0.length≤c0) (h:impl_pairAt.f k l0 a1=some (r1,r2)) :
  Calls Tryz.prog 88 #[.slice A0 l0.length c0,.string a1] w fun e w'=>e = .returned (.tuple #[.int .i64 r1,.bool r2])∧Below w.heap.size w w':=by
 obtain ⟨r,hl,h⟩:=Option.bind_eq_some_iff.mp h
 by_cases c1:(l0.length:Int)<1000000000000
 ·
  rw [if_pos c1] at h
  by_cases c2:0≤r
  ·
   rw [if_pos c2] at h
   by_cases c3:r≤(l0.length:Int)
   ·
    rw [if_pos c3] at h
    simp only [Option.some.injEq,Prod.mk.injEq] at h
    obtain ⟨rfl,rfl⟩:=h
    have HL:=ζa hl
    clear hl
    go_enter Tryz.func88,Tryz.ntmps88
    go_wp2_with fail
    refine (impl_pairAt.search k A0 c0 l0 a1 r _ hr0 HL.out c1 c2 c3).mono ?_
    rintro e w' ⟨rfl,hb⟩
    have HB2:=ζa hb
    clear hb
    go_wp2
    go_ret2
    exact ⟨rfl,HB2.out⟩
   · rw [if_neg c3] at h;cases h
  ·
   rw [if_neg c2] at h;cases h
 · rw [if_neg c1] at h;cases h


set_option maxHeartbeats 8000000
set_option maxRecDepth 100000

/-! ### impl_get: function 58 -/
def impl_get.f (k:Nat) (l0:List (S37)) (a1:ByteArray):Option (ByteArray × Bool):=(impl_pairAt.f k l0 a1).bind fun bt308=>(if bt308.2=τ then (if 0≤bt308.1 then (if bt308.1<(l0.length:Int) then (some ((rd_T37 l0 bt308.1).f1,τ)) else (none)) else (none)) else (some ((⟨#[]⟩:ByteArray),φ)))
theorem impl_get.calls (k:Nat) (A0:Option Addr) (c0:Nat) (l0:List (S37)) (a1:ByteArray) (r1:ByteArray) (r2:Bool) (w:World) (hr0:Kd.C k37 w A0 l0.length l0) (hc0:l0.length≤c0) (h:impl_get.f k l0 a1=some (r1,r2)) :
  Calls Tryz.prog 58 #[.slice A0 l0.length c0,.string a1] w fun e w'=>e = .returned (.tuple #[.string r1,.bool r2])∧Below w.heap.size w w':=by
 have HR0:=ζa hr0
 have HC0:=ζa hc0
 clear hr0 hc0
 have HB:=ζa (Below.refl w.heap.size w)
 have H:((impl_pairAt.f k l0 a1).bind fun bt308=>(if bt308.2=τ then (if 0≤bt308.1 then (if bt308.1<(l0.length:Int) then (some ((rd_T37 l0 bt308.1).f1,τ)) else (none)) else (none)) else (some ((⟨#[]⟩:ByteArray),φ))))=some (r1,r2):=h
 clear h
 obtain ⟨⟨t308,t309⟩,A3,H⟩:=bsm H
 dsimp only at H
 by_cases c4:t309=τ
 ·
  subst c4
  rw [ifT] at H
  by_cases c5:0≤t308
  ·
   rw [if_pos c5] at H
   have c5b0:=decide_eq_true c5
   clear c5
   by_cases c6:t308<(l0.length:Int)
   ·
    rw [if_pos c6] at H
    have c6b0:=decide_eq_true c6
    clear c6
    simp only [Option.some.injEq,Prod.mk.injEq] at H
    obtain ⟨rfl,rfl⟩:=H
    go_enter Tryz.func58,Tryz.ntmps58
    go_wp2_with (((with_reducible refine δv (f:=88) rfl ?_);refine gl 11 Tryz.func88 #[.slice A0 l0.length c0,.string a1] ?_;(with_reducible refine (impl_pairAt.calls k _ _ l0 a1 t308 τ _ ?side1 ?side2 A3.out).mono ?_);(case side1=>repeat (exact HR0.out));(case side2=>exact HC0.out);rintro e w7 ⟨rfl,hb⟩;refine ⟨_,rfl,?_⟩;replace HB:=ζa (δr (by exact HB.out) hb);(try clear hb);(try clear hb2);(try clear hk);(try clear hi);have p310:0≤(t308:Int):=of_decide_eq_true (by (with_reducible assumption));have q310:t308<(l0.length:Int):=of_decide_eq_true (by (with_reducible assumption));obtain ⟨ad310,e310,hx310_0,hx310_1⟩:=at_T37 HR0.out t308 p310 q310;cases e310;replace hx310_0:=(HB.out.cell (World.block_lt_of_cell? w _ hx310_0)).trans hx310_0;replace hx310_1:=(HB.out.cell (World.block_lt_of_cell? w _ hx310_1)).trans hx310_1;replace p310:=eq_true p310;replace q310:=eq_true q310))
    go_ret2
    exact ⟨by rfl,by repeat ((with_reducible exact HB.out))⟩
   ·
    rw [if_neg c6] at H
    exact absurd H (by simp)
  ·
   rw [if_neg c5] at H
   exact absurd H (by simp)
 ·
  replace c4:=Bool.eq_false_iff.mpr c4
  subst c4
  rw [ifF] at H
  simp only [Option.some.injEq,Prod.mk.injEq] at H
  obtain ⟨rfl,rfl⟩:=H
  go_enter Tryz.func58,Tryz.ntmps58
  go_wp2_with (((with_reducible refine δv (f:=88) rfl ?_);refine gl 11 Tryz.func88 #[.slice A0 l0.length c0,.string a1] ?_;(with_reducible refine (impl_pairAt.calls k _ _ l0 a1 t308 φ _ ?side1 ?side2 A3.out).mono ?_);(case side1=>repeat (exact HR0.out));(case side2=>exact HC0.out);rintro e w8 ⟨rfl,hb⟩;refine ⟨_,rfl,?_⟩;replace HB:=ζa (δr (by exact HB.out) hb);(try clear hb);(try clear hb2);(try clear hk);(try clear hi)))
  go_ret2
  exact ⟨by rfl,by repeat ((with_reducible exact HB.out))⟩


set_option maxHeartbeats 8000000
set_option maxRecDepth 100000

/-! ### impl_orderKey: function 59 -/
def impl_orderKey.f (a0:ByteArray):Option (ByteArray):=if 2+a0.size≤9223372036854775807 then (some ((⟨#[111,47]⟩:ByteArray) ++ a0)) else (none)
theorem impl_orderKey.calls (a0:ByteArray) (r:ByteArray) (w:World) (h:impl_orderKey.f a0=some r) :
  Calls Tryz.prog 59 #[.string a0] w fun e w'=>e = .returned (.string r)∧Drawn0 w w':=by
 have H:(if 2+a0.size≤9223372036854775807 then (some ((⟨#[111,47]⟩:ByteArray) ++ a0)) else (none))=some r:=h
 clear h
 by_cases c2:2+a0.size≤9223372036854775807
 ·
  rw [if_pos c2] at H
  have c2b0:=eq_true c2
  have c2b1:=decide_eq_true c2
  try have c2b2:(9223372036854775807<2+a0.size)=False:=eq_false (Nat.not_lt.2 c2)
  obtain rfl:=Option.some.inj H
  go_enter Tryz.func59,Tryz.ntmps59
  go_wp2
  go_ret
  exact ⟨by rfl,by repeat (exact Drawn0.refl _)⟩
 ·
  rw [if_neg c2] at H
  exact absurd H (by simp)


open Go.Proofs.YtjhhehjjnfnigaaGreatDoorW.PrintWords renaming gate_dst → δx, below_size → δs, below_step → δr, below_set → δq
set_option maxHeartbeats 8000000
set_option maxRecDepth 100000

/-! ### impl_number: function 112 -/
def impl_number.l0:Nat→Int→List Int→Int→Option (ByteArray)
 | 0,_,_,_=>none
 | k+1,x0,x5,x6=>if x6 ≥ 0 then (if 0≤x6 then (if x6<(x5.length:Int) then (impl_number.l0 k (x0 / 256) (x5.set (x6:Int).toNat ((x0) % 256)) (ζm (x6 - 1))) else (none)) else (none)) else (some (strOfNums x5))
def impl_number.f (k:Nat) (a0:Int) (a1:Int):Option (ByteArray):=if 0≤a1 then (if (a1:Int).toNat≤281474976710656 then (impl_number.l0 k a0 (List.replicate (a1:Int).toNat 0) (ζm (a1 - 1))) else (none)) else (none)
theorem impl_number.calls (k:Nat) (a0:Int) (a1:Int) (r:ByteArray) (w:World) (h:impl_number.f k a0 a1=some r) :
  Calls Tryz.prog 112 #[.int .i64 a0,.int .i64 a1] w fun e w'=>e = .returned (.string r)∧Below w.heap.size w w':=by
 have HB:=ζa (Below.refl w.heap.size w)
 have H:(if 0≤a1 then (if (a1:Int).toNat≤281474976710656 then (impl_number.l0 k a0 (List.replicate (a1:Int).toNat 0) (ζm (a1 - 1))) else (none)) else (none))=some r:=h
 clear h
 by_cases c3:0≤a1
 ·
  rw [if_pos c3] at H
  have c3b0:=eq_true c3
  have c3b1:=decide_eq_true c3
  clear c3
  by_cases c4:(a1:Int).toNat≤281474976710656
  ·
   rw [if_pos c4] at H
   have c4b0:=eq_true c4
   have c4b1:=decide_eq_true c4
   clear c4
   obtain ⟨y311,hy311⟩ : ∃ y_:List Int,y_=(List.replicate (a1:Int).toNat 0):=⟨_,rfl⟩
   replace H:(impl_number.l0 k a0 y311 (ζm (a1 - 1)))=some r:=by (rw [hy311];with_reducible exact H)
   have Ny311:=ζa hy311
   clear hy311
   have H':=ζa H
   clear H
   go_enter Tryz.func112,Tryz.ntmps112
   go_wp2_with (((with_reducible refine δx (N:=8) rfl ?_);refine Kd.R_make (Kd.int .u8) _ 5 rfl (N:=8) rfl 70 _ _ rfl a1 rfl rfl Tryz.underlying70 (.int .u8 0) 1 info5 rfl (by decide) (by omega) 0 (ok:=fun _=>True) (okp:=fun _=>True) rfl (fun _ hk=>hk) trivial (of_decide_eq_true (by (with_reducible assumption))) (Nat.le_trans (Nat.mul_le_mul_right _ (of_decide_eq_true (by (with_reducible assumption)):a1.toNat≤281474976710656)) (by omega)) (Below.refl _ _) (Nat.le_refl _) ?_;intro v312 w5 ho6 hb hg_ hnew_;clear hg_ hnew_;(rw [← Ny311.out] at ho6);have HO313:=ζa (Kd.R_lower ho6 (δs (by exact HB.out)));replace HB:=ζa (δr (by exact HB.out) hb);clear hb ho6))
   go_loopg [0,6] k (fun kq v0 v6 w' => ∃ (x0_1:Int) (x5_1:List Int) (x6_1:Int),v0 = .int .i64 x0_1∧v6 = .int .i64 x6_1∧Aside0 (impl_number.l0 kq x0_1 x5_1 x6_1=some r)∧Aside0 (kq≤k)∧Aside0 (Kd.R (Kd.int .u8) 5 w' w.heap.size (fun _=>True) v312 x5_1)∧Aside0 (Below w.heap.size w w'))
   case atStart=>exact ⟨(a0),(y311),(ζm (a1 - 1)),(by rfl),(by rfl),H',⟨Nat.le_refl _⟩,⟨by exact HO313.out⟩,⟨by repeat ((with_reducible exact HB.out))⟩⟩
   case round =>
    clear H'
    try clear c1
    try clear p2
    try clear c3
    try clear c3b0
    try clear c3b1
    try clear c4
    try clear c4b0
    try clear c4b1
    try clear p6
    obtain ⟨x0_1,x5_1,x6_1,rfl,rfl,HA,HK1,HO_5,HB⟩:=hrel
    cases gk with
    | zero=>exact absurd HA.out (by simp [impl_number.l0])
    | succ k1 =>
     have H:=HA.out
     clear HA
     simp only [impl_number.l0] at H
     by_cases c7:x6_1 ≥ 0
     ·
      rw [if_pos c7] at H
      have c7b0:decide (0≤x6_1)=τ:=decide_eq_true c7
      clear c7
      by_cases c8:0≤x6_1
      ·
       rw [if_pos c8] at H
       have c8b0:=decide_eq_true c8
       clear c8
       by_cases c9:x6_1<(x5_1.length:Int)
       ·
        rw [if_pos c9] at H
        have c9b0:=decide_eq_true c9
        clear c9
        obtain ⟨y314,hy314⟩ : ∃ y_:List Int,y_=(x5_1.set (x6_1:Int).toNat ((x0_1) % 256)):=⟨_,rfl⟩
        replace H:(impl_number.l0 k1 (x0_1 / 256) y314 (ζm (x6_1 - 1)))=some r:=by (rw [hy314];with_reducible exact H)
        have Ny314:=ζa hy314
        clear hy314
        have H':=ζa H
        clear H
        have p10:0≤(x6_1:Int):=of_decide_eq_true (by (with_reducible assumption))
        have q10:(x6_1:Int)<((x5_1.length:Int):Int):=of_decide_eq_true (by (with_reducible assumption))
        obtain ⟨go10,co10,eo10,gb10,gl10,cl10,HG10⟩:=Kd.R_form HO_5.out (by omega)
        (cases eo10)
        have GB10:=ζa gb10
        have GG10:=ζa HG10
        clear gb10 gl10 HG10
        obtain ⟨hx10_0,hf10_0⟩:=Kd.R_celln 0 HO_5.out (x6_1:Int) p10 q10
        replace p10:=eq_true p10
        replace q10:=eq_true q10
        have HP11:=Kd.R_putg HO_5.out (x6_1:Int) ((x0_1) % 256)
        go_wp2_with (((with_reducible refine gate_store (t:=5) (p:=19) rfl ?_);refine store_event (t:=5) (p:=19) (v:=?vo_w12) (w1:=(wr.setCell ⟨go10,(x6_1:Int).toNat,none⟩ (.int .u8 ((x0_1) % 256)))) ?hg ?ho ?hn ?hr ?_;(case ho=>rfl);(case hg=>rfl);(case hn=>rfl);(case hr=>(go_simp;done));intro w12 hw;have hg:wr.grownBy w12 (some go10):=(by rw [hw];exact HP11.2);have hp_:Kd.R (Kd.int .u8) 5 w12 w.heap.size (fun _=>True) (.slice (some ⟨go10,0,none⟩) x5_1.length co10) y314:=(by rw [hw,Ny314.out];exact HP11.1);clear HP11;replace HO_5:=ζa (hp_);replace HB:=ζa ((by rw [hw];exact δq (HB.out) GB10.out:Below w.heap.size w w12));clear hg hw hp_))
        go_roundg k1
        case measure=>have:=HK1.out;omega
        case rel=>exact ⟨(x0_1 / 256),(y314),(ζm (x6_1 - 1)),(by rfl),(by rfl),H',⟨by have:=HK1.out;omega⟩,⟨by exact HO_5.out⟩,⟨by repeat ((with_reducible exact HB.out))⟩⟩
       ·
        rw [if_neg c9] at H
        exact absurd H (by simp)
      ·
       rw [if_neg c8] at H
       exact absurd H (by simp)
     ·
      rw [if_neg c7] at H
      have c7b0:decide (0≤x6_1)=φ:=decide_eq_false c7
      clear c7
      obtain rfl:=Option.some.inj H
      have hcv13:=own_string (P:=Tryz.prog) Tryz.underlying70 Tryz.underlying5 Tryz.underlying9 (Kd.own_of_R HO_5.out)
      go_wp2
      go_ret
      exact ⟨by rfl,by repeat ((with_reducible exact HB.out))⟩
  ·
   rw [if_neg c4] at H
   exact absurd H (by simp)
 ·
  rw [if_neg c3] at H
  exact absurd H (by simp)


set_option maxHeartbeats 8000000
set_option maxRecDepth 100000

/-! ### impl_fields: function 98 -/
def impl_fields.l0:Nat→ByteArray→List ByteArray→Int→Int→Option (ByteArray)
 | 0,_,_,_,_=>none
 | k+1,x3,x9,x10,x11=>if x11<x10 then (if 0≤x11 then (if x11<(x9.length:Int) then ((impl_number.f k ((rdOf ByteArray.empty x9 x11).size:Int) 2).bind fun t317=>(if t317.size+(rdOf ByteArray.empty x9 x11).size≤9223372036854775807 then (if x3.size+(t317 ++ (rdOf ByteArray.empty x9 x11)).size≤9223372036854775807 then (impl_fields.l0 k (x3 ++ (t317 ++ (rdOf ByteArray.empty x9 x11))) x9 x10 (ζm (x11+1))) else (none)) else (none))) else (none)) else (none)) else (some x3)
def impl_fields.f (k:Nat) (l0:List ByteArray):Option (ByteArray):=(impl_number.f k (l0.length:Int) 1).bind fun t315=>(impl_fields.l0 k t315 l0 (l0.length:Int) 0)
theorem impl_fields.calls (k:Nat) (A0:Option Addr) (c0:Nat) (l0:List ByteArray) (r:ByteArray) (w:World) (hr0:Kd.C Kd.string w A0 l0.length l0) (hc0:l0.length≤c0) (h:impl_fields.f k l0=some r) :
  Calls Tryz.prog 98 #[.slice A0 l0.length c0] w fun e w'=>e = .returned (.string r)∧Below w.heap.size w w':=by
 have HR0:=ζa hr0
 have HC0:=ζa hc0
 clear hr0 hc0
 have HB:=ζa (Below.refl w.heap.size w)
 have H:((impl_number.f k (l0.length:Int) 1).bind fun t315=>(impl_fields.l0 k t315 l0 (l0.length:Int) 0))=some r:=h
 clear h
 obtain ⟨t315,A2,H⟩:=bsm H
 have H':=ζa H
 clear H
 go_enter Tryz.func98,Tryz.ntmps98
 go_wp2_with (((with_reducible refine δv (f:=112) rfl ?_);refine gl 8 Tryz.func112 #[.int .i64 (l0.length:Int),.int .i64 1] ?_;(with_reducible refine (impl_number.calls k (l0.length:Int) 1 t315 _ A2.out).mono ?_);rintro e w3 ⟨rfl,hb⟩;refine ⟨_,rfl,?_⟩;replace HB:=ζa (δr (by exact HB.out) hb);(try clear hb);(try clear hb2);(try clear hk);(try clear hi)))
 go_loopg [3,11] k (fun kq v3 v11 w' => ∃ (x3_1:ByteArray) (x11_1:Int),v3 = .string x3_1∧v11 = .int .i64 x11_1∧Aside0 (impl_fields.l0 kq x3_1 l0 (l0.length:Int) x11_1=some r)∧Aside0 (kq≤k)∧Aside0 (Below w.heap.size w w'))
 case atStart=>exact ⟨(t315),(0),(by rfl),(by rfl),H',⟨Nat.le_refl _⟩,⟨by repeat ((with_reducible exact HB.out))⟩⟩
 case round =>
  clear H'
  try clear c1
  try clear p2
  obtain ⟨x3_1,x11_1,rfl,rfl,HA,HK1,HB⟩:=hrel
  cases gk with
  | zero=>exact absurd HA.out (by simp [impl_fields.l0])
  | succ k1 =>
   have H:=HA.out
   clear HA
   simp only [impl_fields.l0] at H
   by_cases c4:x11_1<(l0.length:Int)
   ·
    rw [if_pos c4] at H
    have c4b0:=decide_eq_true c4
    clear c4
    by_cases c5:0≤x11_1
    ·
     rw [if_pos c5] at H
     have c5b0:=decide_eq_true c5
     clear c5
     by_cases c6:x11_1<(l0.length:Int)
     ·
      rw [if_pos c6] at H
      have c6b0:=decide_eq_true c6
      clear c6
      obtain ⟨t317,A7,H⟩:=bsm H
      by_cases c8:t317.size+(rdOf ByteArray.empty l0 x11_1).size≤9223372036854775807
      ·
       rw [if_pos c8] at H
       have c8b0:=eq_true c8
       have c8b1:=decide_eq_true c8
       try have c8b2:(9223372036854775807<t317.size+(rdOf ByteArray.empty l0 x11_1).size)=False:=eq_false (Nat.not_lt.2 c8)
       by_cases c9:x3_1.size+(t317 ++ (rdOf ByteArray.empty l0 x11_1)).size≤9223372036854775807
       ·
        rw [if_pos c9] at H
        have c9b0:=eq_true c9
        have c9b1:=decide_eq_true c9
        try have c9b2:(9223372036854775807<x3_1.size+(t317 ++ (rdOf ByteArray.empty l0 x11_1)).size)=False:=eq_false (Nat.not_lt.2 c9)
        have H':=ζa H
        clear H
        have p316:0≤(x11_1:Int):=of_decide_eq_true (by (with_reducible assumption))
        have q316:x11_1<(l0.length:Int):=of_decide_eq_true (by (with_reducible assumption))
        obtain ⟨ad316,e316,hx316_0⟩:=Kd.at_string HR0.out x11_1 p316 q316
        cases e316
        replace hx316_0:=(HB.out.cell (World.block_lt_of_cell? w _ hx316_0)).trans hx316_0
        replace p316:=eq_true p316
        replace q316:=eq_true q316
        go_wp2_with (((with_reducible refine δv (f:=112) rfl ?_);refine gl 18 Tryz.func112 #[.int .i64 ((rdOf ByteArray.empty l0 x11_1).size:Int),.int .i64 2] ?_;(with_reducible refine (impl_number.calls k1 ((rdOf ByteArray.empty l0 x11_1).size:Int) 2 t317 _ A7.out).mono ?_);rintro e w10 ⟨rfl,hb⟩;refine ⟨_,rfl,?_⟩;replace HB:=ζa (δr (by exact HB.out) hb);(try clear hb);(try clear hb2);(try clear hk);(try clear hi)))
        go_roundg k1
        case measure=>have:=HK1.out;omega
        case rel=>exact ⟨(x3_1 ++ (t317 ++ (rdOf ByteArray.empty l0 x11_1))),(ζm (x11_1+1)),(by rfl),(by rfl),H',⟨by have:=HK1.out;omega⟩,⟨by repeat ((with_reducible exact HB.out))⟩⟩
       ·
        rw [if_neg c9] at H
        exact absurd H (by simp)
      ·
       rw [if_neg c8] at H
       exact absurd H (by simp)
     ·
      rw [if_neg c6] at H
      exact absurd H (by simp)
    ·
     rw [if_neg c5] at H
     exact absurd H (by simp)
   ·
    rw [if_neg c4] at H
    have c4b0:=decide_eq_false c4
    clear c4
    obtain rfl:=Option.some.inj H
    go_wp2
    go_ret
    exact ⟨by rfl,by repeat ((with_reducible exact HB.out))⟩


open Go.Proofs.YtjhhehjjnfnigaaGreatDoorW.PrintWords renaming gate_dst → δx, below_step → δr, blk_cell → δl, blk_frozen → δm, blk_drew → δp, below_drew1 → δj, below_size → δs
open Go.Proofs.YtjhhehjjnfnigaaGreatDoorW.PrintWords.Kd renaming R_reads' → ζg, R_below → ζh
set_option maxHeartbeats 8000000
set_option maxRecDepth 100000

/-! ### impl_Order_value: function 72 -/
def impl_Order_value.j0:Nat→ByteArray→ByteArray→ByteArray→Int→Int→Int→Bool→Option (ByteArray)
 | 0,_,_,_,_,_,_,_=>none
 | k+1,x3,x319000,x319001,x319002,x319003,x319004,x319005=>(impl_amountText.f x319002).bind fun t319=>((impl_amountText.f x319003).bind fun t320=>((impl_amountText.f x319004).bind fun t321=>((impl_fields.f k (([x319001,t319,t320,t321,x3]:List ByteArray))).bind fun t325=>(some t325))))
def impl_Order_value.f (k:Nat) (a0_0:ByteArray) (a0_1:ByteArray) (a0_2:Int) (a0_3:Int) (a0_4:Int) (a0_5:Bool):Option (ByteArray):=if a0_5=τ then (impl_Order_value.j0 k (⟨#[111,112,101,110]⟩:ByteArray) a0_0 a0_1 a0_2 a0_3 a0_4 a0_5) else (impl_Order_value.j0 k (⟨#[99,108,111,115,101,100]⟩:ByteArray) a0_0 a0_1 a0_2 a0_3 a0_4 a0_5)
def impl_Order_value.T4:Bool × List (List Nat × List Nat):=(τ,[([],[]),([0],[0]),([],[]),([2],[2]),([3],[3]),([],[]),([5],[5]),([6,4],[6]),([],[]),([8],[8]),([9,7],[9]),([],[]),([1,4,7,10,11],[1,4,7,10,11]),([12,10],[12]),([13,13,0,1,2,3,4,5,6,7,8,9,10,11,12,13],[13])])
def impl_Order_value.B4:List Nat:=[0,1,0,4,12,0,32,124,0,256,1020,0,4095,8191,16383]
theorem impl_Order_value.tab4:rtab .any (opsOf Tryz.f72 4)=impl_Order_value.T4:=by kernel_rfl
theorem impl_Order_value.bits4:waitsOk impl_Order_value.T4.2 impl_Order_value.B4=τ:=by kernel_rfl
theorem impl_Order_value.calls (k:Nat) (a0_0:ByteArray) (a0_1:ByteArray) (a0_2:Int) (a0_3:Int) (a0_4:Int) (a0_5:Bool) (r:ByteArray) (w:World) (hT0:TabsOK w) (h:impl_Order_value.f k a0_0 a0_1 a0_2 a0_3 a0_4 a0_5=some r) :
  Calls Tryz.prog 72 #[.agg #[.string a0_0,.string a0_1,.int .i64 a0_2,.int .i64 a0_3,.int .i64 a0_4,.bool a0_5]] w fun e w'=>e = .returned (.string r)∧Below w.heap.size w w':=by
 have HT0:=ζa hT0
 clear hT0
 have hu46:=Tryz.underlying46
 have HB:=ζa (Below.refl w.heap.size w)
 have H:(if a0_5=τ then (impl_Order_value.j0 k (⟨#[111,112,101,110]⟩:ByteArray) a0_0 a0_1 a0_2 a0_3 a0_4 a0_5) else (impl_Order_value.j0 k (⟨#[99,108,111,115,101,100]⟩:ByteArray) a0_0 a0_1 a0_2 a0_3 a0_4 a0_5))=some r:=h
 clear h
 have HC2:=ζa H
 clear H
 go_enter Tryz.func72,Tryz.ntmps72
 go_upto_if 5 with (((with_reducible refine δx (N:=1) rfl ?_);refine bev 1 #[.string a0_0,.string a0_1,.int .i64 a0_2,.int .i64 a0_3,.int .i64 a0_4,.bool a0_5] 46 ?_;intro gb318 hg w3 hbox hb;have BK318:=ζa (hbox);have GW318:=ζa (gbw hg (by exact HB.out));have GE318:=ζa (gbw hg (by exact HB.out));replace HB:=ζa (δr (by exact HB.out) hb);clear hb hbox hg;have hcz4_0:w3.cell? ⟨gb318,0,none⟩=some (.string a0_0):=(δl BK318.out 0).trans rfl;have hcz4_1:w3.cell? ⟨gb318,1,none⟩=some (.string a0_1):=(δl BK318.out 1).trans rfl;have hcz4_2:w3.cell? ⟨gb318,2,none⟩=some (.int .i64 a0_2):=(δl BK318.out 2).trans rfl;have hcz4_3:w3.cell? ⟨gb318,3,none⟩=some (.int .i64 a0_3):=(δl BK318.out 3).trans rfl;have hcz4_4:w3.cell? ⟨gb318,4,none⟩=some (.int .i64 a0_4):=(δl BK318.out 4).trans rfl;have hcz4_5:w3.cell? ⟨gb318,5,none⟩=some (.bool a0_5):=(δl BK318.out 5).trans rfl;have hfz4_0:=δm BK318.out 0;have hfz4_1:=δm BK318.out 1;have hfz4_2:=δm BK318.out 2;have hfz4_3:=δm BK318.out 3;have hfz4_4:=δm BK318.out 4;have hfz4_5:=δm BK318.out 5))
 (try simp only [ζl,δa,δb,δc])
 go_cut [3] (fun v3 wc => ∃ (kq:Nat) (x3_1:ByteArray),v3 = .string x3_1∧Aside0 (impl_Order_value.j0 kq x3_1 a0_0 a0_1 a0_2 a0_3 a0_4 a0_5=some r)∧Aside0 (kq≤k)∧Aside0 (wc.heap[gb318]? = some (.cells #[.string a0_0,.string a0_1,.int .i64 a0_2,.int .i64 a0_3,.int .i64 a0_4,.bool a0_5] 46 (0,0)))∧Aside0 (Below w.heap.size w wc))
 case first =>
  have H:=HC2.out
  clear HC2
  by_cases c5:a0_5=τ
  ·
   subst c5
   rw [ifT] at H
   have H':=ζa H
   clear H
   go_wp2
   go_meet
   case rel=>exact ⟨_,((⟨#[111,112,101,110]⟩:ByteArray)),(by rfl),H',⟨by omega⟩,⟨by exact BK318.out⟩,⟨by repeat ((with_reducible exact HB.out))⟩⟩
  ·
   replace c5:=Bool.eq_false_iff.mpr c5
   subst c5
   rw [ifF] at H
   have H':=ζa H
   clear H
   go_wp2
   go_meet
   case rel=>exact ⟨_,((⟨#[99,108,111,115,101,100]⟩:ByteArray)),(by rfl),H',⟨by omega⟩,⟨by exact BK318.out⟩,⟨by repeat ((with_reducible exact HB.out))⟩⟩
 case rest =>
  clear HC2
  try clear p2
  try clear c5
  try clear hcz4_0
  try clear hcz4_1
  try clear hcz4_2
  try clear hcz4_3
  try clear hcz4_4
  try clear hcz4_5
  try clear hfz4_0
  try clear hfz4_1
  try clear hfz4_2
  try clear hfz4_3
  try clear hfz4_4
  try clear hfz4_5
  obtain ⟨kq,x3_1,rfl,HA,HJ1,BK318,HB⟩:=hcut
  cases kq with
  | zero=>exact absurd HA.out (by simp [impl_Order_value.j0])
  | succ kj1 =>
   have H:=HA.out
   clear HA
   simp only [impl_Order_value.j0] at H
   obtain ⟨t319,A6,H⟩:=bsm H
   obtain ⟨t320,A7,H⟩:=bsm H
   obtain ⟨t321,A8,H⟩:=bsm H
   obtain ⟨y322,hy322⟩ : ∃ y_:List ByteArray,y_=(([a0_1,t319,t320,t321,x3_1]:List ByteArray)):=⟨_,rfl⟩
   replace H:((impl_fields.f kj1 y322).bind fun t325=>(some t325))=some r:=by (rw [hy322];with_reducible exact H)
   have Ny322:=ζa hy322
   clear hy322
   obtain ⟨t325,A9,H⟩:=bsm H
   obtain rfl:=Option.some.inj H
   try go_wp2
   replace BK318:=ζa (δp BK318.out)
   replace HB:=ζa (δj HB.out)
   refine sta 15 (fun w'=>w'.cell? ⟨gb318,0,none⟩=some (.string a0_0)∧w'.cell? ⟨gb318,1,none⟩=some (.string a0_1)∧w'.cell? ⟨gb318,2,none⟩=some (.int .i64 a0_2)∧w'.cell? ⟨gb318,3,none⟩=some (.int .i64 a0_3)∧w'.cell? ⟨gb318,4,none⟩=some (.int .i64 a0_4)∧w'.cell? ⟨gb318,5,none⟩=some (.bool a0_5)) [] impl_Order_value.tab4 impl_Order_value.bits4 ⟨(δl BK318.out 0).trans rfl,(δl BK318.out 1).trans rfl,(δl BK318.out 2).trans rfl,(δl BK318.out 3).trans rfl,(δl BK318.out 4).trans rfl,(δl BK318.out 5).trans rfl⟩ (fun hHeld HT_ HW_ => ?_)
   generalize wc.drew=w10 at BK318 HB hHeld ⊢
   refine pu 0 6 ?_
   refine pu 2 8 ?_
   refine pu 5 11 ?_
   refine pu 8 14 ?_
   refine pu 11 17 ?_
   refine ta 1 7 ?_
   refine ta 3 9 ?_
   refine ta 6 12 ?_
   refine ta 9 15 ?_
   refine on 4 10 (fun K hK => ?_)
   refine gs Tryz.func85 #[.int .i64 a0_2] ?_
   with_reducible refine (impl_amountText.calls a0_2 t319 _ (HT0.out.below (by exact HB.out)) A6.out).mono ?_
   rintro e w11 ⟨rfl,hb⟩
   refine ⟨_,rfl,?_⟩
   replace BK318:=ζa (blk_below (g:=gb318) (o:=.cells #[.string a0_0,.string a0_1,.int .i64 a0_2,.int .i64 a0_3,.int .i64 a0_4,.bool a0_5] 46 (0,0)) (by exact BK318.out) hb)
   replace HB:=ζa (δr (by exact HB.out) hb)
   (try clear hb)
   (try clear hb2)
   (try clear hk)
   (try clear hi)
   refine hK.out _ _ ⟨(δl BK318.out 0).trans rfl,(δl BK318.out 1).trans rfl,(δl BK318.out 2).trans rfl,(δl BK318.out 3).trans rfl,(δl BK318.out 4).trans rfl,(δl BK318.out 5).trans rfl⟩ (fun hHeld => ?_)
   clear hK K
   refine nm 10 ?_
   refine on 7 13 (fun K hK => ?_)
   refine gs Tryz.func85 #[.int .i64 a0_3] ?_
   with_reducible refine (impl_amountText.calls a0_3 t320 _ (HT0.out.below (by exact HB.out)) A7.out).mono ?_
   rintro e w12 ⟨rfl,hb⟩
   refine ⟨_,rfl,?_⟩
   replace BK318:=ζa (blk_below (g:=gb318) (o:=.cells #[.string a0_0,.string a0_1,.int .i64 a0_2,.int .i64 a0_3,.int .i64 a0_4,.bool a0_5] 46 (0,0)) (by exact BK318.out) hb)
   replace HB:=ζa (δr (by exact HB.out) hb)
   (try clear hb)
   (try clear hb2)
   (try clear hk)
   (try clear hi)
   refine hK.out _ _ ⟨(δl BK318.out 0).trans rfl,(δl BK318.out 1).trans rfl,(δl BK318.out 2).trans rfl,(δl BK318.out 3).trans rfl,(δl BK318.out 4).trans rfl,(δl BK318.out 5).trans rfl⟩ (fun hHeld => ?_)
   clear hK K
   refine nm 13 ?_
   refine on 10 16 (fun K hK => ?_)
   refine gs Tryz.func85 #[.int .i64 a0_4] ?_
   with_reducible refine (impl_amountText.calls a0_4 t321 _ (HT0.out.below (by exact HB.out)) A8.out).mono ?_
   rintro e w13 ⟨rfl,hb⟩
   refine ⟨_,rfl,?_⟩
   replace BK318:=ζa (blk_below (g:=gb318) (o:=.cells #[.string a0_0,.string a0_1,.int .i64 a0_2,.int .i64 a0_3,.int .i64 a0_4,.bool a0_5] 46 (0,0)) (by exact BK318.out) hb)
   replace HB:=ζa (δr (by exact HB.out) hb)
   (try clear hb)
   (try clear hb2)
   (try clear hk)
   (try clear hi)
   refine hK.out _ _ ⟨(δl BK318.out 0).trans rfl,(δl BK318.out 1).trans rfl,(δl BK318.out 2).trans rfl,(δl BK318.out 3).trans rfl,(δl BK318.out 4).trans rfl,(δl BK318.out 5).trans rfl⟩ (fun hHeld => ?_)
   clear hK K
   refine nm 16 ?_
   refine on 12 18 (fun K hK => ?_)
   refine Kd.R_lit_step Kd.string _ 9 ?hg (N:=18) ?hd (xs:=([a0_1,t319,t320,t321,x3_1]:List ByteArray)) (inner:=[.string a0_1,.string t319,.string t320,.string t321,.string x3_1]) (ok:=fun _=>True) (okp:=fun _=>True) ?hr ?hp (fun _ hk=>hk) trivial (Below.refl _ _) (Nat.le_refl _) (by simp) ?_;(case hd=>rfl);(case hg=>rfl);(case hr=>(go_simp;done));(case hp=>exact (Reps.one (show Kd.M Kd.string _ _ _ a0_1 [.string a0_1] from rfl) (Reps.one (show Kd.M Kd.string _ _ _ t319 [.string t319] from rfl) (Reps.one (show Kd.M Kd.string _ _ _ t320 [.string t320] from rfl) (Reps.one (show Kd.M Kd.string _ _ _ t321 [.string t321] from rfl) (Reps.one (show Kd.M Kd.string _ _ _ x3_1 [.string x3_1] from rfl) (Reps.none _ _)))))))
   intro v323 w14 ho15 hb hg_ hnew_
   clear hg_ hnew_
   (rw [← Ny322.out] at ho15)
   have HO324:=ζa (Kd.R_lower ho15 (δs (by exact HB.out)))
   replace BK318:=ζa (blk_below (g:=gb318) (o:=.cells #[.string a0_0,.string a0_1,.int .i64 a0_2,.int .i64 a0_3,.int .i64 a0_4,.bool a0_5] 46 (0,0)) (by exact BK318.out) hb)
   replace HB:=ζa (δr (by exact HB.out) hb)
   clear hb ho15
   obtain ⟨Ao16,co16,eo16⟩:=Kd.R_slice HO324.out
   (subst eo16)
   refine hK.out _ _ ⟨(δl BK318.out 0).trans rfl,(δl BK318.out 1).trans rfl,(δl BK318.out 2).trans rfl,(δl BK318.out 3).trans rfl,(δl BK318.out 4).trans rfl,(δl BK318.out 5).trans rfl⟩ (fun hHeld => ?_)
   clear hK K
   refine nm 18 ?_
   refine on 13 19 (fun K hK => ?_)
   refine gs Tryz.func98 #[.slice Ao16 y322.length co16] ?_
   with_reducible refine (impl_fields.calls kj1 _ _ y322 t325 _ ?side1 ?side2 A9.out).mono ?_
   (case side1=>repeat (exact (ζg HO324.out).2.2))
   (case side2=>exact (ζg HO324.out).2.1)
   rintro e w17 ⟨rfl,hb⟩
   refine ⟨_,rfl,?_⟩
   replace HO324:=ζa (ζh (by exact HO324.out) hb)
   replace BK318:=ζa (blk_below (g:=gb318) (o:=.cells #[.string a0_0,.string a0_1,.int .i64 a0_2,.int .i64 a0_3,.int .i64 a0_4,.bool a0_5] 46 (0,0)) (by exact BK318.out) hb)
   replace HB:=ζa (δr (by exact HB.out) hb)
   (try clear hb)
   (try clear hb2)
   (try clear hk)
   (try clear hi)
   refine hK.out _ _ ⟨(δl BK318.out 0).trans rfl,(δl BK318.out 1).trans rfl,(δl BK318.out 2).trans rfl,(δl BK318.out 3).trans rfl,(δl BK318.out 4).trans rfl,(δl BK318.out 5).trans rfl⟩ (fun hHeld => ?_)
   clear hK K
   refine nm 19 ?_
   refine pu 14 2 ?_
   refine done_ (done_of HT_.out (by kernel_rfl)) ?_
   try go_wp2
   go_ret
   exact ⟨by rfl,by repeat ((with_reducible exact HB.out))⟩


set_option maxHeartbeats 8000000
set_option maxRecDepth 100000

/-! ### impl_OrderOK: function 89 -/
def impl_OrderOK.f (k:Nat) (a0_0:ByteArray) (a0_1:ByteArray) (a0_2:Int) (a0_3:Int) (a0_4:Int) (a0_5:Bool):Option (Bool):=(impl_areNames.f k (([a0_0]:List ByteArray))).bind fun t330=>(if t330=τ then ((impl_isPeople.f k (([a0_1]:List ByteArray))).bind fun t334=>(if t334=τ then ((impl_isSome.f a0_2).bind fun t335=>(if t335=τ then ((impl_isSome.f a0_3).bind fun t336=>(if t336=τ then ((impl_within.f a0_4 0 a0_2).bind fun t337=>(if t337=τ then (some ((decide (a0_4 > 0)) == a0_5)) else (some φ))) else (some φ))) else (some φ))) else (some φ))) else (some φ))
theorem impl_OrderOK.calls (k:Nat) (a0_0:ByteArray) (a0_1:ByteArray) (a0_2:Int) (a0_3:Int) (a0_4:Int) (a0_5:Bool) (r:Bool) (w:World) (h:impl_OrderOK.f k a0_0 a0_1 a0_2 a0_3 a0_4 a0_5=some r) :
  Calls Tryz.prog 89 #[.agg #[.string a0_0,.string a0_1,.int .i64 a0_2,.int .i64 a0_3,.int .i64 a0_4,.bool a0_5]] w fun e w'=>e = .returned (.bool r)∧Below w.heap.size w w':=by
 have hu46:=Tryz.underlying46
 have HB:=ζa (Below.refl w.heap.size w)
 have H:((impl_areNames.f k (([a0_0]:List ByteArray))).bind fun t330=>(if t330=τ then ((impl_isPeople.f k (([a0_1]:List ByteArray))).bind fun t334=>(if t334=τ then ((impl_isSome.f a0_2).bind fun t335=>(if t335=τ then ((impl_isSome.f a0_3).bind fun t336=>(if t336=τ then ((impl_within.f a0_4 0 a0_2).bind fun t337=>(if t337=τ then (some ((decide (a0_4 > 0)) == a0_5)) else (some φ))) else (some φ))) else (some φ))) else (some φ))) else (some φ)))=some r:=h
 clear h
 obtain ⟨y327,hy327⟩ : ∃ y_:List ByteArray,y_=(([a0_0]:List ByteArray)):=⟨_,rfl⟩
 replace H:((impl_areNames.f k y327).bind fun t330=>(if t330=τ then ((impl_isPeople.f k (([a0_1]:List ByteArray))).bind fun t334=>(if t334=τ then ((impl_isSome.f a0_2).bind fun t335=>(if t335=τ then ((impl_isSome.f a0_3).bind fun t336=>(if t336=τ then ((impl_within.f a0_4 0 a0_2).bind fun t337=>(if t337=τ then (some ((decide (a0_4 > 0)) == a0_5)) else (some φ))) else (some φ))) else (some φ))) else (some φ))) else (some φ)))=some r:=by (rw [hy327];with_reducible exact H)
 have Ny327:=ζa hy327
 clear hy327
 obtain ⟨t330,A2,H⟩:=bsm H
 by_cases c3:t330=τ
 ·
  subst c3
  rw [ifT] at H
  obtain ⟨y331,hy331⟩ : ∃ y_:List ByteArray,y_=(([a0_1]:List ByteArray)):=⟨_,rfl⟩
  replace H:((impl_isPeople.f k y331).bind fun t334=>(if t334=τ then ((impl_isSome.f a0_2).bind fun t335=>(if t335=τ then ((impl_isSome.f a0_3).bind fun t336=>(if t336=τ then ((impl_within.f a0_4 0 a0_2).bind fun t337=>(if t337=τ then (some ((decide (a0_4 > 0)) == a0_5)) else (some φ))) else (some φ))) else (some φ))) else (some φ)))=some r:=by (rw [hy331];with_reducible exact H)
  have Ny331:=ζa hy331
  clear hy331
  obtain ⟨t334,A4,H⟩:=bsm H
  by_cases c5:t334=τ
  ·
   subst c5
   rw [ifT] at H
   obtain ⟨t335,A6,H⟩:=bsm H
   by_cases c7:t335=τ
   ·
    subst c7
    rw [ifT] at H
    obtain ⟨t336,A8,H⟩:=bsm H
    by_cases c9:t336=τ
    ·
     subst c9
     rw [ifT] at H
     obtain ⟨t337,A10,H⟩:=bsm H
     by_cases c11:t337=τ
     ·
      subst c11
      rw [ifT] at H
      obtain rfl:=Option.some.inj H
      go_enter Tryz.func89,Tryz.ntmps89
      go_wp2_with (first|((with_reducible refine δx (N:=1) rfl ?_);(try (refine gate_guard (by rfl) ?_;dsimp only));refine bev 1 #[.string a0_0,.string a0_1,.int .i64 a0_2,.int .i64 a0_3,.int .i64 a0_4,.bool a0_5] 46 ?_;intro gb326 hg w12 hbox hb;have BK326:=ζa (hbox);have GW326:=ζa (gbw hg (by exact HB.out));have GE326:=ζa (gbw hg (by exact HB.out));replace HB:=ζa (δr (by exact HB.out) hb);clear hb hbox hg;have hcz13_0:w12.cell? ⟨gb326,0,none⟩=some (.string a0_0):=(δl BK326.out 0).trans rfl;have hcz13_1:w12.cell? ⟨gb326,1,none⟩=some (.string a0_1):=(δl BK326.out 1).trans rfl;have hcz13_2:w12.cell? ⟨gb326,2,none⟩=some (.int .i64 a0_2):=(δl BK326.out 2).trans rfl;have hcz13_3:w12.cell? ⟨gb326,3,none⟩=some (.int .i64 a0_3):=(δl BK326.out 3).trans rfl;have hcz13_4:w12.cell? ⟨gb326,4,none⟩=some (.int .i64 a0_4):=(δl BK326.out 4).trans rfl;have hcz13_5:w12.cell? ⟨gb326,5,none⟩=some (.bool a0_5):=(δl BK326.out 5).trans rfl;have hfz13_0:=δm BK326.out 0;have hfz13_1:=δm BK326.out 1;have hfz13_2:=δm BK326.out 2;have hfz13_3:=δm BK326.out 3;have hfz13_4:=δm BK326.out 4;have hfz13_5:=δm BK326.out 5)|((with_reducible refine δx (N:=5) rfl ?_);(try (refine gate_guard (by rfl) ?_;dsimp only));refine Kd.R_lit Kd.string _ 9 ?hg (N:=5) ?hd (xs:=([a0_0]:List ByteArray)) (inner:=[.string a0_0]) (ok:=fun _=>True) (okp:=fun _=>True) ?hr ?hp (fun _ hk=>hk) trivial (Below.refl _ _) (Nat.le_refl _) (by simp) ?_;(case hd=>rfl);(case hg=>rfl);(case hr=>(go_simp;done));(case hp=>exact (Reps.one (show Kd.M Kd.string _ _ _ a0_0 [.string a0_0] from rfl) (Reps.none _ _)));intro v328 w14 ho15 hb hg_ hnew_;clear hg_ hnew_;(rw [← Ny327.out] at ho15);have HO329:=ζa (Kd.R_lower ho15 (δs (by exact HB.out)));replace BK326:=ζa (blk_below (g:=gb326) (o:=.cells #[.string a0_0,.string a0_1,.int .i64 a0_2,.int .i64 a0_3,.int .i64 a0_4,.bool a0_5] 46 (0,0)) (by exact BK326.out) hb);replace HB:=ζa (δr (by exact HB.out) hb);clear hb ho15;obtain ⟨Ao16,co16,eo16⟩:=Kd.R_slice HO329.out;subst eo16)|((with_reducible refine δv (f:=86) rfl ?_);refine gl 6 Tryz.func86 #[.slice Ao16 y327.length co16] ?_;(with_reducible refine (impl_areNames.calls k _ _ y327 τ _ ?side1 ?side2 A2.out).mono ?_);(case side1=>repeat (exact (ζg HO329.out).2.2));(case side2=>exact (ζg HO329.out).2.1);rintro e w' ⟨rfl,⟨nd,rfl⟩⟩;refine ⟨_,rfl,?_⟩;have hcz17_0:w14.cell? ⟨gb326,0,none⟩=some (.string a0_0):=(δl BK326.out 0).trans rfl;have hcz17_1:w14.cell? ⟨gb326,1,none⟩=some (.string a0_1):=(δl BK326.out 1).trans rfl;have hcz17_2:w14.cell? ⟨gb326,2,none⟩=some (.int .i64 a0_2):=(δl BK326.out 2).trans rfl;have hcz17_3:w14.cell? ⟨gb326,3,none⟩=some (.int .i64 a0_3):=(δl BK326.out 3).trans rfl;have hcz17_4:w14.cell? ⟨gb326,4,none⟩=some (.int .i64 a0_4):=(δl BK326.out 4).trans rfl;have hcz17_5:w14.cell? ⟨gb326,5,none⟩=some (.bool a0_5):=(δl BK326.out 5).trans rfl;have hfz17_0:=δm BK326.out 0;have hfz17_1:=δm BK326.out 1;have hfz17_2:=δm BK326.out 2;have hfz17_3:=δm BK326.out 3;have hfz17_4:=δm BK326.out 4;have hfz17_5:=δm BK326.out 5)|((with_reducible refine δx (N:=10) rfl ?_);(try (refine gate_guard (by rfl) ?_;dsimp only));refine Kd.R_lit Kd.string _ 9 ?hg (N:=10) ?hd (xs:=([a0_1]:List ByteArray)) (inner:=[.string a0_1]) (ok:=fun _=>True) (okp:=fun _=>True) ?hr ?hp (fun _ hk=>hk) trivial (Below.refl _ _) (Nat.le_refl _) (by simp) ?_;(case hd=>rfl);(case hg=>rfl);(case hr=>(go_simp;done));(case hp=>exact (Reps.one (show Kd.M Kd.string _ _ _ a0_1 [.string a0_1] from rfl) (Reps.none _ _)));intro v332 w18 ho19 hb hg_ hnew_;clear hg_ hnew_;(rw [← Ny331.out] at ho19);have HO333:=ζa (Kd.R_lower (Kd.R_new' ho19 (Kd.R_lt (by (with_reducible repeat (apply ζc));exact HO329.out))) (δs (by repeat ((with_reducible first|exact HB.out|apply δi)))));replace HO329:=ζa (Kd.R_elder' (by (with_reducible repeat (apply ζc));exact HO329.out) (Kd.R_base ho19) hb);replace BK326:=ζa (blk_below (g:=gb326) (o:=.cells #[.string a0_0,.string a0_1,.int .i64 a0_2,.int .i64 a0_3,.int .i64 a0_4,.bool a0_5] 46 (0,0)) (by (with_reducible repeat (refine δn ?_ _));exact BK326.out) hb);replace HB:=ζa (δr (by repeat ((with_reducible first|exact HB.out|apply δi))) hb);clear hb ho19;obtain ⟨Ao20,co20,eo20⟩:=Kd.R_slice HO333.out;subst eo20)|(go_at_call 87;(with_reducible refine (impl_isPeople.calls k _ _ y331 τ _ ?side1 ?side2 A4.out).mono ?_);(case side1=>repeat (exact (ζg HO333.out).2.2));(case side2=>exact (ζg HO333.out).2.1);rintro e w' ⟨rfl,⟨nd,rfl⟩⟩;have hcz21_0:w18.cell? ⟨gb326,0,none⟩=some (.string a0_0):=(δl BK326.out 0).trans rfl;have hcz21_1:w18.cell? ⟨gb326,1,none⟩=some (.string a0_1):=(δl BK326.out 1).trans rfl;have hcz21_2:w18.cell? ⟨gb326,2,none⟩=some (.int .i64 a0_2):=(δl BK326.out 2).trans rfl;have hcz21_3:w18.cell? ⟨gb326,3,none⟩=some (.int .i64 a0_3):=(δl BK326.out 3).trans rfl;have hcz21_4:w18.cell? ⟨gb326,4,none⟩=some (.int .i64 a0_4):=(δl BK326.out 4).trans rfl;have hcz21_5:w18.cell? ⟨gb326,5,none⟩=some (.bool a0_5):=(δl BK326.out 5).trans rfl;have hfz21_0:=δm BK326.out 0;have hfz21_1:=δm BK326.out 1;have hfz21_2:=δm BK326.out 2;have hfz21_3:=δm BK326.out 3;have hfz21_4:=δm BK326.out 4;have hfz21_5:=δm BK326.out 5)|(go_at_call 61;(with_reducible refine (impl_isSome.calls a0_2 τ _ A6.out).mono ?_);rintro e w' ⟨rfl,⟨nd,rfl⟩⟩)|(go_at_call 61;(with_reducible refine (impl_isSome.calls a0_3 τ _ A8.out).mono ?_);rintro e w' ⟨rfl,⟨nd,rfl⟩⟩)|(go_at_call 81;(with_reducible refine (impl_within.calls a0_4 0 a0_2 τ _ A10.out).mono ?_);rintro e w' ⟨rfl,⟨nd,rfl⟩⟩))
      go_ret
      exact ⟨by rfl,by repeat ((with_reducible first|exact HB.out|apply δi))⟩
     ·
      replace c11:=Bool.eq_false_iff.mpr c11
      subst c11
      rw [ifF] at H
      obtain rfl:=Option.some.inj H
      go_enter Tryz.func89,Tryz.ntmps89
      go_wp2_with (first|((with_reducible refine δx (N:=1) rfl ?_);(try (refine gate_guard (by rfl) ?_;dsimp only));refine bev 1 #[.string a0_0,.string a0_1,.int .i64 a0_2,.int .i64 a0_3,.int .i64 a0_4,.bool a0_5] 46 ?_;intro gb326 hg w22 hbox hb;have BK326:=ζa (hbox);have GW326:=ζa (gbw hg (by exact HB.out));have GE326:=ζa (gbw hg (by exact HB.out));replace HB:=ζa (δr (by exact HB.out) hb);clear hb hbox hg;have hcz23_0:w22.cell? ⟨gb326,0,none⟩=some (.string a0_0):=(δl BK326.out 0).trans rfl;have hcz23_1:w22.cell? ⟨gb326,1,none⟩=some (.string a0_1):=(δl BK326.out 1).trans rfl;have hcz23_2:w22.cell? ⟨gb326,2,none⟩=some (.int .i64 a0_2):=(δl BK326.out 2).trans rfl;have hcz23_3:w22.cell? ⟨gb326,3,none⟩=some (.int .i64 a0_3):=(δl BK326.out 3).trans rfl;have hcz23_4:w22.cell? ⟨gb326,4,none⟩=some (.int .i64 a0_4):=(δl BK326.out 4).trans rfl;have hcz23_5:w22.cell? ⟨gb326,5,none⟩=some (.bool a0_5):=(δl BK326.out 5).trans rfl;have hfz23_0:=δm BK326.out 0;have hfz23_1:=δm BK326.out 1;have hfz23_2:=δm BK326.out 2;have hfz23_3:=δm BK326.out 3;have hfz23_4:=δm BK326.out 4;have hfz23_5:=δm BK326.out 5)|((with_reducible refine δx (N:=5) rfl ?_);(try (refine gate_guard (by rfl) ?_;dsimp only));refine Kd.R_lit Kd.string _ 9 ?hg (N:=5) ?hd (xs:=([a0_0]:List ByteArray)) (inner:=[.string a0_0]) (ok:=fun _=>True) (okp:=fun _=>True) ?hr ?hp (fun _ hk=>hk) trivial (Below.refl _ _) (Nat.le_refl _) (by simp) ?_;(case hd=>rfl);(case hg=>rfl);(case hr=>(go_simp;done));(case hp=>exact (Reps.one (show Kd.M Kd.string _ _ _ a0_0 [.string a0_0] from rfl) (Reps.none _ _)));intro v328 w24 ho25 hb hg_ hnew_;clear hg_ hnew_;(rw [← Ny327.out] at ho25);have HO329:=ζa (Kd.R_lower ho25 (δs (by exact HB.out)));replace BK326:=ζa (blk_below (g:=gb326) (o:=.cells #[.string a0_0,.string a0_1,.int .i64 a0_2,.int .i64 a0_3,.int .i64 a0_4,.bool a0_5] 46 (0,0)) (by exact BK326.out) hb);replace HB:=ζa (δr (by exact HB.out) hb);clear hb ho25;obtain ⟨Ao26,co26,eo26⟩:=Kd.R_slice HO329.out;subst eo26)|((with_reducible refine δv (f:=86) rfl ?_);refine gl 6 Tryz.func86 #[.slice Ao26 y327.length co26] ?_;(with_reducible refine (impl_areNames.calls k _ _ y327 τ _ ?side1 ?side2 A2.out).mono ?_);(case side1=>repeat (exact (ζg HO329.out).2.2));(case side2=>exact (ζg HO329.out).2.1);rintro e w' ⟨rfl,⟨nd,rfl⟩⟩;refine ⟨_,rfl,?_⟩;have hcz27_0:w24.cell? ⟨gb326,0,none⟩=some (.string a0_0):=(δl BK326.out 0).trans rfl;have hcz27_1:w24.cell? ⟨gb326,1,none⟩=some (.string a0_1):=(δl BK326.out 1).trans rfl;have hcz27_2:w24.cell? ⟨gb326,2,none⟩=some (.int .i64 a0_2):=(δl BK326.out 2).trans rfl;have hcz27_3:w24.cell? ⟨gb326,3,none⟩=some (.int .i64 a0_3):=(δl BK326.out 3).trans rfl;have hcz27_4:w24.cell? ⟨gb326,4,none⟩=some (.int .i64 a0_4):=(δl BK326.out 4).trans rfl;have hcz27_5:w24.cell? ⟨gb326,5,none⟩=some (.bool a0_5):=(δl BK326.out 5).trans rfl;have hfz27_0:=δm BK326.out 0;have hfz27_1:=δm BK326.out 1;have hfz27_2:=δm BK326.out 2;have hfz27_3:=δm BK326.out 3;have hfz27_4:=δm BK326.out 4;have hfz27_5:=δm BK326.out 5)|((with_reducible refine δx (N:=10) rfl ?_);(try (refine gate_guard (by rfl) ?_;dsimp only));refine Kd.R_lit Kd.string _ 9 ?hg (N:=10) ?hd (xs:=([a0_1]:List ByteArray)) (inner:=[.string a0_1]) (ok:=fun _=>True) (okp:=fun _=>True) ?hr ?hp (fun _ hk=>hk) trivial (Below.refl _ _) (Nat.le_refl _) (by simp) ?_;(case hd=>rfl);(case hg=>rfl);(case hr=>(go_simp;done));(case hp=>exact (Reps.one (show Kd.M Kd.string _ _ _ a0_1 [.string a0_1] from rfl) (Reps.none _ _)));intro v332 w28 ho29 hb hg_ hnew_;clear hg_ hnew_;(rw [← Ny331.out] at ho29);have HO333:=ζa (Kd.R_lower (Kd.R_new' ho29 (Kd.R_lt (by (with_reducible repeat (apply ζc));exact HO329.out))) (δs (by repeat ((with_reducible first|exact HB.out|apply δi)))));replace HO329:=ζa (Kd.R_elder' (by (with_reducible repeat (apply ζc));exact HO329.out) (Kd.R_base ho29) hb);replace BK326:=ζa (blk_below (g:=gb326) (o:=.cells #[.string a0_0,.string a0_1,.int .i64 a0_2,.int .i64 a0_3,.int .i64 a0_4,.bool a0_5] 46 (0,0)) (by (with_reducible repeat (refine δn ?_ _));exact BK326.out) hb);replace HB:=ζa (δr (by repeat ((with_reducible first|exact HB.out|apply δi))) hb);clear hb ho29;obtain ⟨Ao30,co30,eo30⟩:=Kd.R_slice HO333.out;subst eo30)|(go_at_call 87;(with_reducible refine (impl_isPeople.calls k _ _ y331 τ _ ?side1 ?side2 A4.out).mono ?_);(case side1=>repeat (exact (ζg HO333.out).2.2));(case side2=>exact (ζg HO333.out).2.1);rintro e w' ⟨rfl,⟨nd,rfl⟩⟩;have hcz31_0:w28.cell? ⟨gb326,0,none⟩=some (.string a0_0):=(δl BK326.out 0).trans rfl;have hcz31_1:w28.cell? ⟨gb326,1,none⟩=some (.string a0_1):=(δl BK326.out 1).trans rfl;have hcz31_2:w28.cell? ⟨gb326,2,none⟩=some (.int .i64 a0_2):=(δl BK326.out 2).trans rfl;have hcz31_3:w28.cell? ⟨gb326,3,none⟩=some (.int .i64 a0_3):=(δl BK326.out 3).trans rfl;have hcz31_4:w28.cell? ⟨gb326,4,none⟩=some (.int .i64 a0_4):=(δl BK326.out 4).trans rfl;have hcz31_5:w28.cell? ⟨gb326,5,none⟩=some (.bool a0_5):=(δl BK326.out 5).trans rfl;have hfz31_0:=δm BK326.out 0;have hfz31_1:=δm BK326.out 1;have hfz31_2:=δm BK326.out 2;have hfz31_3:=δm BK326.out 3;have hfz31_4:=δm BK326.out 4;have hfz31_5:=δm BK326.out 5)|(go_at_call 61;(with_reducible refine (impl_isSome.calls a0_2 τ _ A6.out).mono ?_);rintro e w' ⟨rfl,⟨nd,rfl⟩⟩)|(go_at_call 61;(with_reducible refine (impl_isSome.calls a0_3 τ _ A8.out).mono ?_);rintro e w' ⟨rfl,⟨nd,rfl⟩⟩)|(go_at_call 81;(with_reducible refine (impl_within.calls a0_4 0 a0_2 φ _ A10.out).mono ?_);rintro e w' ⟨rfl,⟨nd,rfl⟩⟩))
      go_ret
      exact ⟨by rfl,by repeat ((with_reducible first|exact HB.out|apply δi))⟩
    ·
     replace c9:=Bool.eq_false_iff.mpr c9
     subst c9
     rw [ifF] at H
     obtain rfl:=Option.some.inj H
     go_enter Tryz.func89,Tryz.ntmps89
     go_wp2_with (first|((with_reducible refine δx (N:=1) rfl ?_);(try (refine gate_guard (by rfl) ?_;dsimp only));refine bev 1 #[.string a0_0,.string a0_1,.int .i64 a0_2,.int .i64 a0_3,.int .i64 a0_4,.bool a0_5] 46 ?_;intro gb326 hg w32 hbox hb;have BK326:=ζa (hbox);have GW326:=ζa (gbw hg (by exact HB.out));have GE326:=ζa (gbw hg (by exact HB.out));replace HB:=ζa (δr (by exact HB.out) hb);clear hb hbox hg;have hcz33_0:w32.cell? ⟨gb326,0,none⟩=some (.string a0_0):=(δl BK326.out 0).trans rfl;have hcz33_1:w32.cell? ⟨gb326,1,none⟩=some (.string a0_1):=(δl BK326.out 1).trans rfl;have hcz33_2:w32.cell? ⟨gb326,2,none⟩=some (.int .i64 a0_2):=(δl BK326.out 2).trans rfl;have hcz33_3:w32.cell? ⟨gb326,3,none⟩=some (.int .i64 a0_3):=(δl BK326.out 3).trans rfl;have hcz33_4:w32.cell? ⟨gb326,4,none⟩=some (.int .i64 a0_4):=(δl BK326.out 4).trans rfl;have hcz33_5:w32.cell? ⟨gb326,5,none⟩=some (.bool a0_5):=(δl BK326.out 5).trans rfl;have hfz33_0:=δm BK326.out 0;have hfz33_1:=δm BK326.out 1;have hfz33_2:=δm BK326.out 2;have hfz33_3:=δm BK326.out 3;have hfz33_4:=δm BK326.out 4;have hfz33_5:=δm BK326.out 5)|((with_reducible refine δx (N:=5) rfl ?_);(try (refine gate_guard (by rfl) ?_;dsimp only));refine Kd.R_lit Kd.string _ 9 ?hg (N:=5) ?hd (xs:=([a0_0]:List ByteArray)) (inner:=[.string a0_0]) (ok:=fun _=>True) (okp:=fun _=>True) ?hr ?hp (fun _ hk=>hk) trivial (Below.refl _ _) (Nat.le_refl _) (by simp) ?_;(case hd=>rfl);(case hg=>rfl);(case hr=>(go_simp;done));(case hp=>exact (Reps.one (show Kd.M Kd.string _ _ _ a0_0 [.string a0_0] from rfl) (Reps.none _ _)));intro v328 w34 ho35 hb hg_ hnew_;clear hg_ hnew_;(rw [← Ny327.out] at ho35);have HO329:=ζa (Kd.R_lower ho35 (δs (by exact HB.out)));replace BK326:=ζa (blk_below (g:=gb326) (o:=.cells #[.string a0_0,.string a0_1,.int .i64 a0_2,.int .i64 a0_3,.int .i64 a0_4,.bool a0_5] 46 (0,0)) (by exact BK326.out) hb);replace HB:=ζa (δr (by exact HB.out) hb);clear hb ho35;obtain ⟨Ao36,co36,eo36⟩:=Kd.R_slice HO329.out;subst eo36)|((with_reducible refine δv (f:=86) rfl ?_);refine gl 6 Tryz.func86 #[.slice Ao36 y327.length co36] ?_;(with_reducible refine (impl_areNames.calls k _ _ y327 τ _ ?side1 ?side2 A2.out).mono ?_);(case side1=>repeat (exact (ζg HO329.out).2.2));(case side2=>exact (ζg HO329.out).2.1);rintro e w' ⟨rfl,⟨nd,rfl⟩⟩;refine ⟨_,rfl,?_⟩;have hcz37_0:w34.cell? ⟨gb326,0,none⟩=some (.string a0_0):=(δl BK326.out 0).trans rfl;have hcz37_1:w34.cell? ⟨gb326,1,none⟩=some (.string a0_1):=(δl BK326.out 1).trans rfl;have hcz37_2:w34.cell? ⟨gb326,2,none⟩=some (.int .i64 a0_2):=(δl BK326.out 2).trans rfl;have hcz37_3:w34.cell? ⟨gb326,3,none⟩=some (.int .i64 a0_3):=(δl BK326.out 3).trans rfl;have hcz37_4:w34.cell? ⟨gb326,4,none⟩=some (.int .i64 a0_4):=(δl BK326.out 4).trans rfl;have hcz37_5:w34.cell? ⟨gb326,5,none⟩=some (.bool a0_5):=(δl BK326.out 5).trans rfl;have hfz37_0:=δm BK326.out 0;have hfz37_1:=δm BK326.out 1;have hfz37_2:=δm BK326.out 2;have hfz37_3:=δm BK326.out 3;have hfz37_4:=δm BK326.out 4;have hfz37_5:=δm BK326.out 5)|((with_reducible refine δx (N:=10) rfl ?_);(try (refine gate_guard (by rfl) ?_;dsimp only));refine Kd.R_lit Kd.string _ 9 ?hg (N:=10) ?hd (xs:=([a0_1]:List ByteArray)) (inner:=[.string a0_1]) (ok:=fun _=>True) (okp:=fun _=>True) ?hr ?hp (fun _ hk=>hk) trivial (Below.refl _ _) (Nat.le_refl _) (by simp) ?_;(case hd=>rfl);(case hg=>rfl);(case hr=>(go_simp;done));(case hp=>exact (Reps.one (show Kd.M Kd.string _ _ _ a0_1 [.string a0_1] from rfl) (Reps.none _ _)));intro v332 w38 ho39 hb hg_ hnew_;clear hg_ hnew_;(rw [← Ny331.out] at ho39);have HO333:=ζa (Kd.R_lower (Kd.R_new' ho39 (Kd.R_lt (by (with_reducible repeat (apply ζc));exact HO329.out))) (δs (by repeat ((with_reducible first|exact HB.out|apply δi)))));replace HO329:=ζa (Kd.R_elder' (by (with_reducible repeat (apply ζc));exact HO329.out) (Kd.R_base ho39) hb);replace BK326:=ζa (blk_below (g:=gb326) (o:=.cells #[.string a0_0,.string a0_1,.int .i64 a0_2,.int .i64 a0_3,.int .i64 a0_4,.bool a0_5] 46 (0,0)) (by (with_reducible repeat (refine δn ?_ _));exact BK326.out) hb);replace HB:=ζa (δr (by repeat ((with_reducible first|exact HB.out|apply δi))) hb);clear hb ho39;obtain ⟨Ao40,co40,eo40⟩:=Kd.R_slice HO333.out;subst eo40)|(go_at_call 87;(with_reducible refine (impl_isPeople.calls k _ _ y331 τ _ ?side1 ?side2 A4.out).mono ?_);(case side1=>repeat (exact (ζg HO333.out).2.2));(case side2=>exact (ζg HO333.out).2.1);rintro e w' ⟨rfl,⟨nd,rfl⟩⟩;have hcz41_0:w38.cell? ⟨gb326,0,none⟩=some (.string a0_0):=(δl BK326.out 0).trans rfl;have hcz41_1:w38.cell? ⟨gb326,1,none⟩=some (.string a0_1):=(δl BK326.out 1).trans rfl;have hcz41_2:w38.cell? ⟨gb326,2,none⟩=some (.int .i64 a0_2):=(δl BK326.out 2).trans rfl;have hcz41_3:w38.cell? ⟨gb326,3,none⟩=some (.int .i64 a0_3):=(δl BK326.out 3).trans rfl;have hcz41_4:w38.cell? ⟨gb326,4,none⟩=some (.int .i64 a0_4):=(δl BK326.out 4).trans rfl;have hcz41_5:w38.cell? ⟨gb326,5,none⟩=some (.bool a0_5):=(δl BK326.out 5).trans rfl;have hfz41_0:=δm BK326.out 0;have hfz41_1:=δm BK326.out 1;have hfz41_2:=δm BK326.out 2;have hfz41_3:=δm BK326.out 3;have hfz41_4:=δm BK326.out 4;have hfz41_5:=δm BK326.out 5)|(go_at_call 61;(with_reducible refine (impl_isSome.calls a0_2 τ _ A6.out).mono ?_);rintro e w' ⟨rfl,⟨nd,rfl⟩⟩)|(go_at_call 61;(with_reducible refine (impl_isSome.calls a0_3 φ _ A8.out).mono ?_);rintro e w' ⟨rfl,⟨nd,rfl⟩⟩))
     go_ret
     exact ⟨by rfl,by repeat ((with_reducible first|exact HB.out|apply δi))⟩
   ·
    replace c7:=Bool.eq_false_iff.mpr c7
    subst c7
    rw [ifF] at H
    obtain rfl:=Option.some.inj H
    go_enter Tryz.func89,Tryz.ntmps89
    go_wp2_with (first|((with_reducible refine δx (N:=1) rfl ?_);(try (refine gate_guard (by rfl) ?_;dsimp only));refine bev 1 #[.string a0_0,.string a0_1,.int .i64 a0_2,.int .i64 a0_3,.int .i64 a0_4,.bool a0_5] 46 ?_;intro gb326 hg w42 hbox hb;have BK326:=ζa (hbox);have GW326:=ζa (gbw hg (by exact HB.out));have GE326:=ζa (gbw hg (by exact HB.out));replace HB:=ζa (δr (by exact HB.out) hb);clear hb hbox hg;have hcz43_0:w42.cell? ⟨gb326,0,none⟩=some (.string a0_0):=(δl BK326.out 0).trans rfl;have hcz43_1:w42.cell? ⟨gb326,1,none⟩=some (.string a0_1):=(δl BK326.out 1).trans rfl;have hcz43_2:w42.cell? ⟨gb326,2,none⟩=some (.int .i64 a0_2):=(δl BK326.out 2).trans rfl;have hcz43_3:w42.cell? ⟨gb326,3,none⟩=some (.int .i64 a0_3):=(δl BK326.out 3).trans rfl;have hcz43_4:w42.cell? ⟨gb326,4,none⟩=some (.int .i64 a0_4):=(δl BK326.out 4).trans rfl;have hcz43_5:w42.cell? ⟨gb326,5,none⟩=some (.bool a0_5):=(δl BK326.out 5).trans rfl;have hfz43_0:=δm BK326.out 0;have hfz43_1:=δm BK326.out 1;have hfz43_2:=δm BK326.out 2;have hfz43_3:=δm BK326.out 3;have hfz43_4:=δm BK326.out 4;have hfz43_5:=δm BK326.out 5)|((with_reducible refine δx (N:=5) rfl ?_);(try (refine gate_guard (by rfl) ?_;dsimp only));refine Kd.R_lit Kd.string _ 9 ?hg (N:=5) ?hd (xs:=([a0_0]:List ByteArray)) (inner:=[.string a0_0]) (ok:=fun _=>True) (okp:=fun _=>True) ?hr ?hp (fun _ hk=>hk) trivial (Below.refl _ _) (Nat.le_refl _) (by simp) ?_;(case hd=>rfl);(case hg=>rfl);(case hr=>(go_simp;done));(case hp=>exact (Reps.one (show Kd.M Kd.string _ _ _ a0_0 [.string a0_0] from rfl) (Reps.none _ _)));intro v328 w44 ho45 hb hg_ hnew_;clear hg_ hnew_;(rw [← Ny327.out] at ho45);have HO329:=ζa (Kd.R_lower ho45 (δs (by exact HB.out)));replace BK326:=ζa (blk_below (g:=gb326) (o:=.cells #[.string a0_0,.string a0_1,.int .i64 a0_2,.int .i64 a0_3,.int .i64 a0_4,.bool a0_5] 46 (0,0)) (by exact BK326.out) hb);replace HB:=ζa (δr (by exact HB.out) hb);clear hb ho45;obtain ⟨Ao46,co46,eo46⟩:=Kd.R_slice HO329.out;subst eo46)|((with_reducible refine δv (f:=86) rfl ?_);refine gl 6 Tryz.func86 #[.slice Ao46 y327.length co46] ?_;(with_reducible refine (impl_areNames.calls k _ _ y327 τ _ ?side1 ?side2 A2.out).mono ?_);(case side1=>repeat (exact (ζg HO329.out).2.2));(case side2=>exact (ζg HO329.out).2.1);rintro e w' ⟨rfl,⟨nd,rfl⟩⟩;refine ⟨_,rfl,?_⟩;have hcz47_0:w44.cell? ⟨gb326,0,none⟩=some (.string a0_0):=(δl BK326.out 0).trans rfl;have hcz47_1:w44.cell? ⟨gb326,1,none⟩=some (.string a0_1):=(δl BK326.out 1).trans rfl;have hcz47_2:w44.cell? ⟨gb326,2,none⟩=some (.int .i64 a0_2):=(δl BK326.out 2).trans rfl;have hcz47_3:w44.cell? ⟨gb326,3,none⟩=some (.int .i64 a0_3):=(δl BK326.out 3).trans rfl;have hcz47_4:w44.cell? ⟨gb326,4,none⟩=some (.int .i64 a0_4):=(δl BK326.out 4).trans rfl;have hcz47_5:w44.cell? ⟨gb326,5,none⟩=some (.bool a0_5):=(δl BK326.out 5).trans rfl;have hfz47_0:=δm BK326.out 0;have hfz47_1:=δm BK326.out 1;have hfz47_2:=δm BK326.out 2;have hfz47_3:=δm BK326.out 3;have hfz47_4:=δm BK326.out 4;have hfz47_5:=δm BK326.out 5)|((with_reducible refine δx (N:=10) rfl ?_);(try (refine gate_guard (by rfl) ?_;dsimp only));refine Kd.R_lit Kd.string _ 9 ?hg (N:=10) ?hd (xs:=([a0_1]:List ByteArray)) (inner:=[.string a0_1]) (ok:=fun _=>True) (okp:=fun _=>True) ?hr ?hp (fun _ hk=>hk) trivial (Below.refl _ _) (Nat.le_refl _) (by simp) ?_;(case hd=>rfl);(case hg=>rfl);(case hr=>(go_simp;done));(case hp=>exact (Reps.one (show Kd.M Kd.string _ _ _ a0_1 [.string a0_1] from rfl) (Reps.none _ _)));intro v332 w48 ho49 hb hg_ hnew_;clear hg_ hnew_;(rw [← Ny331.out] at ho49);have HO333:=ζa (Kd.R_lower (Kd.R_new' ho49 (Kd.R_lt (by (with_reducible repeat (apply ζc));exact HO329.out))) (δs (by repeat ((with_reducible first|exact HB.out|apply δi)))));replace HO329:=ζa (Kd.R_elder' (by (with_reducible repeat (apply ζc));exact HO329.out) (Kd.R_base ho49) hb);replace BK326:=ζa (blk_below (g:=gb326) (o:=.cells #[.string a0_0,.string a0_1,.int .i64 a0_2,.int .i64 a0_3,.int .i64 a0_4,.bool a0_5] 46 (0,0)) (by (with_reducible repeat (refine δn ?_ _));exact BK326.out) hb);replace HB:=ζa (δr (by repeat ((with_reducible first|exact HB.out|apply δi))) hb);clear hb ho49;obtain ⟨Ao50,co50,eo50⟩:=Kd.R_slice HO333.out;subst eo50)|(go_at_call 87;(with_reducible refine (impl_isPeople.calls k _ _ y331 τ _ ?side1 ?side2 A4.out).mono ?_);(case side1=>repeat (exact (ζg HO333.out).2.2));(case side2=>exact (ζg HO333.out).2.1);rintro e w' ⟨rfl,⟨nd,rfl⟩⟩;have hcz51_0:w48.cell? ⟨gb326,0,none⟩=some (.string a0_0):=(δl BK326.out 0).trans rfl;have hcz51_1:w48.cell? ⟨gb326,1,none⟩=some (.string a0_1):=(δl BK326.out 1).trans rfl;have hcz51_2:w48.cell? ⟨gb326,2,none⟩=some (.int .i64 a0_2):=(δl BK326.out 2).trans rfl;have hcz51_3:w48.cell? ⟨gb326,3,none⟩=some (.int .i64 a0_3):=(δl BK326.out 3).trans rfl;have hcz51_4:w48.cell? ⟨gb326,4,none⟩=some (.int .i64 a0_4):=(δl BK326.out 4).trans rfl;have hcz51_5:w48.cell? ⟨gb326,5,none⟩=some (.bool a0_5):=(δl BK326.out 5).trans rfl;have hfz51_0:=δm BK326.out 0;have hfz51_1:=δm BK326.out 1;have hfz51_2:=δm BK326.out 2;have hfz51_3:=δm BK326.out 3;have hfz51_4:=δm BK326.out 4;have hfz51_5:=δm BK326.out 5)|(go_at_call 61;(with_reducible refine (impl_isSome.calls a0_2 φ _ A6.out).mono ?_);rintro e w' ⟨rfl,⟨nd,rfl⟩⟩))
    go_ret
    exact ⟨by rfl,by repeat ((with_reducible first|exact HB.out|apply δi))⟩
  ·
   replace c5:=Bool.eq_false_iff.mpr c5
   subst c5
   rw [ifF] at H
   obtain rfl:=Option.some.inj H
   go_enter Tryz.func89,Tryz.ntmps89
   go_wp2_with (first|((with_reducible refine δx (N:=1) rfl ?_);(try (refine gate_guard (by rfl) ?_;dsimp only));refine bev 1 #[.string a0_0,.string a0_1,.int .i64 a0_2,.int .i64 a0_3,.int .i64 a0_4,.bool a0_5] 46 ?_;intro gb326 hg w52 hbox hb;have BK326:=ζa (hbox);have GW326:=ζa (gbw hg (by exact HB.out));have GE326:=ζa (gbw hg (by exact HB.out));replace HB:=ζa (δr (by exact HB.out) hb);clear hb hbox hg;have hcz53_0:w52.cell? ⟨gb326,0,none⟩=some (.string a0_0):=(δl BK326.out 0).trans rfl;have hcz53_1:w52.cell? ⟨gb326,1,none⟩=some (.string a0_1):=(δl BK326.out 1).trans rfl;have hcz53_2:w52.cell? ⟨gb326,2,none⟩=some (.int .i64 a0_2):=(δl BK326.out 2).trans rfl;have hcz53_3:w52.cell? ⟨gb326,3,none⟩=some (.int .i64 a0_3):=(δl BK326.out 3).trans rfl;have hcz53_4:w52.cell? ⟨gb326,4,none⟩=some (.int .i64 a0_4):=(δl BK326.out 4).trans rfl;have hcz53_5:w52.cell? ⟨gb326,5,none⟩=some (.bool a0_5):=(δl BK326.out 5).trans rfl;have hfz53_0:=δm BK326.out 0;have hfz53_1:=δm BK326.out 1;have hfz53_2:=δm BK326.out 2;have hfz53_3:=δm BK326.out 3;have hfz53_4:=δm BK326.out 4;have hfz53_5:=δm BK326.out 5)|((with_reducible refine δx (N:=5) rfl ?_);(try (refine gate_guard (by rfl) ?_;dsimp only));refine Kd.R_lit Kd.string _ 9 ?hg (N:=5) ?hd (xs:=([a0_0]:List ByteArray)) (inner:=[.string a0_0]) (ok:=fun _=>True) (okp:=fun _=>True) ?hr ?hp (fun _ hk=>hk) trivial (Below.refl _ _) (Nat.le_refl _) (by simp) ?_;(case hd=>rfl);(case hg=>rfl);(case hr=>(go_simp;done));(case hp=>exact (Reps.one (show Kd.M Kd.string _ _ _ a0_0 [.string a0_0] from rfl) (Reps.none _ _)));intro v328 w54 ho55 hb hg_ hnew_;clear hg_ hnew_;(rw [← Ny327.out] at ho55);have HO329:=ζa (Kd.R_lower ho55 (δs (by exact HB.out)));replace BK326:=ζa (blk_below (g:=gb326) (o:=.cells #[.string a0_0,.string a0_1,.int .i64 a0_2,.int .i64 a0_3,.int .i64 a0_4,.bool a0_5] 46 (0,0)) (by exact BK326.out) hb);replace HB:=ζa (δr (by exact HB.out) hb);clear hb ho55;obtain ⟨Ao56,co56,eo56⟩:=Kd.R_slice HO329.out;subst eo56)|((with_reducible refine δv (f:=86) rfl ?_);refine gl 6 Tryz.func86 #[.slice Ao56 y327.length co56] ?_;(with_reducible refine (impl_areNames.calls k _ _ y327 τ _ ?side1 ?side2 A2.out).mono ?_);(case side1=>repeat (exact (ζg HO329.out).2.2));(case side2=>exact (ζg HO329.out).2.1);rintro e w' ⟨rfl,⟨nd,rfl⟩⟩;refine ⟨_,rfl,?_⟩;have hcz57_0:w54.cell? ⟨gb326,0,none⟩=some (.string a0_0):=(δl BK326.out 0).trans rfl;have hcz57_1:w54.cell? ⟨gb326,1,none⟩=some (.string a0_1):=(δl BK326.out 1).trans rfl;have hcz57_2:w54.cell? ⟨gb326,2,none⟩=some (.int .i64 a0_2):=(δl BK326.out 2).trans rfl;have hcz57_3:w54.cell? ⟨gb326,3,none⟩=some (.int .i64 a0_3):=(δl BK326.out 3).trans rfl;have hcz57_4:w54.cell? ⟨gb326,4,none⟩=some (.int .i64 a0_4):=(δl BK326.out 4).trans rfl;have hcz57_5:w54.cell? ⟨gb326,5,none⟩=some (.bool a0_5):=(δl BK326.out 5).trans rfl;have hfz57_0:=δm BK326.out 0;have hfz57_1:=δm BK326.out 1;have hfz57_2:=δm BK326.out 2;have hfz57_3:=δm BK326.out 3;have hfz57_4:=δm BK326.out 4;have hfz57_5:=δm BK326.out 5)|((with_reducible refine δx (N:=10) rfl ?_);(try (refine gate_guard (by rfl) ?_;dsimp only));refine Kd.R_lit Kd.string _ 9 ?hg (N:=10) ?hd (xs:=([a0_1]:List ByteArray)) (inner:=[.string a0_1]) (ok:=fun _=>True) (okp:=fun _=>True) ?hr ?hp (fun _ hk=>hk) trivial (Below.refl _ _) (Nat.le_refl _) (by simp) ?_;(case hd=>rfl);(case hg=>rfl);(case hr=>(go_simp;done));(case hp=>exact (Reps.one (show Kd.M Kd.string _ _ _ a0_1 [.string a0_1] from rfl) (Reps.none _ _)));intro v332 w58 ho59 hb hg_ hnew_;clear hg_ hnew_;(rw [← Ny331.out] at ho59);have HO333:=ζa (Kd.R_lower (Kd.R_new' ho59 (Kd.R_lt (by (with_reducible repeat (apply ζc));exact HO329.out))) (δs (by repeat ((with_reducible first|exact HB.out|apply δi)))));replace HO329:=ζa (Kd.R_elder' (by (with_reducible repeat (apply ζc));exact HO329.out) (Kd.R_base ho59) hb);replace BK326:=ζa (blk_below (g:=gb326) (o:=.cells #[.string a0_0,.string a0_1,.int .i64 a0_2,.int .i64 a0_3,.int .i64 a0_4,.bool a0_5] 46 (0,0)) (by (with_reducible repeat (refine δn ?_ _));exact BK326.out) hb);replace HB:=ζa (δr (by repeat ((with_reducible first|exact HB.out|apply δi))) hb);clear hb ho59;obtain ⟨Ao60,co60,eo60⟩:=Kd.R_slice HO333.out;subst eo60)|(go_at_call 87;(with_reducible refine (impl_isPeople.calls k _ _ y331 φ _ ?side1 ?side2 A4.out).mono ?_);(case side1=>repeat (exact (ζg HO333.out).2.2));(case side2=>exact (ζg HO333.out).2.1);rintro e w' ⟨rfl,⟨nd,rfl⟩⟩))
   go_ret
   exact ⟨by rfl,by repeat ((with_reducible first|exact HB.out|apply δi))⟩
 ·
  replace c3:=Bool.eq_false_iff.mpr c3
  subst c3
  rw [ifF] at H
  obtain rfl:=Option.some.inj H
  go_enter Tryz.func89,Tryz.ntmps89
  go_wp2_with (first|((with_reducible refine δx (N:=1) rfl ?_);(try (refine gate_guard (by rfl) ?_;dsimp only));refine bev 1 #[.string a0_0,.string a0_1,.int .i64 a0_2,.int .i64 a0_3,.int .i64 a0_4,.bool a0_5] 46 ?_;intro gb326 hg w61 hbox hb;have BK326:=ζa (hbox);have GW326:=ζa (gbw hg (by exact HB.out));have GE326:=ζa (gbw hg (by exact HB.out));replace HB:=ζa (δr (by exact HB.out) hb);clear hb hbox hg;have hcz62_0:w61.cell? ⟨gb326,0,none⟩=some (.string a0_0):=(δl BK326.out 0).trans rfl;have hcz62_1:w61.cell? ⟨gb326,1,none⟩=some (.string a0_1):=(δl BK326.out 1).trans rfl;have hcz62_2:w61.cell? ⟨gb326,2,none⟩=some (.int .i64 a0_2):=(δl BK326.out 2).trans rfl;have hcz62_3:w61.cell? ⟨gb326,3,none⟩=some (.int .i64 a0_3):=(δl BK326.out 3).trans rfl;have hcz62_4:w61.cell? ⟨gb326,4,none⟩=some (.int .i64 a0_4):=(δl BK326.out 4).trans rfl;have hcz62_5:w61.cell? ⟨gb326,5,none⟩=some (.bool a0_5):=(δl BK326.out 5).trans rfl;have hfz62_0:=δm BK326.out 0;have hfz62_1:=δm BK326.out 1;have hfz62_2:=δm BK326.out 2;have hfz62_3:=δm BK326.out 3;have hfz62_4:=δm BK326.out 4;have hfz62_5:=δm BK326.out 5)|((with_reducible refine δx (N:=5) rfl ?_);(try (refine gate_guard (by rfl) ?_;dsimp only));refine Kd.R_lit Kd.string _ 9 ?hg (N:=5) ?hd (xs:=([a0_0]:List ByteArray)) (inner:=[.string a0_0]) (ok:=fun _=>True) (okp:=fun _=>True) ?hr ?hp (fun _ hk=>hk) trivial (Below.refl _ _) (Nat.le_refl _) (by simp) ?_;(case hd=>rfl);(case hg=>rfl);(case hr=>(go_simp;done));(case hp=>exact (Reps.one (show Kd.M Kd.string _ _ _ a0_0 [.string a0_0] from rfl) (Reps.none _ _)));intro v328 w63 ho64 hb hg_ hnew_;clear hg_ hnew_;(rw [← Ny327.out] at ho64);have HO329:=ζa (Kd.R_lower ho64 (δs (by exact HB.out)));replace BK326:=ζa (blk_below (g:=gb326) (o:=.cells #[.string a0_0,.string a0_1,.int .i64 a0_2,.int .i64 a0_3,.int .i64 a0_4,.bool a0_5] 46 (0,0)) (by exact BK326.out) hb);replace HB:=ζa (δr (by exact HB.out) hb);clear hb ho64;obtain ⟨Ao65,co65,eo65⟩:=Kd.R_slice HO329.out;subst eo65)|((with_reducible refine δv (f:=86) rfl ?_);refine gl 6 Tryz.func86 #[.slice Ao65 y327.length co65] ?_;(with_reducible refine (impl_areNames.calls k _ _ y327 φ _ ?side1 ?side2 A2.out).mono ?_);(case side1=>repeat (exact (ζg HO329.out).2.2));(case side2=>exact (ζg HO329.out).2.1);rintro e w' ⟨rfl,⟨nd,rfl⟩⟩;refine ⟨_,rfl,?_⟩))
  go_ret
  exact ⟨by rfl,by repeat ((with_reducible first|exact HB.out|apply δi))⟩

end Go.Proofs.YtjhhehjjnfnigaaGreatDoor.Q
