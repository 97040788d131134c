/- Parts of the proof: what single Go functions compute, each with its walk, and plain laws over these. -/
import Derived.Test.YtabmfhnhmoiljaaGreatDoorM0
import Derived.Test.YtabmfhnhmoiljaaGreatDoorM2
namespace Go.Proofs.YtabmfhnhmoiljaaGreatDoor.Q
open Go.RowKit Go.Proofs.YtabmfhnhmoiljaaGreatDoorW.PrintWords Go.Proofs.YtabmfhnhmoiljaaGreatDoorW.PrintLast Go.Proofs.YtabmfhnhmoiljaaGreatDoorW.PrintMore
open Go.Proofs.YtabmfhnhmoiljaaGreatDoorW.PrintWords.Aside0 renaming mk → ζa
open Go.Proofs.YtabmfhnhmoiljaaGreatDoorW.PrintWords.Kd renaming R_below → ζh, R_reads' → ζg
open Go.Proofs.YtabmfhnhmoiljaaGreatDoorW.PrintWords renaming below_step → δr
open Bool renaming true → τ, false → φ
attribute [local go_sem] max2_int min2_int max_two min_two max_three min_three max_four min_four   -- for this text's walks alone
set_option linter.unusedVariables false
set_option linter.unusedSimpArgs false

/-! ### impl_drop: function 163 -/
def impl_drop.f (k:Nat) (l0:List (S51)) (a1:ByteArray):Option (List (S51) × Int) :=
 if l0.length≤1000000 then ((impl_pairAt.f k l0 a1).bind fun b=>if b.2=τ then (if 0≤b.1 then (if b.1<(l0.length:Int) then some (l0.eraseIdx b.1.toNat,0) else none) else none) else some (l0,5)) else none
set_option maxHeartbeats 2000000 in
set_option maxRecDepth 100000 in
theorem impl_drop.calls (k:Nat) (A0:Option Addr) (c0:Nat) (l0:List (S51)) (a1:ByteArray) (r1:List (S51)) (r2:Int) (w:World) (hr0:Kd.C k51 w A0 l0.length l0) (hc0:l0.length≤c0) (h:impl_drop.f k l0 a1=some (r1,r2)) :
  Calls Tryz.prog 163 #[.slice A0 l0.length c0,.string a1] w fun e w' => ∃ v0_:Value,e = .returned (.tuple #[v0_,.int .i64 r2])∧Kd.R k51 51 w' w.heap.size (fun _=>True) v0_ r1∧Below w.heap.size w w':=by
 unfold impl_drop.f at h
 by_cases hl:l0.length≤1000000
 ·
  rw [if_pos hl] at h
  obtain ⟨⟨b1,b2⟩,h1,h⟩:=Option.bind_eq_some_iff.mp h
  have H1:=ζa h1
  have HL:=ζa hl
  have HR0:=ζa hr0
  have HC0:=ζa hc0
  have HCL:Aside0 (slices_Clone_impl_Pair_impl_Pair.f l0=some l0):=⟨by unfold slices_Clone_impl_Pair_impl_Pair.f;rw [if_pos (by omega)]⟩
  clear h1 hr0 hc0 hl
  cases b2 with
  | false =>
   simp only [Bool.false_eq_true,if_false,Option.some.injEq,Prod.mk.injEq] at h
   obtain ⟨rfl,rfl⟩:=h
   go_enter Tryz.func163,Tryz.ntmps163
   go_wp2_with fail
   refine (slices_Clone_impl_Pair_impl_Pair.calls A0 c0 l0 l0 _ HR0.out HC0.out HCL.out).mono ?_
   rintro e w' ⟨v,rfl,ho,hb⟩
   obtain ⟨A,c,rfl,hnc,hrc⟩:=Kd.R_reads ho
   have HO:=ζa ho
   have HB:=ζa hb
   have HC:=ζa hrc
   have HN:=ζa hnc
   clear ho hb hrc hnc
   go_wp2_with fail
   refine (impl_pairAt.calls k A c l0 a1 b1 φ _ HC.out HN.out H1.out).mono ?_
   rintro e w2 ⟨rfl,hb2⟩
   have HO2:=ζa (ζh HO.out hb2)
   have HB2:=ζa (δr HB.out hb2)
   clear hb2
   go_wp2
   go_ret2
   exact ⟨_,rfl,HO2.out,HB2.out⟩
  | true =>
   simp only [if_true] at h
   by_cases g1:0≤b1
   ·
    rw [if_pos g1] at h
    by_cases g2:b1<(l0.length:Int)
    ·
     rw [if_pos g2] at h
     simp only [Option.some.injEq,Prod.mk.injEq] at h
     obtain ⟨rfl,rfl⟩:=h
     obtain ⟨i,rfl⟩ : ∃ i:Nat,b1=(i:Int):=⟨b1.toNat,by omega⟩
     have hi:i<l0.length:=by omega
     have HI:=ζa hi
     have hib:i≤1000000:=by have:=HL.out;omega
     clear g1 g2 hi
     go_enter Tryz.func163,Tryz.ntmps163
     go_wp2_with fail
     refine (slices_Clone_impl_Pair_impl_Pair.calls A0 c0 l0 l0 _ HR0.out HC0.out HCL.out).mono ?_
     rintro e w' ⟨v,rfl,ho,hb⟩
     have hshape : ∃ g c,v = .slice (some ⟨g,0,none⟩) l0.length c∧l0.length≤c∧c≤maxLen:=by
      obtain ⟨_,inner,hown,_⟩:=ho
      rcases hown.2 with ⟨_,h0⟩|⟨g,cap,cur,hv,_,_,hn,hm,_⟩
      · have:=HI.out;omega
      ·
       exact ⟨g,cap,hv,hn,hm⟩
     obtain ⟨g,c,rfl,hnc,hcm⟩:=hshape
     have HC:=ζa (ζg ho).2.2
     have HO:=ζa ho
     have HB:=ζa hb
     have HN:=ζa hnc
     have HM:=ζa hcm
     clear ho hb hnc hcm
     go_wp2_with fail
     refine (impl_pairAt.calls k (some ⟨g,0,none⟩) c l0 a1 i τ _ HC.out HN.out H1.out).mono ?_
     rintro e w2 ⟨rfl,hb2⟩
     have HO2:=ζa (ζh HO.out hb2)
     have HB2:=ζa (δr HB.out hb2)
     clear hb2
     go_wp2_with fail
     refine (slices_Delete_impl_Pair_impl_Pair.calls w.heap.size g l0.length c i l0 w _ HO2.out HI.out HL.out HN.out (by have:=HM.out;unfold maxLen at this;omega) HB2.out HB2.out.size).mono ?_
     rintro e w3 ⟨rfl,ho3,hb3⟩
     have HO3:=ζa ho3
     have HB3:=ζa hb3
     clear ho3 hb3
     go_wp2
     go_ret2
     exact ⟨_,rfl,HO3.out,HB3.out⟩
    · rw [if_neg g2] at h;cases h
   ·
    rw [if_neg g1] at h;cases h
 · rw [if_neg hl] at h;cases h


open Bool renaming true → τ

/-! ### impl_all: function 109 -/
/-- A function value and what it captures. -/
abbrev FV:=Nat × Array Value
def encF (x:FV):Value:=.func (.func x.1) #[] x.2
/-- A function value that does F to a store: in this world and in all later ones. -/
structure Chg (w:World) (x:FV) (F:List S51→Option (List S51 × Int)):Prop where
 enters : ∀ args w,(callFunc x.1 args).run Tryz.prog w = .ok (.enter x.1 args) w
 calls : ∀ (W:World) (A:Option Addr) (c:Nat) (l r:List S51) (code:Int),Below w.heap.size w W→Kd.C k51 W A l.length l→l.length≤c→F l=some (r,code) →
  Calls Tryz.prog x.1 (#[.slice A l.length c] ++ x.2) W fun e W' => ∃ v0,e = .returned (.tuple #[v0,.int .i64 code])∧(code=0→Kd.R k51 51 W' W.heap.size (fun _=>True) v0 r)∧Below W.heap.size W W'
theorem Chg.below {w W:World} {x:FV} {F:List S51→Option (List S51 × Int)} (h:Chg w x F) (hb:Below w.heap.size w W):Chg W x F :=
 ⟨h.enters,fun W2 A c l r code hb2=>h.calls W2 A c l r code (δr hb hb2)⟩
/-- The same,and what it hands back is always its own. -/
structure ChgR (w:World) (x:FV) (F:List S51→Option (List S51 × Int)):Prop where
 enters : ∀ args w,(callFunc x.1 args).run Tryz.prog w = .ok (.enter x.1 args) w
 calls : ∀ (W:World) (A:Option Addr) (c:Nat) (l r:List S51) (code:Int),Below w.heap.size w W→Kd.C k51 W A l.length l→l.length≤c→F l=some (r,code) →
  Calls Tryz.prog x.1 (#[.slice A l.length c] ++ x.2) W fun e W' => ∃ v0,e = .returned (.tuple #[v0,.int .i64 code])∧Kd.R k51 51 W' W.heap.size (fun _=>True) v0 r∧Below W.heap.size W W'
theorem ChgR.below {w W:World} {x:FV} {F:List S51→Option (List S51 × Int)} (h:ChgR w x F) (hb:Below w.heap.size w W):ChgR W x F :=
 ⟨h.enters,fun W2 A c l r code hb2=>h.calls W2 A c l r code (δr hb hb2)⟩
theorem ChgR.chg {w:World} {x:FV} {F:List S51→Option (List S51 × Int)} (h:ChgR w x F):Chg w x F :=
 ⟨h.enters,fun W A c l r code hb hr hc hF=>(h.calls W A c l r code hb hr hc hF).mono (fun _ _ ⟨v,e,ho,hb⟩=>⟨v,e,fun _=>ho,hb⟩)⟩
theorem chg_nil {w:World} : ∀ (i:Nat) (x:FV) (F:List S51→Option (List S51 × Int)),([]:List FV)[i]? = some x→([]:List (List S51→Option (List S51 × Int)))[i]? = some F→Chg w x F:=fun _ _ _ h=>by simp at h
theorem chg_cons {w:World} {x0:FV} {F0:List S51→Option (List S51 × Int)} {xs:List FV} {Fs:List (List S51→Option (List S51 × Int))} (h:Chg w x0 F0) (t : ∀ (i:Nat) x F,xs[i]? = some x→Fs[i]? = some F→Chg w x F) : ∀ (i:Nat) x F,(x0 :: xs)[i]? = some x→(F0 :: Fs)[i]? = some F→Chg w x F
 | 0,x,F,hx,hF=>by
  simp only [List.getElem?_cons_zero,Option.some.injEq] at hx hF
  subst hx hF
  exact h
 | i+1,x,F,hx,hF=>t i x F (by simpa using hx) (by simpa using hF)
def kF:Kd FV:=Kd.scalar encF (fun _=>rfl)
theorem at_F {w:World} {A:Option Addr} {n:Nat} {xs:List FV} (h:kF.C w A n xs) (i:Int) (h0:0≤i) (h1:i<n) : ∃ ad,A=some ad∧w.cell? (ad.add i.toNat)=some (encF (rdOf (0,#[]) xs i)) :=
 ReadsOf.at_ (Kd.reads_of_C (enc:=encF) (d:=(0,#[])) (h1:=fun _=>rfl) h) i h0 h1
def impl_all.go (k:Nat) (l0:List S51):List (List S51→Option (List S51 × Int))→List S51→Option (List S51 × Int)
 | [],o=>some (o,0)
 | F :: Fs,o=>(F o).bind fun b=>if b.2=0 then impl_all.go k l0 Fs b.1 else (impl_drop.f k l0 ⟨#[]⟩).bind fun d=>some (d.1,b.2)
def impl_all.f (k:Nat) (l0:List S51) (Fs:List (List S51→Option (List S51 × Int))):Option (List S51 × Int):=(impl_drop.f k l0 ⟨#[]⟩).bind fun d=>impl_all.go k l0 Fs d.1
set_option maxHeartbeats 4000000 in
set_option maxRecDepth 100000 in
theorem impl_all.calls (k:Nat) (A0:Option Addr) (c0:Nat) (l0:List S51) (B:Option Addr) (cB:Nat) (xs:List FV) (Fs:List (List S51→Option (List S51 × Int))) (r1:List S51) (r2:Int) (w:World) (hr0:Kd.C k51 w A0 l0.length l0) (hc0:l0.length≤c0) (hx:kF.C w B xs.length xs) (hlen:xs.length=Fs.length) (hchg : ∀ (i:Nat) x F,xs[i]? = some x→Fs[i]? = some F→Chg w x F) (h:impl_all.f k l0 Fs=some (r1,r2)) :
  Calls Tryz.prog 109 #[.slice A0 l0.length c0,.slice B xs.length cB] w fun e w' => ∃ v0_:Value,e = .returned (.tuple #[v0_,.int .i64 r2])∧Kd.R k51 51 w' w.heap.size (fun _=>True) v0_ r1∧Below w.heap.size w w':=by
 obtain ⟨⟨d1,d2⟩,h1,h⟩:=Option.bind_eq_some_iff.mp h
 have H1:=ζa h1
 have HG:=ζa h
 have HR0:=ζa hr0
 have HC0:=ζa hc0
 have HX:=ζa hx
 have HL:=ζa hlen
 have HCH:=ζa hchg
 have hmax:xs.length≤9223372036854775807:=hx.2.1
 clear h1 h hr0 hc0 hx hlen hchg
 go_enter Tryz.func109,Tryz.ntmps109
 go_wp2_with fail
 refine (impl_drop.calls k A0 c0 l0 ⟨#[]⟩ d1 d2 _ HR0.out HC0.out H1.out).mono ?_
 rintro e w1 ⟨v,rfl,ho,hb⟩
 have HO:=ζa ho
 have HB:=ζa hb
 clear ho hb
 go_wp2_with fail
 go_loopg [6,21] xs.length (fun gg s6 s21 wr => ∃ (kk:Nat) (o:List S51),kk≤xs.length∧xs.length - kk≤gg∧s21 = .int .i64 kk∧Aside0 (Kd.R k51 51 wr w.heap.size (fun _=>True) s6 o)∧Aside0 (impl_all.go k l0 (Fs.drop kk) o=some (r1,r2))∧Aside0 (Below w.heap.size w wr))
 case atStart=>exact ⟨0,d1,Nat.zero_le _,by omega,rfl,⟨by repeat (exact HO.out)⟩,HG,⟨by repeat (exact HB.out)⟩⟩
 case round =>
  clear HO HB HG
  obtain ⟨kk,o,hkk,hg,rfl,HO,HG,HB⟩:=hrel
  by_cases hlt:kk<xs.length
  ·
   have hltz:(kk:Int)<(xs.length:Int):=by omega
   have p0:0≤(kk:Int):=by omega
   obtain ⟨ad,e1,hx0⟩:=at_F HX.out kk p0 hltz
   cases e1
   rw [Int.toNat_natCast] at hx0
   replace hx0:=(HB.out.cell (World.block_lt_of_cell? w _ hx0)).trans hx0
   have hxk:xs[kk]? = some (rdOf (0,#[]) xs kk):=by
    simp only [rdOf,Int.toNat_natCast,List.getD_eq_getElem?_getD]
    rw [List.getElem?_eq_getElem hlt];rfl
   have hFk:kk<Fs.length:=by rw [← HL.out];exact hlt
   have hch:=HCH.out kk _ (Fs[kk]) hxk (List.getElem?_eq_getElem hFk)
   have hG:=HG.out
   rw [List.drop_eq_getElem_cons hFk] at hG
   obtain ⟨⟨n1,n2⟩,hF,hG⟩:=Option.bind_eq_some_iff.mp hG
   generalize rdOf (0,#[]) xs kk=x at *
   obtain ⟨g,lb⟩:=x
   replace hx0:wr.cell? (ad.add kk)=some (.func (.func g) #[] lb):=hx0
   have eg:=hch.enters
   replace eg : ∀ args w,(callFunc g args).run Tryz.prog w = .ok (.enter g args) w:=eg
   obtain ⟨A,c,rfl,hnc,hrc⟩:=Kd.R_reads HO.out
   have HCHG:=ζa hch
   have HF:=ζa hF
   have HO':=HO
   clear hch hF hxk
   go_wp2_with fail
   refine (HCHG.out.calls _ A c o n1 n2 (by repeat (exact HB.out)) (by repeat (exact hrc)) hnc HF.out).mono ?_
   rintro e w2 ⟨v2,rfl,ho2,hb2⟩
   have HB2:=ζa (δr HB.out hb2)
   have HO2:Aside0 (n2=0→Kd.R k51 51 w2 w.heap.size (fun _=>True) v2 n1):=⟨fun h0=>Kd.R_lower (ho2 h0) HB.out.size⟩
   clear ho2 hb2 hrc
   by_cases c2:n2=0
   ·
    subst c2
    rw [if_pos rfl] at hG
    have HG2:=ζa hG
    have HO3:=ζa (HO2.out rfl)
    clear hG HO2 HO HO' HB HG
    go_wp2
    go_roundg (xs.length - (kk+1))
    case measure=>omega
    case rel=>exact ⟨kk+1,n1,by omega,by omega,by go_num,HO3,HG2,HB2⟩
   ·
    rw [if_neg c2] at hG
    obtain ⟨⟨z1,z2⟩,hd,hG⟩:=Option.bind_eq_some_iff.mp hG
    simp only [Option.some.injEq,Prod.mk.injEq] at hG
    obtain ⟨rfl,rfl⟩:=hG
    have HD:=ζa hd
    have c2b:(n2 != 0)=τ:=bne_iff_ne.mpr c2
    clear hd c2
    go_wp2_with fail
    refine (impl_drop.calls k A0 c0 l0 ⟨#[]⟩ z1 z2 _ (by repeat (exact Kd.C_below HR0.out HB2.out)) HC0.out HD.out).mono ?_
    rintro e w3 ⟨v3,rfl,ho3,hb3⟩
    have HB3:=ζa (δr HB2.out hb3)
    have HO3:=ζa (Kd.R_lower ho3 HB2.out.size)
    clear ho3 hb3
    go_wp2
    go_ret2
    exact ⟨_,rfl,HO3.out,HB3.out⟩
  ·
   have hltz : ¬ (kk:Int)<(xs.length:Int):=by omega
   have hk:kk=xs.length:=by omega
   have hG:=HG.out
   rw [hk,HL.out,List.drop_length] at hG
   simp only [impl_all.go,Option.some.injEq,Prod.mk.injEq] at hG
   obtain ⟨rfl,rfl⟩:=hG
   go_wp2
   go_ret2
   exact ⟨_,rfl,HO.out,HB.out⟩


open Go.Proofs.YtabmfhnhmoiljaaGreatDoorW.PrintWords renaming gate_callee → δv
open List renaming map_toArray → δd, map_cons → δe, map_nil → δf

/-! ### impl_isAmount: function 128 -/
def impl_isAmount.f (a0:Int):Option (Bool):=(impl_within.f a0 0 1000000000000000000).bind fun t178=>(some t178)
set_option maxHeartbeats 8000000 in
set_option maxRecDepth 100000 in
theorem impl_isAmount.calls (a0:Int) (r:Bool) (w:World) (h:impl_isAmount.f a0=some r) :
  Calls Tryz.prog 128 #[.int .i64 a0] w fun e w'=>e = .returned (.bool r)∧Drawn0 w w':=by
 have H:((impl_within.f a0 0 1000000000000000000).bind fun t178=>(some t178))=some r:=h
 clear h
 replace H:=Option.bind_eq_some_iff.mp H
 obtain ⟨t178,A20,H⟩:=H
 replace H:(some t178)=some r:=H
 have A2:=ζa A20
 clear A20
 obtain rfl:=Option.some.inj H
 go_enter Tryz.func128,Tryz.ntmps128
 go_wp2_with (((with_reducible refine δv (f:=161) rfl ?_);refine goesL_ (some 4) rfl rfl Tryz.func161 (by kernel_rfl) rfl #[.int .i64 a0,.int .i64 0,.int .i64 1000000000000000000] rfl (by (try simp only [δd,δe,δf]);rfl) ?_;(with_reducible refine (impl_within.calls a0 0 1000000000000000000 t178 _ A2.out).mono ?_);rintro e w' ⟨rfl,⟨nd,rfl⟩⟩;refine ⟨_,rfl,?_⟩))
 go_ret
 exact ⟨by rfl,by repeat (first|exact Drawn0.refl _|apply Drawn0.step)⟩


open Go.RowKit renaming wrap64 → ζm

/-! ### impl_SubAmount: function 185 -/
def impl_SubAmount.j0:Nat→Int→Int→Bool→Option (Int × Int)
 | 0,_,_,_=>none
 | k+1,x0,x1,x6=>if x6=τ then (some (0,4)) else (if x0<x1 then (some (0,12)) else (some (ζm (x0 - x1),0)))
def impl_SubAmount.f (k:Nat) (a0:Int) (a1:Int):Option (Int × Int):=(impl_isAmount.f a0).bind fun t179=>(if t179=τ then ((impl_isAmount.f a1).bind fun t180=>(impl_SubAmount.j0 k a0 a1 (!t180))) else (impl_SubAmount.j0 k a0 a1 τ))
set_option maxHeartbeats 8000000 in
set_option maxRecDepth 100000 in
theorem impl_SubAmount.calls (k:Nat) (a0:Int) (a1:Int) (r1:Int) (r2:Int) (w:World) (h:impl_SubAmount.f k a0 a1=some (r1,r2)) :
  Calls Tryz.prog 185 #[.int .i64 a0,.int .i64 a1] w fun e w'=>e = .returned (.tuple #[.int .i64 r1,.int .i64 r2])∧Drawn0 w w':=by
 have H:((impl_isAmount.f a0).bind fun t179=>(if t179=τ then ((impl_isAmount.f a1).bind fun t180=>(impl_SubAmount.j0 k a0 a1 (!t180))) else (impl_SubAmount.j0 k a0 a1 τ)))=some (r1,r2):=h
 clear h
 have HC3:=ζa H
 clear H
 go_enter Tryz.func185,Tryz.ntmps185
 go_upto_region 1 with (fail)
 go_cut [6] (fun v6 wc => ∃ (kq:Nat) (x6_2:Bool),v6 = .bool x6_2∧Aside0 (impl_SubAmount.j0 kq a0 a1 x6_2=some (r1,r2))∧Aside0 (kq≤k)∧Drawn0 w wc)
 case first =>
  have H:=HC3.out
  clear HC3
  replace H:=Option.bind_eq_some_iff.mp H
  obtain ⟨t179,A40,H⟩:=H
  replace H:(if t179=τ then ((impl_isAmount.f a1).bind fun t180=>(impl_SubAmount.j0 k a0 a1 (!t180))) else (impl_SubAmount.j0 k a0 a1 τ))=some (r1,r2):=H
  have A4:=ζa A40
  clear A40
  by_cases c5:t179=τ
  ·
   subst c5
   have H1:((impl_isAmount.f a1).bind fun t180=>(impl_SubAmount.j0 k a0 a1 (!t180)))=some (r1,r2):=by rw [if_pos rfl] at H;exact H
   clear H
   have H:=H1
   clear H1
   replace H:=Option.bind_eq_some_iff.mp H
   obtain ⟨t180,A60,H⟩:=H
   replace H:(impl_SubAmount.j0 k a0 a1 (!t180))=some (r1,r2):=H
   have A6:=ζa A60
   clear A60
   have H':=ζa H
   clear H
   go_wp2_with (first|((with_reducible refine δv (f:=128) rfl ?_);refine goesL_ (some 8) rfl rfl Tryz.func128 (by kernel_rfl) rfl #[.int .i64 a0] rfl (by (try simp only [δd,δe,δf]);rfl) ?_;(with_reducible refine (impl_isAmount.calls a0 τ _ A4.out).mono ?_);rintro e w' ⟨rfl,⟨nd,rfl⟩⟩;refine ⟨_,rfl,?_⟩)|(go_at_call 128;(with_reducible refine (impl_isAmount.calls a1 t180 _ A6.out).mono ?_);rintro e w' ⟨rfl,⟨nd,rfl⟩⟩))
   go_meet
   case rel=>exact ⟨_,(!t180),(by rfl),H',⟨by omega⟩,by repeat (first|exact Drawn0.refl _|apply Drawn0.step)⟩
  ·
   replace c5:=Bool.eq_false_iff.mpr c5
   subst c5
   have H1:(impl_SubAmount.j0 k a0 a1 τ)=some (r1,r2):=by rw [if_neg (show ¬ (φ=τ) by decide)] at H;exact H
   clear H
   have H:=H1
   clear H1
   have H':=ζa H
   clear H
   go_wp2_with (((with_reducible refine δv (f:=128) rfl ?_);refine goesL_ (some 8) rfl rfl Tryz.func128 (by kernel_rfl) rfl #[.int .i64 a0] rfl (by (try simp only [δd,δe,δf]);rfl) ?_;(with_reducible refine (impl_isAmount.calls a0 φ _ A4.out).mono ?_);rintro e w' ⟨rfl,⟨nd,rfl⟩⟩;refine ⟨_,rfl,?_⟩))
   go_meet
   case rel=>exact ⟨_,(τ),(by rfl),H',⟨by omega⟩,by repeat (first|exact Drawn0.refl _|apply Drawn0.step)⟩
 case rest =>
  clear HC3
  try clear c1
  try clear p2
  try clear c5
  obtain ⟨kq,x6_2,rfl,HA,HJ2,⟨mc2,rfl⟩⟩:=hcut
  cases kq with
  | zero=>exact absurd HA.out (by simp [impl_SubAmount.j0])
  | succ kj2 =>
   have H:=HA.out
   clear HA
   simp only [impl_SubAmount.j0] at H
   by_cases c7:x6_2=τ
   ·
    subst c7
    have H1:(some (0,4))=some (r1,r2):=by rw [if_pos rfl] at H;exact H
    clear H
    have H:=H1
    clear H1
    simp only [Option.some.injEq,Prod.mk.injEq] at H
    obtain ⟨rfl,rfl⟩:=H
    go_wp2
    go_ret2
    exact ⟨by rfl,by repeat (first|exact Drawn0.refl _|apply Drawn0.step)⟩
   ·
    replace c7:=Bool.eq_false_iff.mpr c7
    subst c7
    have H1:(if a0<a1 then (some (0,12)) else (some (ζm (a0 - a1),0)))=some (r1,r2):=by rw [if_neg (show ¬ (φ=τ) by decide)] at H;exact H
    clear H
    have H:=H1
    clear H1
    by_cases c8:a0<a1
    ·
     rw [if_pos c8] at H
     have c8b0:decide (a0<a1)=τ:=decide_eq_true c8
     clear c8
     simp only [Option.some.injEq,Prod.mk.injEq] at H
     obtain ⟨rfl,rfl⟩:=H
     go_wp2
     go_ret2
     exact ⟨by rfl,by repeat (first|exact Drawn0.refl _|apply Drawn0.step)⟩
    ·
     rw [if_neg c8] at H
     have c8b0:decide (a0<a1)=φ:=decide_eq_false c8
     clear c8
     simp only [Option.some.injEq,Prod.mk.injEq] at H
     obtain ⟨rfl,rfl⟩:=H
     go_wp2
     go_ret2
     exact ⟨by rfl,by repeat (first|exact Drawn0.refl _|apply Drawn0.step)⟩


open Go.Proofs.YtabmfhnhmoiljaaGreatDoorW.PrintWords renaming gate_callee → δv, below_step → δr

/-! ### impl_get: function 107 -/
def impl_get.f (k:Nat) (l0:List (S51)) (a1:ByteArray):Option (ByteArray × Bool):=(impl_pairAt.f k l0 a1).bind fun bt181=>(if bt181.2=τ then (if 0≤bt181.1 then (if bt181.1<(l0.length:Int) then (some ((rd_T51 l0 bt181.1).f1,τ)) else (none)) else (none)) else (some ((⟨#[]⟩:ByteArray),φ)))
set_option maxHeartbeats 8000000 in
set_option maxRecDepth 100000 in
theorem impl_get.calls (k:Nat) (A0:Option Addr) (c0:Nat) (l0:List (S51)) (a1:ByteArray) (r1:ByteArray) (r2:Bool) (w:World) (hr0:Kd.C k51 w A0 l0.length l0) (hc0:l0.length≤c0) (h:impl_get.f k l0 a1=some (r1,r2)) :
  Calls Tryz.prog 107 #[.slice A0 l0.length c0,.string a1] w fun e w'=>e = .returned (.tuple #[.string r1,.bool r2])∧Below w.heap.size w w':=by
 have HR0:=ζa hr0
 have HC0:=ζa hc0
 clear hr0 hc0
 have HB:=ζa (Below.refl w.heap.size w)
 have H:((impl_pairAt.f k l0 a1).bind fun bt181=>(if bt181.2=τ then (if 0≤bt181.1 then (if bt181.1<(l0.length:Int) then (some ((rd_T51 l0 bt181.1).f1,τ)) else (none)) else (none)) else (some ((⟨#[]⟩:ByteArray),φ))))=some (r1,r2):=h
 clear h
 replace H:=Option.bind_eq_some_iff.mp H
 obtain ⟨⟨t181,t182⟩,A30,H⟩:=H
 replace H:(if t182=τ then (if 0≤t181 then (if t181<(l0.length:Int) then (some ((rd_T51 l0 t181).f1,τ)) else (none)) else (none)) else (some ((⟨#[]⟩:ByteArray),φ)))=some (r1,r2):=H
 have A3:=ζa A30
 clear A30
 by_cases c4:t182=τ
 ·
  subst c4
  have H1:(if 0≤t181 then (if t181<(l0.length:Int) then (some ((rd_T51 l0 t181).f1,τ)) else (none)) else (none))=some (r1,r2):=by rw [if_pos rfl] at H;exact H
  clear H
  have H:=H1
  clear H1
  by_cases c5:0≤t181
  ·
   rw [if_pos c5] at H
   have c5b0:decide (0≤t181)=τ:=decide_eq_true c5
   clear c5
   by_cases c6:t181<(l0.length:Int)
   ·
    rw [if_pos c6] at H
    have c6b0:decide (t181<(l0.length:Int))=τ:=decide_eq_true c6
    clear c6
    simp only [Option.some.injEq,Prod.mk.injEq] at H
    obtain ⟨rfl,rfl⟩:=H
    go_enter Tryz.func107,Tryz.ntmps107
    go_wp2_with (((with_reducible refine δv (f:=162) rfl ?_);refine goesL_ (some 11) rfl rfl Tryz.func162 (by kernel_rfl) rfl #[.slice A0 l0.length c0,.string a1] rfl (by (try simp only [δd,δe,δf]);rfl) ?_;(with_reducible refine (impl_pairAt.calls k _ _ l0 a1 t181 τ _ ?side1 ?side2 A3.out).mono ?_);(case side1=>repeat (exact HR0.out));(case side2=>exact HC0.out);rintro e w7 ⟨rfl,hb⟩;refine ⟨_,rfl,?_⟩;have n0_:=ζa (δr (by exact HB.out) hb);clear HB;have HB:=n0_;clear n0_;(try clear hb);(try clear hb2);(try clear hk);(try clear hi);have p183:0≤(t181:Int):=of_decide_eq_true (by (with_reducible assumption));have q183:t181<(l0.length:Int):=of_decide_eq_true (by (with_reducible assumption));obtain ⟨ad183,e183,hx183_0,hx183_1⟩:=at_T51 HR0.out t181 p183 q183;cases e183;replace hx183_0:=(HB.out.cell (World.block_lt_of_cell? w _ hx183_0)).trans hx183_0;replace hx183_1:=(HB.out.cell (World.block_lt_of_cell? w _ hx183_1)).trans hx183_1;replace p183:=eq_true p183;replace q183:=eq_true q183))
    go_ret2
    exact ⟨by rfl,by repeat ((with_reducible exact HB.out))⟩
   ·
    rw [if_neg c6] at H
    exact absurd H (by simp)
  ·
   rw [if_neg c5] at H
   exact absurd H (by simp)
 ·
  replace c4:=Bool.eq_false_iff.mpr c4
  subst c4
  have H1:(some ((⟨#[]⟩:ByteArray),φ))=some (r1,r2):=by rw [if_neg (show ¬ (φ=τ) by decide)] at H;exact H
  clear H
  have H:=H1
  clear H1
  simp only [Option.some.injEq,Prod.mk.injEq] at H
  obtain ⟨rfl,rfl⟩:=H
  go_enter Tryz.func107,Tryz.ntmps107
  go_wp2_with (((with_reducible refine δv (f:=162) rfl ?_);refine goesL_ (some 11) rfl rfl Tryz.func162 (by kernel_rfl) rfl #[.slice A0 l0.length c0,.string a1] rfl (by (try simp only [δd,δe,δf]);rfl) ?_;(with_reducible refine (impl_pairAt.calls k _ _ l0 a1 t181 φ _ ?side1 ?side2 A3.out).mono ?_);(case side1=>repeat (exact HR0.out));(case side2=>exact HC0.out);rintro e w8 ⟨rfl,hb⟩;refine ⟨_,rfl,?_⟩;have n0_:=ζa (δr (by exact HB.out) hb);clear HB;have HB:=n0_;clear n0_;(try clear hb);(try clear hb2);(try clear hk);(try clear hi)))
  go_ret2
  exact ⟨by rfl,by repeat ((with_reducible exact HB.out))⟩



/-! ### impl_amountText: function 147 -/
def impl_amountText.f (a0:Int):Option (ByteArray):=(strconv_Itoa.f a0).bind fun t201=>(some t201)
set_option maxHeartbeats 8000000 in
set_option maxRecDepth 100000 in
theorem impl_amountText.calls (a0:Int) (r:ByteArray) (w:World) (hT0:TabsOK w) (h:impl_amountText.f a0=some r) :
  Calls Tryz.prog 147 #[.int .i64 a0] w fun e w'=>e = .returned (.string r)∧Below w.heap.size w w':=by
 have HT0:=ζa hT0
 clear hT0
 have HB:=ζa (Below.refl w.heap.size w)
 have H:((strconv_Itoa.f a0).bind fun t201=>(some t201))=some r:=h
 clear h
 replace H:=Option.bind_eq_some_iff.mp H
 obtain ⟨t201,A20,H⟩:=H
 replace H:(some t201)=some r:=H
 have A2:=ζa A20
 clear A20
 obtain rfl:=Option.some.inj H
 go_enter Tryz.func147,Tryz.ntmps147
 go_wp2_with (((with_reducible refine δv (f:=190) rfl ?_);refine goesL_ (some 4) rfl rfl Tryz.func190 (by kernel_rfl) rfl #[.int .i64 a0] rfl (by (try simp only [δd,δe,δf]);rfl) ?_;(with_reducible refine (strconv_Itoa.calls a0 t201 _ (HT0.out.below (by exact HB.out)) A2.out).mono ?_);rintro e w3 ⟨rfl,hb⟩;refine ⟨_,rfl,?_⟩;have n0_:=ζa (δr (by exact HB.out) hb);clear HB;have HB:=n0_;clear n0_;(try clear hb);(try clear hb2);(try clear hk);(try clear hi)))
 go_ret
 exact ⟨by rfl,by repeat ((with_reducible exact HB.out))⟩


open Go.Proofs.YtabmfhnhmoiljaaGreatDoorW.PrintWords renaming pw_below_drewN → δi, below_step → δr

/-! ### impl_readAmount: function 151 -/
/-- The amount that a text tells,and whether it is one. -/
def impl_readAmount.f (a0:ByteArray):Option (Int × Bool) :=
 if a0.size≤281474976710656 then (match Lib.atoiAll a0.data.toList with
  | .ok v=>if 0≤v then (if v≤1000000000000000000 then (if (⟨(Lib.itoa v).toArray⟩:ByteArray).toList=a0.toList then some (v,τ) else some (0,φ)) else some (0,φ)) else some (0,φ)
  | _=>some (0,φ)) else none
theorem impl_readAmount.bad (a0:ByteArray) (hs:a0.size≤281474976710656) (hb:(∀ v,Lib.atoiAll a0.data.toList ≠ .ok v)) (w:World) (hT0:TabsOK w) :
  Calls Tryz.prog 192 #[.string a0] w fun e w' => ∃ (n:Int) (te N:Nat),e = .returned (.tuple #[.int .i64 n,.iface te (.pointer (some ⟨N,0,none⟩))])∧Below w.heap.size w w':=by
 cases hh:Lib.atoiAll a0.data.toList with
 | ok v=>exact absurd hh (hb v)
 | «syntax» =>
  obtain ⟨tp,p,hv⟩:=hT0.2.1
  refine (Tryz.strconv_Atoi_syntax_var a0 hs hh tp p w (hv w (Below.refl _ _))).mono ?_
  rintro e w' ⟨N,rfl,_,_,hb⟩
  exact ⟨_,_,N,rfl,hb⟩
 | range =>
  obtain ⟨tp,p,hv⟩:=hT0.2.2
  refine (Tryz.strconv_Atoi_range_var a0 hs hh tp p w (hv w (Below.refl _ _))).mono ?_
  rintro e w' ⟨N,rfl,_,_,hb⟩
  exact ⟨_,_,N,rfl,hb⟩
theorem impl_readAmount.good (a0:ByteArray) (hs:a0.size≤281474976710656) (v:Int) (hb:Lib.atoiAll a0.data.toList = .ok v) (w:World) :
  Calls Tryz.prog 192 #[.string a0] w fun e w'=>e = .returned (.tuple #[.int .i64 v,.nilIface])∧Below w.heap.size w w':=by
 refine (Tryz.strconv_Atoi_ok a0 (by omega) v hb w).mono ?_
 rintro e w' ⟨rfl,rfl|⟨t,rfl⟩⟩
 · exact ⟨rfl,Below.refl _ _⟩
 ·
  exact ⟨rfl,bytes_below (Below.refl _ _) (Nat.le_refl _) 5 t⟩
set_option maxHeartbeats 4000000 in
set_option maxRecDepth 100000 in
theorem impl_readAmount.calls (a0:ByteArray) (r1:Int) (r2:Bool) (w:World) (hT0:TabsOK w) (h:impl_readAmount.f a0=some (r1,r2)) :
  Calls Tryz.prog 151 #[.string a0] w fun e w'=>e = .returned (.tuple #[.int .i64 r1,.bool r2])∧Below w.heap.size w w':=by
 unfold impl_readAmount.f at h
 by_cases hs:a0.size≤281474976710656
 ·
  rw [if_pos hs] at h
  by_cases hg : ∃ v,Lib.atoiAll a0.data.toList = .ok v
  ·
   obtain ⟨v,hv⟩:=hg
   rw [hv] at h
   have HV:=ζa hv
   have HS:=ζa hs
   have HT:=ζa hT0
   clear hv hs hT0
   dsimp only at h
   by_cases h0:0≤v∧v≤1000000000000000000
   ·
    rw [if_pos h0.1,if_pos h0.2] at h
    have HA:Aside0 (impl_isAmount.f v=some τ):=⟨by
     unfold impl_isAmount.f impl_within.f
     rw [if_pos h0.1,decide_eq_true h0.2]
     rfl⟩
    have HI:Aside0 (impl_amountText.f v=some ⟨(Lib.itoa v).toArray⟩):=⟨by
     unfold impl_amountText.f strconv_Itoa.f
     rw [if_pos (by omega),if_pos (by omega)]
     rfl⟩
    generalize (⟨(Lib.itoa v).toArray⟩:ByteArray)=t at h HI
    by_cases ht:t.toList=a0.toList
    ·
     rw [if_pos ht] at h
     injection h with h
     injection h with e1 e2
     subst e1 e2
     go_enter Tryz.func151,Tryz.ntmps151
     go_wp2_with fail
     refine (impl_readAmount.good a0 HS.out v HV.out _).mono ?_
     rintro e w' ⟨rfl,hb⟩
     have HB:=ζa hb
     clear hb
     go_wp2_with fail
     refine (impl_isAmount.calls v τ _ HA.out).mono ?_
     rintro e w2 ⟨rfl,⟨m,rfl⟩⟩
     go_wp2_with fail
     refine (impl_amountText.calls v t _ (HT.out.below (δi HB.out m)) HI.out).mono ?_
     rintro e w3 ⟨rfl,hb3⟩
     have HB3:=ζa (δr (δi HB.out m) hb3)
     clear hb3
     go_wp2
     go_ret2
     exact ⟨rfl,HB3.out⟩
    ·
     rw [if_neg ht] at h
     have htb:(t.toList == a0.toList)=φ:=beq_eq_false_iff_ne.2 ht
     clear ht
     injection h with h
     injection h with e1 e2
     subst e1 e2
     go_enter Tryz.func151,Tryz.ntmps151
     go_wp2_with fail
     refine (impl_readAmount.good a0 HS.out v HV.out _).mono ?_
     rintro e w' ⟨rfl,hb⟩
     have HB:=ζa hb
     clear hb
     go_wp2_with fail
     refine (impl_isAmount.calls v τ _ HA.out).mono ?_
     rintro e w2 ⟨rfl,⟨m,rfl⟩⟩
     go_wp2_with fail
     refine (impl_amountText.calls v t _ (HT.out.below (δi HB.out m)) HI.out).mono ?_
     rintro e w3 ⟨rfl,hb3⟩
     have HB3:=ζa (δr (δi HB.out m) hb3)
     clear hb3
     go_wp2
     go_ret2
     exact ⟨rfl,HB3.out⟩
   ·
    have e:(some ((0:Int),φ):Option (Int × Bool))=some (r1,r2):=by
     by_cases h1:0≤v
     · rw [if_pos h1,if_neg (fun h2=>h0 ⟨h1,h2⟩)] at h;exact h
     ·
      rw [if_neg h1] at h;exact h
    clear h
    injection e with h
    injection h with e1 e2
    subst e1 e2
    have HA:Aside0 (impl_isAmount.f v=some φ):=⟨by
     unfold impl_isAmount.f impl_within.f
     by_cases h1:0≤v
     · rw [if_pos h1,decide_eq_false (fun h2=>h0 ⟨h1,h2⟩)];rfl
     ·
      rw [if_neg h1];rfl⟩
    clear h0
    go_enter Tryz.func151,Tryz.ntmps151
    go_wp2_with fail
    refine (impl_readAmount.good a0 HS.out v HV.out _).mono ?_
    rintro e w' ⟨rfl,hb⟩
    have HB:=ζa hb
    clear hb
    go_wp2_with fail
    refine (impl_isAmount.calls v φ _ HA.out).mono ?_
    rintro e w2 ⟨rfl,⟨m,rfl⟩⟩
    go_wp2
    go_ret2
    exact ⟨rfl,δi HB.out m⟩
  ·
   have hn : ∀ v,Lib.atoiAll a0.data.toList ≠ .ok v:=fun v hv=>hg ⟨v,hv⟩
   have e:(some ((0:Int),φ):Option (Int × Bool))=some (r1,r2):=by
    cases hh:Lib.atoiAll a0.data.toList with
    | ok v=>exact absurd hh (hn v)
    | «syntax» => rw [hh] at h;exact h
    | range=>rw [hh] at h;exact h
   clear h
   injection e with h
   injection h with e1 e2
   subst e1 e2
   have HN:=ζa (impl_readAmount.bad a0 hs hn w hT0)
   clear hs hn hg hT0
   go_enter Tryz.func151,Tryz.ntmps151
   go_wp2_with fail
   refine HN.out.mono ?_
   rintro e w' ⟨n,te,N,rfl,hb⟩
   have HB:=ζa hb
   clear hb
   go_wp2
   go_ret2
   exact ⟨rfl,HB.out⟩
 · rw [if_neg hs] at h;cases h



/-! ### impl_amountAt: function 186 -/
def impl_amountAt.f (k:Nat) (l0:List (S51)) (a1:ByteArray):Option (Int):=(impl_get.f k l0 a1).bind fun bt217=>((impl_readAmount.f bt217.1).bind fun bt219=>(some bt219.1))
set_option maxHeartbeats 8000000 in
set_option maxRecDepth 100000 in
theorem impl_amountAt.calls (k:Nat) (A0:Option Addr) (c0:Nat) (l0:List (S51)) (a1:ByteArray) (r:Int) (w:World) (hr0:Kd.C k51 w A0 l0.length l0) (hc0:l0.length≤c0) (hT0:TabsOK w) (h:impl_amountAt.f k l0 a1=some r) :
  Calls Tryz.prog 186 #[.slice A0 l0.length c0,.string a1] w fun e w'=>e = .returned (.int .i64 r)∧Below w.heap.size w w':=by
 have HT0:=ζa hT0
 clear hT0
 have HR0:=ζa hr0
 have HC0:=ζa hc0
 clear hr0 hc0
 have HB:=ζa (Below.refl w.heap.size w)
 have H:((impl_get.f k l0 a1).bind fun bt217=>((impl_readAmount.f bt217.1).bind fun bt219=>(some bt219.1)))=some r:=h
 clear h
 replace H:=Option.bind_eq_some_iff.mp H
 obtain ⟨⟨t217,t218⟩,A30,H⟩:=H
 replace H:((impl_readAmount.f t217).bind fun bt219=>(some bt219.1))=some r:=H
 have A3:=ζa A30
 clear A30
 replace H:=Option.bind_eq_some_iff.mp H
 obtain ⟨⟨t219,t220⟩,A40,H⟩:=H
 replace H:(some t219)=some r:=H
 have A4:=ζa A40
 clear A40
 obtain rfl:=Option.some.inj H
 go_enter Tryz.func186,Tryz.ntmps186
 go_wp2_with (first|((with_reducible refine δv (f:=107) rfl ?_);refine goesL_ (some 12) rfl rfl Tryz.func107 (by kernel_rfl) rfl #[.slice A0 l0.length c0,.string a1] rfl (by (try simp only [δd,δe,δf]);rfl) ?_;(with_reducible refine (impl_get.calls k _ _ l0 a1 t217 t218 _ ?side1 ?side2 A3.out).mono ?_);(case side1=>repeat (exact HR0.out));(case side2=>exact HC0.out);rintro e w5 ⟨rfl,hb⟩;refine ⟨_,rfl,?_⟩;have n0_:=ζa (δr (by exact HB.out) hb);clear HB;have HB:=n0_;clear n0_;(try clear hb);(try clear hb2);(try clear hk);(try clear hi))|((with_reducible refine δv (f:=151) rfl ?_);refine goesL_ (some 17) rfl rfl Tryz.func151 (by kernel_rfl) rfl #[.string t217] rfl (by (try simp only [δd,δe,δf]);rfl) ?_;(with_reducible refine (impl_readAmount.calls t217 t219 t220 _ (HT0.out.below (by exact HB.out)) A4.out).mono ?_);rintro e w6 ⟨rfl,hb⟩;refine ⟨_,rfl,?_⟩;have n0_:=ζa (δr (by exact HB.out) hb);clear HB;have HB:=n0_;clear n0_;(try clear hb);(try clear hb2);(try clear hk);(try clear hi)))
 go_ret
 exact ⟨by rfl,by repeat ((with_reducible exact HB.out))⟩


open List renaming length_take → δh, length_drop → δg
open Go.Proofs.YtabmfhnhmoiljaaGreatDoorW.PrintWords.Kd renaming R_reads' → ζg
open Go.Proofs.YtabmfhnhmoiljaaGreatDoorW.PrintWords renaming below_drew1 → δj, gate_dst → δx
open Go.Act renaming put → ζl

/-! ### slices_Insert_impl_Pair_impl_Pair: function 197 -/
theorem slices_Insert_impl_Pair_impl_Pair.cell_at {W:World} {g:Nat} {cur:Array Value} (hg:W.heap[g]? = some (.cells cur 51 (0,0))) (j:Nat):W.cell? ⟨g,j,none⟩=cur[j]?:=by
 simp [World.cell?,hg]
theorem slices_Insert_impl_Pair_impl_Pair.reps {α:Type} {R:α→List Value→Prop} {ps:List α} {cs new:List Value} {p:α} (h:Reps R 2 ps cs) (hp:R p new) (hc:new.length=2) (i:Nat) (hi:i≤ps.length) :
  Reps R 2 (ps.insertIdx i p) (cs.take (i * 2) ++ new ++ cs.drop (i * 2)):=by
 have hl:=h.1
 have ht:(cs.take (i * 2)).length=i * 2:=by rw [δh];omega
 refine ⟨by rw [List.length_insertIdx_of_le_length hi,List.length_append,List.length_append,ht,hc,δg];omega,fun j q hq => ?_⟩
 rw [List.getElem?_insertIdx] at hq
 have e : ∀ d:List Value,d.drop (j * 2)=d.drop (j * 2):=fun _=>rfl
 split at hq
 ·
  rename_i hj
  have:=h.2 j q hq
  rw [List.append_assoc,List.drop_append_of_le_length (by omega),List.take_append_of_le_length (by rw [δg];omega),List.drop_take,List.take_take,Nat.min_eq_left (by omega)]
  exact this
 ·
  rename_i hj
  split at hq
  ·
   rename_i hji
   subst hji
   rw [if_pos hi] at hq
   have hq':p=q:=by simpa using hq
   subst hq'
   rw [List.append_assoc,List.drop_append,ht,Nat.sub_self,List.drop_zero,List.drop_of_length_le (by omega),List.nil_append,List.take_append_of_le_length (by omega),List.take_of_length_le (by omega)]
   exact hp
  ·
   rename_i hji
   have:=h.2 (j - 1) q hq
   rw [List.drop_append,List.length_append,ht,hc,List.drop_of_length_le (by rw [List.length_append];omega),List.nil_append,List.drop_drop,show i * 2+(j * 2 - (i * 2+2))=(j - 1) * 2 by omega]
   exact this
theorem slices_Insert_impl_Pair_impl_Pair.one {w:World} {base:Nat} {ok:Nat→Prop} {xs:List S51} {cs:List Value} (h:Reps (k51.M w base ok) 2 xs cs) : ∀ v ∈ cs,v.oneCell'=τ:=by
 intro v hv
 obtain ⟨k,hk,rfl⟩:=List.getElem_of_mem hv
 have hl:=h.1
 have hj:k / 2<xs.length:=by omega
 have hs:=k51_openM (h.2 (k / 2) _ (List.getElem?_eq_getElem hj))
 have hm:cs[k] ∈ (cs.drop (k / 2 * 2)).take 2:=by
  refine List.mem_iff_getElem?.2 ⟨k % 2,?_⟩
  rw [List.getElem?_take,if_pos (by omega),List.getElem?_drop,show k / 2 * 2+k % 2=k by omega,List.getElem?_eq_getElem hk]
 rw [hs] at hm
 simp at hm
 rcases hm with e|e <;> (rw [e];rfl)
set_option maxHeartbeats 4000000 in
set_option maxRecDepth 100000 in
theorem slices_Insert_impl_Pair_impl_Pair.room (base g n c i vb:Nat) (xs:List S51) (p:S51) (w0 w:World) (ho:Kd.R k51 51 w base (fun _=>True) (.slice (some ⟨g,0,none⟩) n c) xs) (hi:i<n) (hroom:n+1≤c) (hn:n≤1000000) (hc:c≤9223372036854775807) (hv:w.heap[vb]? = some (.cells #[.string p.f0,.string p.f1] 51 (0,0))) (hvb:vb≠g) (hb:Below base w0 w) :
  Calls Tryz.prog 197 #[.slice (some ⟨g,0,none⟩) n c,.int .i64 i,.slice (some ⟨vb,0,none⟩) 1 1] w fun e w'=>e = .returned (.slice (some ⟨g,0,none⟩) (n+1) c)∧Kd.R k51 51 w' base (fun _=>True) (.slice (some ⟨g,0,none⟩) (n+1) c) (xs.insertIdx i p)∧Below base w0 w':=by
 have hnl:=(ζg ho).1
 obtain ⟨hok,inner,hown,hr⟩:=ho
 have hin:=hown.1
 rcases hown.2 with ⟨h',_⟩|⟨g',cap',cur,h',hbg,hg,hnc2,hcm,hcs,htk⟩
 · simp at h'
 simp only [Value.slice.injEq,Option.some.injEq,Addr.mk.injEq,and_true,true_and] at h'
 obtain ⟨rfl,hnx,rfl⟩:=h'
 have hs2:k51.sz=2:=rfl
 rw [hs2] at hin hcs htk
 obtain ⟨CU,hCU⟩ : ∃ CU,CU=cur.toList:=⟨_,rfl⟩
 have hCUl:CU.length=c * 2:=by rw [hCU,Array.length_toList,hcs]
 obtain ⟨cs1,hcs1⟩ : ∃ cs1,cs1=(CU.drop (i * 2)).take ((n - i) * 2):=⟨_,rfl⟩
 have hl1:cs1.length=(n - i) * 2:=by rw [hcs1,δh,δg];omega
 obtain ⟨row1,hrow1⟩ : ∃ row1,row1=CU.take ((i+1) * 2) ++ cs1 ++ CU.drop ((n+1) * 2):=⟨_,rfl⟩
 obtain ⟨row2,hrow2⟩ : ∃ row2,row2=row1.take (i * 2) ++ [.string p.f0,.string p.f1] ++ row1.drop (i * 2+2):=⟨_,rfl⟩
 have hl2:row1.length=c * 2:=by rw [hrow1];simp only [List.length_append,δh,δg,hl1];omega
 have hci:cs1=inner.drop (i * 2):=by rw [hcs1,← htk,← hCU,List.drop_take,← hnx];congr 1;omega
 have h1c : ∀ v ∈ cs1,v.oneCell'=τ:=fun v hv=>slices_Insert_impl_Pair_impl_Pair.one hr v (by rw [hci] at hv;exact List.mem_of_mem_drop hv)
 have hsz:(Tryz.prog.info? 51).map (·.size)=some 2:=by kernel_rfl
 have hcp1 : ∀ ty dc sc,(Builtin.copy_ #[24,24] ty #[.slice (some ⟨g,(i+1) * 2,none⟩) (n - i) dc,.slice (some ⟨g,i * 2,none⟩) (n+1 - i) sc]).run Tryz.prog w.drew = .ok (goInt ((n - i:Nat):Int)) (w.drew.setRow g row1.toArray):=fun ty dc sc=>by
  have h:=U.run_copy_row_n (P:=Tryz.prog) w.drew 24 24 ty 51 g ((i+1) * 2) (n - i) dc ⟨g,i * 2,none⟩ (n+1 - i) sc cur 51 cs1 2 (n - i) Tryz.underlying24 hsz hg (by simp only [Nat.min_def];split <;> omega) hl1
   (fun j v hj=>by
    rw [Addr.add_lit,slices_Insert_impl_Pair_impl_Pair.cell_at (W:=w.drew) hg,← Array.getElem?_toList,← hCU]
    rw [hcs1,List.getElem?_take] at hj
    split at hj
    · rwa [List.getElem?_drop] at hj
    ·
     cases hj) (by rw [hl1,hcs];omega) h1c
  rw [h,← hCU,hl1,show (i+1) * 2+(n - i) * 2=(n+1) * 2 by omega,← hrow1]
 have hcp2 : ∀ W:World,W.heap[g]? = some (.cells row1.toArray 51 (0,0))→W.heap[vb]? = some (.cells #[.string p.f0,.string p.f1] 51 (0,0)) → ∀ ty dc,(Builtin.copy_ #[24,24] ty #[.slice (some ⟨g,i * 2,none⟩) (n+1 - i) dc,.slice (some ⟨vb,0,none⟩) 1 1]).run Tryz.prog W = .ok (goInt ((1:Nat):Int)) (W.setRow g row2.toArray):=fun W hW hV ty dc=>by
  have h:=U.run_copy_row_n (P:=Tryz.prog) W 24 24 ty 51 g (i * 2) (n+1 - i) dc ⟨vb,0,none⟩ 1 1 row1.toArray 51 [.string p.f0,.string p.f1] 2 1 Tryz.underlying24 hsz hW (by simp only [Nat.min_def];split <;> omega) rfl
   (fun j v hj=>by
    rw [Addr.add_lit,slices_Insert_impl_Pair_impl_Pair.cell_at hV]
    rcases j with _|_|j
    · simpa using hj
    ·
     simpa using hj
    · simp at hj) (by simp only [List.length_cons,List.length_nil,List.size_toArray,hl2];omega) (by intro v hv;simp at hv;rcases hv with rfl|rfl <;> rfl)
  rw [h,hrow2]
  simp only [List.length_cons,List.length_nil]
 have hov : ∀ lb cb,(callFunc 211 #[.slice (some ⟨vb,0,none⟩) 1 1,.slice (some ⟨g,(i+1) * 2,none⟩) lb cb]).run Tryz.prog w = .ok (.value (.bool φ)) w:=fun lb cb=>by
  rw [run_callFunc_extern Tryz.func211 (by kernel_rfl) (by kernel_rfl) (by kernel_rfl) (e:=Extern.SlicesOverlaps.overlaps #[24,24] #[4]) (by kernel_rfl),
   Lib.run_overlaps_apart w 24 4 51 Tryz.underlying24 2 (fun w=>by kernel_rfl) ⟨vb,0,none⟩ ⟨g,(i+1) * 2,none⟩ 1 1 lb cb hvb 51 51 2 (c * 2) (by simp [World.shape?,hv]) (by simp [World.shape?,hg,hcs]) (by omega) (by simp [World.frozen?,hv]) (by simp [World.frozen?,hv])]
  rfl
 have hR : ∀ W:World,W.heap[g]? = some (.cells row2.toArray 51 (0,0))→Kd.R k51 51 W base (fun _=>True) (.slice (some ⟨g,0,none⟩) (n+1) c) (xs.insertIdx i p):=fun W hW=>by
  have hrr:=slices_Insert_impl_Pair_impl_Pair.reps (hr.imp_ (fun q z hq=>(by rw [k51_openM hq];exact k51_mkM _ _ _ q:k51.M W base (fun k=>True∧some k≠(Value.slice (some ⟨g,0,none⟩) (n+1) c).ownBlock) q z))) (k51_mkM _ _ _ p) rfl i (by omega)
  have hlen:(xs.insertIdx i p).length=n+1:=by rw [List.length_insertIdx_of_le_length (by omega)];omega
  have hmid:=U.ins_list CU [.string p.f0,.string p.f1] i n 2 (by omega) rfl (by omega)
  have htk2:row2.take ((n+1) * 2)=inner.take (i * 2) ++ [.string p.f0,.string p.f1] ++ inner.drop (i * 2):=by
   rw [hrow2,hrow1,hcs1,hmid,List.take_append_of_le_length (by simp only [List.length_append,δh,δg,List.length_cons,List.length_nil];omega),List.take_of_length_le (by simp only [List.length_append,δh,δg,List.length_cons,List.length_nil];omega),← htk,← hCU,List.take_take,Nat.min_eq_left (by omega),← hnx]
  refine ⟨fun _ _=>trivial,_,⟨?_,Or.inr ⟨g,c,row2.toArray,by rw [hlen],hbg,hW,by omega,hcm,?_,?_⟩⟩,hrr⟩
  · rw [hs2];exact hrr.1
  ·
   rw [hs2,List.size_toArray,hrow2]
   simp only [List.length_append,δh,δg,List.length_cons,List.length_nil,hl2]
   omega
  · rw [hs2,hlen];exact htk2
 have hz2 : ¬ ((i:Int)=(n:Int)):=by omega
 have hw1:IntKind.i64.wrap ((i:Int)+(1:Int))=(i:Int)+(1:Int):=by rw [IntKind.wrap_i64];omega
 have hb1:(0:Int)≤(i:Int)+(1:Int):=by omega
 have htn:((i:Int)+(1:Int)).toNat=i+1:=by omega
 have hb2 : ¬ (c=i+1):=by omega
 have hb3:(i:Int)≤(n:Int)+(1:Int):=by omega
 have hb4 : ¬ (c=i):=by omega
 have hil:i≤n:=by omega
 have mixed:Tryz.prog.follows Departure.mixedOrders=τ:=by kernel_rfl
 have hgW:=setRow_heap w.drew g cur row1.toArray 51 (0,0) hg
 have hvW:(w.drew.setRow g row1.toArray).heap[vb]? = some (.cells #[.string p.f0,.string p.f1] 51 (0,0)):=by
  rw [setRow_other w.drew g vb _ hvb];exact hv
 have hgF:=setRow_heap (w.drew.setRow g row1.toArray) g row1.toArray row2.toArray 51 (0,0) hgW
 have HR:=ζa (hR _ hgF)
 have HB:=ζa (below_setRow (below_setRow (δj hb) hbg row1.toArray) hbg row2.toArray)
 have hcp2':=hcp2 _ hgW hvW
 clear hR hcp2 hrow2 hrow1 hcs1 hCU hCUl hl1 hl2 htk hcs hin hown hr hok hb hgF hgW hvW h1c hv hnl hnx hnc2
 go_enter Tryz.func197,Tryz.ntmps197
 go_wp2_with (simp only [hov])
 go_region_law_o (refine step_copy_runI rfl _ _ 24 24 rfl _ _ (by simp [Act.eval,ζl]) (by simp [Act.eval,ζl]) (hcp1 _ _ _) ?_)
 go_wp2_with (at_builtin;refine wpList_copy_runI _ rfl _ _ 24 24 rfl _ _ rfl rfl (hcp2' _ _) ?_)
 go_ret
 exact ⟨rfl,HR.out,HB.out⟩
set_option maxHeartbeats 4000000 in
set_option maxRecDepth 100000 in
theorem slices_Insert_impl_Pair_impl_Pair.grow (base g n c i vb:Nat) (xs:List S51) (p:S51) (w0 w:World) (ho:Kd.R k51 51 w base (fun _=>True) (.slice (some ⟨g,0,none⟩) n c) xs) (hi:i<n) (hnc:n≤c) (hroom:c<n+1) (hn:n≤1000000) (hv:w.heap[vb]? = some (.cells #[.string p.f0,.string p.f1] 51 (0,0))) (hb:Below base w0 w) (hbs:base≤w.heap.size) :
  Calls Tryz.prog 197 #[.slice (some ⟨g,0,none⟩) n c,.int .i64 i,.slice (some ⟨vb,0,none⟩) 1 1] w fun e w' => ∃ v0,e = .returned v0∧Kd.R k51 51 w' base (fun _=>True) v0 (xs.insertIdx i p)∧Below base w0 w':=by
 have hnl:=(ζg ho).1
 obtain ⟨hok,inner,hown,hr⟩:=ho
 have hin:=hown.1
 rcases hown.2 with ⟨h',_⟩|⟨g',cap',cur,h',hbg,hg,hnc2,hcm,hcs,htk⟩
 · simp at h'
 simp only [Value.slice.injEq,Option.some.injEq,Addr.mk.injEq,and_true,true_and] at h'
 obtain ⟨rfl,hnx,rfl⟩:=h'
 have hs2:k51.sz=2:=rfl
 rw [hs2] at hin hcs htk
 obtain ⟨CU,hCU⟩ : ∃ CU,CU=cur.toList:=⟨_,rfl⟩
 have hCUl:CU.length=c * 2:=by rw [hCU,Array.length_toList,hcs]
 obtain ⟨cs1,hci⟩ : ∃ cs1,cs1=inner.drop (i * 2):=⟨_,rfl⟩
 have hinl:inner.length=n * 2:=by rw [hin,hnl]
 have hl1:cs1.length=(n - i) * 2:=by rw [hci,δg];omega
 have h1c : ∀ v ∈ cs1,v.oneCell'=τ:=fun v hv=>slices_Insert_impl_Pair_impl_Pair.one hr v (by rw [hci] at hv;exact List.mem_of_mem_drop hv)
 have hsz:(Tryz.prog.info? 51).map (·.size)=some 2:=by kernel_rfl
 obtain ⟨i0,hi0,hzz⟩:=Option.map_eq_some_iff.1 info51
 simp only [Prod.mk.injEq] at hzz
 obtain ⟨hz0,hzs,hzb⟩:=hzz
 have hgw:g<w.heap.size:=(Array.getElem?_eq_some_iff.1 hg).1
 have hvw:vb<w.heap.size:=(Array.getElem?_eq_some_iff.1 hv).1
 have hkk:(n:Int)+(1:Int) - (i:Int)=((n+1 - i:Nat):Int):=by omega
 have hik:i+(n+1 - i)=n+1:=by omega
 have hold:(Builtin.firstCells i0.size i (.slice (some ⟨g,0,none⟩) i c)).run Tryz.prog w.drew = .ok (inner.take (i * 2)).toArray w.drew:=by
  rw [hzs]
  exact run_firstCells_some w.drew 2 i ⟨g,0,none⟩ i c (inner.take (i * 2)) (by rw [δh];omega) (fun j v hj=>by
   rw [Addr.add_lit,Nat.zero_add,slices_Insert_impl_Pair_impl_Pair.cell_at (W:=w.drew) hg,← Array.getElem?_toList]
   rw [List.getElem?_take] at hj
   split at hj
   ·
    rw [← htk,List.getElem?_take] at hj
    split at hj
    · exact hj
    ·
     cases hj
   · cases hj)
 have hrz : ∀ ty,(Builtin.append_ #[24,3] ty #[.slice (some ⟨g,0,none⟩) i c,.int .i64 ((n:Int)+(1:Int) - (i:Int))]).run Tryz.prog w = .ok (.slice (some ⟨w.heap.size,0,none⟩) (n+1) (grownCap w (n+1) c 51)) (w.drew.alloc (.cells ((inner.take (i * 2)).toArray ++ Builtin.zeroCells (Value.agg #[.string ⟨#[]⟩,.string ⟨#[]⟩]).cells (n+1 - i) ++ Builtin.zeroCells (Value.agg #[.string ⟨#[]⟩,.string ⟨#[]⟩]).cells (grownCap w (n+1) c 51 - (n+1))) 51)):=fun ty=>by
  have h:=Lib.run_append_grow_zeros w 24 3 ty 51 i0 _ .i64 .i64 Tryz.underlying24 Tryz.underlying3 hi0 hz0 (some ⟨g,0,none⟩) i c _ hold (n+1 - i) (by omega) (by rw [hzs];omega) (by omega) (by omega) (by rw [hzb];omega) (by rw [hzb,hik];exact growslice_fits hroom (by omega))
  rw [hik] at h
  rw [hkk]
  exact h
 obtain ⟨G,hG⟩ : ∃ G,G=grownCap w (n+1) c 51:=⟨_,rfl⟩
 rw [← hG] at hrz
 obtain ⟨ROW,hROW⟩ : ∃ ROW:Array Value,ROW=(inner.take (i * 2)).toArray ++ Builtin.zeroCells (Value.agg #[.string ⟨#[]⟩,.string ⟨#[]⟩]).cells (n+1 - i) ++ Builtin.zeroCells (Value.agg #[.string ⟨#[]⟩,.string ⟨#[]⟩]).cells (G - (n+1)):=⟨_,rfl⟩
 rw [← hROW] at hrz
 have hRl:ROW.toList.length=G * 2:=by
  have hGn:n+1≤G:=by rw [hG];exact grownCap_ge w _ _ _
  rw [hROW]
  simp [Builtin.zeroCells,Value.cells]
  omega
 have hGn:n+1≤G:=by rw [hG];exact grownCap_ge w _ _ _
 have hG63:G≤maxLen:=by rw [hG];exact grownCap_le_maxLen w (n+1) c _ (by unfold maxLen;omega)
 have hRt:ROW.toList.take (i * 2)=inner.take (i * 2):=by
  rw [hROW]
  simp only [Array.toList_append,List.append_assoc]
  rw [List.take_append_of_le_length (by rw [δh];omega),List.take_take,Nat.min_self]
 obtain ⟨rowA,hrowA⟩ : ∃ rowA,rowA=ROW.toList.take (i * 2) ++ [.string p.f0,.string p.f1] ++ ROW.toList.drop (i * 2+2):=⟨_,rfl⟩
 have hlA:rowA.length=G * 2:=by rw [hrowA];simp only [List.length_append,δh,δg,List.length_cons,List.length_nil,hRl];omega
 obtain ⟨rowB,hrowB⟩ : ∃ rowB,rowB=rowA.take ((i+1) * 2) ++ cs1 ++ rowA.drop ((n+1) * 2):=⟨_,rfl⟩
 obtain ⟨N,hN⟩ : ∃ N,N=w.heap.size:=⟨_,rfl⟩
 have hcpA : ∀ W:World,W.heap[N]? = some (.cells ROW 51 (0,0))→W.heap[vb]? = some (.cells #[.string p.f0,.string p.f1] 51 (0,0)) → ∀ ty dc,(Builtin.copy_ #[24,24] ty #[.slice (some ⟨N,i * 2,none⟩) (n+1 - i) dc,.slice (some ⟨vb,0,none⟩) 1 1]).run Tryz.prog W = .ok (goInt ((1:Nat):Int)) (W.setRow N rowA.toArray):=fun W hW hV ty dc=>by
  have h:=U.run_copy_row_n (P:=Tryz.prog) W 24 24 ty 51 N (i * 2) (n+1 - i) dc ⟨vb,0,none⟩ 1 1 ROW 51 [.string p.f0,.string p.f1] 2 1 Tryz.underlying24 hsz hW (by simp only [Nat.min_def];split <;> omega) rfl
   (fun j v hj=>by
    rw [Addr.add_lit,slices_Insert_impl_Pair_impl_Pair.cell_at hV]
    rcases j with _|_|j
    · simpa using hj
    ·
     simpa using hj
    · simp at hj) (by rw [Array.length_toList] at hRl;simp only [List.length_cons,List.length_nil,hRl];omega) (by intro v hv;simp at hv;rcases hv with rfl|rfl <;> rfl)
  rw [h,hrowA]
  simp only [List.length_cons,List.length_nil]
 have hcpB : ∀ W:World,W.heap[N]? = some (.cells rowA.toArray 51 (0,0))→W.heap[g]? = some (.cells cur 51 (0,0)) → ∀ ty dc sc,(Builtin.copy_ #[24,24] ty #[.slice (some ⟨N,(i+1) * 2,none⟩) (n - i) dc,.slice (some ⟨g,i * 2,none⟩) (n - i) sc]).run Tryz.prog W = .ok (goInt ((n - i:Nat):Int)) (W.setRow N rowB.toArray):=fun W hW hV ty dc sc=>by
  have h:=U.run_copy_row_n (P:=Tryz.prog) W 24 24 ty 51 N ((i+1) * 2) (n - i) dc ⟨g,i * 2,none⟩ (n - i) sc rowA.toArray 51 cs1 2 (n - i) Tryz.underlying24 hsz hW (by simp only [Nat.min_def];split <;> omega) hl1
   (fun j v hj=>by
    rw [Addr.add_lit,slices_Insert_impl_Pair_impl_Pair.cell_at hV,← Array.getElem?_toList]
    rw [hci,← htk,List.getElem?_drop,List.getElem?_take] at hj
    split at hj
    · exact hj
    ·
     cases hj) (by rw [hl1,List.size_toArray,hlA];omega) h1c
  rw [h,hl1,show (i+1) * 2+(n - i) * 2=(n+1) * 2 by omega,hrowB]
 have hR : ∀ W:World,W.heap[N]? = some (.cells rowB.toArray 51 (0,0))→Kd.R k51 51 W base (fun _=>True) (.slice (some ⟨N,0,none⟩) (n+1) G) (xs.insertIdx i p):=fun W hW=>by
  have hrr:=slices_Insert_impl_Pair_impl_Pair.reps (hr.imp_ (fun q z hq=>(by rw [k51_openM hq];exact k51_mkM _ _ _ q:k51.M W base (fun k=>True∧some k≠(Value.slice (some ⟨N,0,none⟩) (n+1) G).ownBlock) q z))) (k51_mkM _ _ _ p) rfl i (by omega)
  have hlen:(xs.insertIdx i p).length=n+1:=by rw [List.length_insertIdx_of_le_length (by omega)];omega
  have hA2:rowA.take ((i+1) * 2)=inner.take (i * 2) ++ [.string p.f0,.string p.f1]:=by
   rw [hrowA,hRt,List.take_append_of_le_length (by simp only [List.length_append,δh,List.length_cons,List.length_nil];omega),List.take_of_length_le (by simp only [List.length_append,δh,List.length_cons,List.length_nil];omega)]
  have htk2:rowB.take ((n+1) * 2)=inner.take (i * 2) ++ [.string p.f0,.string p.f1] ++ inner.drop (i * 2):=by
   rw [hrowB,hA2,hci,List.take_append_of_le_length (by simp only [List.length_append,δh,δg,List.length_cons,List.length_nil];omega),List.take_of_length_le (by simp only [List.length_append,δh,δg,List.length_cons,List.length_nil];omega)]
  refine ⟨fun _ _=>trivial,_,⟨?_,Or.inr ⟨N,G,rowB.toArray,by rw [hlen],by omega,hW,by omega,hG63,?_,?_⟩⟩,hrr⟩
  · rw [hs2];exact hrr.1
  ·
   rw [hs2,List.size_toArray,hrowB]
   simp only [List.length_append,δh,δg,hl1,hlA]
   omega
  · rw [hs2,hlen];exact htk2
 have HR:=ζa hR
 have HB:=ζa hb
 have hgA : ∀ o:Array Value,(w.drew.alloc (.cells o 51)).heap[N]? = some (.cells o 51 (0,0)):=fun o=>by rw [hN];exact Go.Deep.blk_alloc_new w.drew _
 have hvA : ∀ o:Obj,(w.drew.alloc o).heap[vb]? = some (.cells #[.string p.f0,.string p.f1] 51 (0,0)):=fun o=>by rw [Go.Deep.blk_alloc_lt w.drew _ _ hvw];exact hv
 have hcA : ∀ o:Obj,(w.drew.alloc o).heap[g]? = some (.cells cur 51 (0,0)):=fun o=>by rw [Go.Deep.blk_alloc_lt w.drew _ _ hgw];exact hg
 have hgN:g≠N:=by omega
 have hw1:IntKind.i64.wrap ((i:Int)+(1:Int))=(i:Int)+(1:Int):=by rw [IntKind.wrap_i64];omega
 have hz2 : ¬ ((i:Int)=(n:Int)):=by omega
 have hz3:(c:Int)<(n:Int)+(1:Int):=by omega
 have hb1:(0:Int)≤(i:Int)+(1:Int):=by omega
 have hin:i≤n:=by omega
 have htn:((i:Int)+(1:Int)).toNat=i+1:=by omega
 have hb3:(i:Int)≤(n:Int):=by omega
 have hGi : ¬ (G=i):=by omega
 have hGim : ¬ (G=i+1):=by omega
 have hci2 : ¬ (c=i):=by omega
 have mixed:Tryz.prog.follows Departure.mixedOrders=τ:=by kernel_rfl
 have hNb:base≤N:=by omega
 have hcpA1:=hcpA _ (hgA ROW) (hvA _)
 have hcpA2 : ∀ ty dc,(Builtin.copy_ #[24,24] ty #[.slice (some ⟨N,i * 2,none⟩) (n+1 - i) dc,.slice (some ⟨vb,0,none⟩) 1 1]).run Tryz.prog (w.alloc (.cells ROW 51)).drew = .ok (goInt ((1:Nat):Int)) ((w.alloc (.cells ROW 51)).drew.setRow N rowA.toArray):=hcpA1
 have hgB:=setRow_heap (w.drew.alloc (.cells ROW 51)) N ROW rowA.toArray 51 (0,0) (hgA ROW)
 have hgF:=setRow_heap _ N rowA.toArray rowB.toArray 51 (0,0) hgB
 have hcpB1:=hcpB _ hgB (by rw [setRow_other _ N g _ hgN];exact hcA _)
 have hgc:((w.drew.alloc (.cells ROW 51)).setRow N rowA.toArray).heap[g]? = some (.cells cur 51 (0,0)):=by rw [setRow_other _ N g _ hgN];exact hcA _
 have hcpB2 : ∀ ty dc sc,(Builtin.copy_ #[24,24] ty #[.slice (some ⟨N,(i+1) * 2,none⟩) (n - i) dc,.slice (some ⟨g,i * 2,none⟩) (n - i) sc]).run Tryz.prog ((w.alloc (.cells ROW 51)).drew.setRow N rowA.toArray).drew = .ok (goInt ((n - i:Nat):Int)) (((w.alloc (.cells ROW 51)).drew.setRow N rowA.toArray).drew.setRow N rowB.toArray):=hcpB _ hgB hgc
 have HF2:Aside0 (Kd.R k51 51 (((w.alloc (.cells ROW 51)).drew.setRow N rowA.toArray).drew.setRow N rowB.toArray) base (fun _=>True) (.slice (some ⟨N,0,none⟩) (n+1) G) (xs.insertIdx i p)):=⟨hR _ hgF⟩
 have hb2:Below base w0 ((w.alloc (.cells ROW 51)).drew):=δj (hb.alloc hbs _)
 have HB2:Aside0 (Below base w0 (((w.alloc (.cells ROW 51)).drew.setRow N rowA.toArray).drew.setRow N rowB.toArray)):=⟨below_setRow (δj (below_setRow hb2 hNb _)) hNb _⟩
 clear hb2
 have HF:=ζa (hR _ hgF)
 have HBF:Aside0 (Below base w0 (((w.drew.alloc (.cells ROW 51)).setRow N rowA.toArray).setRow N rowB.toArray)):=⟨below_setRow (below_setRow ((δj hb).alloc hbs _) hNb _) hNb _⟩
 rw [← hN] at hrz
 clear hgc hN hkk hik hold hROW hG hRl hR hcpA hcpB hrowA hrowB hlA hRt hgA hvA hcA hgB hgF hci hl1 h1c hinl hCU hCUl htk hcs hown hr hok hv hg hb hnl hnx hnc2 hi0 hz0 hzs hzb HR HB hgw hvw hbs hbg hNb
 go_enter Tryz.func197,Tryz.ntmps197
 go_wp2_with (first
  | (at_builtin;refine Lib.wpList_append_run _ rfl _ _ _ _ rfl _ _ rfl rfl _ _ (hrz _) ?_)
  | simp only [hcpA2,Result.andThen_ok])
 go_region_law_o (refine step_copy_runI rfl _ _ 24 24 rfl _ _ (by simp [Act.eval,ζl]) (by simp [Act.eval,ζl]) (hcpB2 _ _ _) ?_)
 go_wp2_with fail
 go_ret
 exact ⟨_,rfl,HF2.out,HB2.out⟩
set_option maxHeartbeats 4000000 in
set_option maxRecDepth 100000 in
theorem slices_Insert_impl_Pair_impl_Pair.atEnd (base n c vb:Nat) (A:Option Addr) (xs:List S51) (p:S51) (w0 w:World) (ho:Kd.R k51 51 w base (fun _=>True) (.slice A n c) xs) (hn:n≤1000000) (hv:w.heap[vb]? = some (.cells #[.string p.f0,.string p.f1] 51 (0,0))) (hb:Below base w0 w) (hbs:base≤w.heap.size) :
  Calls Tryz.prog 197 #[.slice A n c,.int .i64 n,.slice (some ⟨vb,0,none⟩) 1 1] w fun e w' => ∃ v0,e = .returned v0∧Kd.R k51 51 w' base (fun _=>True) v0 (xs ++ [p])∧Below base w0 w':=by
 have HO:=ζa ho
 have HB:=ζa hb
 have hl:=(ζg ho).1
 have HRR:Aside0 (ReadsRow (fun (x:S51) cs=>cs = [.string x.f0,.string x.f1]) k51.sz w (some ⟨vb,0,none⟩) 1 [p]):=⟨rfl,by omega,fun _=>⟨_,rfl,fun j q hj=>by
  have hj0:j=0:=by
   rcases j with _|j
   · rfl
   ·
    simp at hj
  subst hj0
  have hq:p=q:=by simpa using hj
  subst hq
  refine ⟨_,rfl,rfl,fun t u hu => ?_⟩
  rw [Addr.add_lit,slices_Insert_impl_Pair_impl_Pair.cell_at hv]
  rcases t with _|_|t
  · simpa using hu
  ·
   simpa using hu
  · simp at hu⟩⟩
 have HL:Aside0 ((xs.length+1) * 32≤140737488355328):=⟨by omega⟩
 clear ho hb hl
 go_enter Tryz.func197,Tryz.ntmps197
 go_wp2_with ((with_reducible refine δx (N:=25) rfl ?_);refine Kd.R_append_rows (w0:=w0) (Rr:=fun (x:S51) cs=>cs = [.string x.f0,.string x.f1]) k51 base ?hg (.tmp 23) (.tmp 24) 24 51 (.agg #[(.string ⟨#[]⟩),(.string ⟨#[]⟩)]) 32 rfl Tryz.underlying24 info51 rfl (by decide) (by decide) (.slice A n c) xs [p] (some ⟨vb,0,none⟩) 1 1 (fun _=>True) (fun _=>False) rfl rfl HO.out HRR.out (fun x cs h=>by rw [h];exact k51_mkM _ _ _ x) (fun _ h=>h.elim) (fun _ _=>trivial) HB.out hbs HL.out ?_;(case hg=>rfl);intro v7 w7 ho7 hb7 hg_ hnew_;clear hg_ hnew_;have HO7:=ζa ho7;have HB7:=ζa hb7;clear ho7 hb7)
 all_goals (go_ret;exact ⟨_,rfl,HO7.out,HB7.out⟩)
theorem slices_Insert_impl_Pair_impl_Pair.calls (base n c i vb:Nat) (A:Option Addr) (xs:List S51) (p:S51) (w0 w:World) (ho:Kd.R k51 51 w base (fun _=>True) (.slice A n c) xs) (hi:i≤n) (hnc:n≤c) (hc:c≤9223372036854775807) (hn:n≤1000000) (hv:w.heap[vb]? = some (.cells #[.string p.f0,.string p.f1] 51 (0,0))) (hvb : ∀ a,A=some a→vb≠a.block) (hb:Below base w0 w) (hbs:base≤w.heap.size) :
  Calls Tryz.prog 197 #[.slice A n c,.int .i64 i,.slice (some ⟨vb,0,none⟩) 1 1] w fun e w' => ∃ v0,e = .returned v0∧Kd.R k51 51 w' base (fun _=>True) v0 (xs.insertIdx i p)∧Below base w0 w':=by
 have hnl:=(ζg ho).1
 by_cases hin:i=n
 ·
  subst hin
  have e:xs.insertIdx i p=xs ++ [p]:=by rw [hnl];exact List.insertIdx_length_self
  rw [e]
  exact slices_Insert_impl_Pair_impl_Pair.atEnd base i c vb A xs p w0 w ho hn hv hb hbs
 ·
  have hlt:i<n:=by omega
  have hA : ∃ g,A=some ⟨g,0,none⟩:=by
   obtain ⟨_,inner,hown,_⟩:=ho
   rcases hown.2 with ⟨_,h0⟩|⟨g,cap,cur,hv',_⟩
   · omega
   ·
    simp only [Value.slice.injEq] at hv'
    exact ⟨g,hv'.1⟩
  obtain ⟨g,rfl⟩:=hA
  by_cases hr:n+1≤c
  · exact (slices_Insert_impl_Pair_impl_Pair.room base g n c i vb xs p w0 w ho hlt hr hn hc hv (hvb _ rfl) hb).mono (fun e w' h=>⟨_,h⟩)
  ·
   exact slices_Insert_impl_Pair_impl_Pair.grow base g n c i vb xs p w0 w ho hlt hnc (by omega) hn hv hb hbs


open Go.Proofs.YtabmfhnhmoiljaaGreatDoorW.PrintWords.Kd renaming R_reads' → ζg, R_below → ζh, R_alloc → ζd
open Go.Proofs.YtabmfhnhmoiljaaGreatDoorW.PrintWords renaming below_step → δr, below_set → δq, below_alloc → δk

/-! ### impl_put: function 165 -/
def impl_put.f (k:Nat) (l0:List (S51)) (a1 a2:ByteArray):Option (List (S51) × Int) :=
 if l0.length≤1000000 then ((impl_pairAt.f k l0 a1).bind fun b=>if 0≤b.1 then (if b.1≤(l0.length:Int) then (if b.2=τ then (if b.1<(l0.length:Int) then some (l0.set b.1.toNat ⟨(rd_T51 l0 b.1).f0,a2⟩,0) else none) else (if (l0.length:Int)=400 then some (l0,7) else some (l0.insertIdx b.1.toNat ⟨a1,a2⟩,0))) else none) else none) else none
set_option maxHeartbeats 4000000 in
set_option maxRecDepth 100000 in
theorem impl_put.calls (k:Nat) (A0:Option Addr) (c0:Nat) (l0:List (S51)) (a1 a2:ByteArray) (r1:List (S51)) (r2:Int) (w:World) (hr0:Kd.C k51 w A0 l0.length l0) (hc0:l0.length≤c0) (h:impl_put.f k l0 a1 a2=some (r1,r2)) :
  Calls Tryz.prog 165 #[.slice A0 l0.length c0,.string a1,.string a2] w fun e w' => ∃ v0_:Value,e = .returned (.tuple #[v0_,.int .i64 r2])∧Kd.R k51 51 w' w.heap.size (fun _=>True) v0_ r1∧Below w.heap.size w w':=by
 unfold impl_put.f at h
 by_cases hl:l0.length≤1000000
 ·
  rw [if_pos hl] at h
  obtain ⟨⟨b1,b2⟩,h1,h⟩:=Option.bind_eq_some_iff.mp h
  by_cases g1:0≤b1
  ·
   rw [if_pos g1] at h
   by_cases g2:b1≤(l0.length:Int)
   ·
    rw [if_pos g2] at h
    have H1:=ζa h1
    have HL:=ζa hl
    have HR0:=ζa hr0
    have HC0:=ζa hc0
    have HCL:Aside0 (slices_Clone_impl_Pair_impl_Pair.f l0=some l0):=⟨by unfold slices_Clone_impl_Pair_impl_Pair.f;rw [if_pos (by omega)]⟩
    clear h1 hr0 hc0 hl
    obtain ⟨i,rfl⟩ : ∃ i:Nat,b1=(i:Int):=⟨b1.toNat,by omega⟩
    have hi:i≤l0.length:=by omega
    have HI:=ζa hi
    clear g1 g2 hi
    cases b2 with
    | true =>
     rw [if_pos rfl] at h
     by_cases g3:(i:Int)<(l0.length:Int)
     ·
      rw [if_pos g3] at h
      simp only [Option.some.injEq,Prod.mk.injEq] at h
      obtain ⟨rfl,rfl⟩:=h
      have G3:=ζa g3
      clear g3
      go_enter Tryz.func165,Tryz.ntmps165
      go_wp2_with fail
      refine (slices_Clone_impl_Pair_impl_Pair.calls A0 c0 l0 l0 _ HR0.out HC0.out HCL.out).mono ?_
      rintro e w' ⟨v,rfl,ho,hb⟩
      have hshape : ∃ g c,v = .slice (some ⟨g,0,none⟩) l0.length c∧l0.length≤c∧w.heap.size≤g:=by
       obtain ⟨_,inner,hown,_⟩:=ho
       rcases hown.2 with ⟨_,h0⟩|⟨g,cap,cur,hv,hbg,_,hn,_⟩
       · have:=G3.out;omega
       ·
        exact ⟨g,cap,hv,hn,hbg⟩
      obtain ⟨g,c,rfl,hnc,hwg⟩:=hshape
      have HC:=ζa (ζg ho).2.2
      have HO:=ζa ho
      have HB:=ζa hb
      have HN:=ζa hnc
      have HG:=ζa hwg
      clear ho hb hnc hwg
      go_wp2_with fail
      refine (impl_pairAt.calls k (some ⟨g,0,none⟩) c l0 a1 i τ _ HC.out HN.out H1.out).mono ?_
      rintro e w2 ⟨rfl,hb2⟩
      have HO2:=ζa (ζh HO.out hb2)
      have HB2:=ζa (δr HB.out hb2)
      clear hb2
      have p0:0≤(i:Int):=by omega
      have q0:(i:Int)<(l0.length:Int):=G3.out
      obtain ⟨ce,hcl,hM,hcc,hfr⟩:=Kd.R_elem HO2.out z51 (i:Int) p0 q0
      obtain rfl:=k51_openM hM
      have HP:=ζa (Kd.R_seg HO2.out (i:Int) p0 q0 (seg:=[.string a2]) (j:=1) hcl hcc (show 2≤2 from by decide) (x':=(⟨(rd_T51 l0 (i:Int)).f0,a2⟩:S51)) (k51_mkM _ _ _ (⟨(rd_T51 l0 (i:Int)).f0,a2⟩:S51)) (fun _ hk=>hk))
      have hx1:w2.cell? ⟨g,i * 2+1,none⟩=some (.string ((rd_T51 l0 (i:Int)).f1)):=hcc 1 _ rfl
      have hf1:w2.frozen? ⟨g,i * 2+1,none⟩=φ:=hfr 1
      clear hcl hcc hfr hM
      go_wp2_with (((with_reducible refine gate_store (t:=9) (p:=32) rfl ?_);refine store_event (t:=9) (p:=32) (v:=?vo) (w1:=(w2.setCell ⟨g,i * 2+1,none⟩ (.string a2))) ?hg ?ho ?hn ?hr ?_;(case ho=>rfl);(case hg=>rfl);(case hn=>rfl);(case hr=>(go_simp;done));intro w3 hw;have HO3:Aside0 (Kd.R k51 51 w3 w.heap.size (fun _=>True) (.slice (some ⟨g,0,none⟩) l0.length c) (l0.set (i:Int).toNat ⟨(rd_T51 l0 (i:Int)).f0,a2⟩)):=⟨by rw [hw];exact HP.out.1⟩;have HB3:Aside0 (Below w.heap.size w w3):=⟨by rw [hw];exact δq HB2.out HG.out⟩;clear hw))
      go_ret2
      exact ⟨_,rfl,HO3.out,HB3.out⟩
     · rw [if_neg g3] at h;cases h
    | false =>
     simp only [Bool.false_eq_true,if_false] at h
     by_cases g3:(l0.length:Int)=400
     ·
      rw [if_pos g3] at h
      simp only [Option.some.injEq,Prod.mk.injEq] at h
      obtain ⟨rfl,rfl⟩:=h
      have c3:((l0.length:Int) == 400)=τ:=beq_iff_eq.mpr g3
      clear g3
      go_enter Tryz.func165,Tryz.ntmps165
      go_wp2_with fail
      refine (slices_Clone_impl_Pair_impl_Pair.calls A0 c0 l0 l0 _ HR0.out HC0.out HCL.out).mono ?_
      rintro e w' ⟨v,rfl,ho,hb⟩
      obtain ⟨A,c,rfl,hnc,hrc⟩:=Kd.R_reads ho
      have HO:=ζa ho
      have HB:=ζa hb
      have HC:=ζa hrc
      have HN:=ζa hnc
      clear ho hb hrc hnc
      go_wp2_with fail
      refine (impl_pairAt.calls k A c l0 a1 i φ _ HC.out HN.out H1.out).mono ?_
      rintro e w2 ⟨rfl,hb2⟩
      have HO2:=ζa (ζh HO.out hb2)
      have HB2:=ζa (δr HB.out hb2)
      clear hb2
      go_wp2
      go_ret2
      exact ⟨_,rfl,HO2.out,HB2.out⟩
     ·
      rw [if_neg g3] at h
      simp only [Option.some.injEq,Prod.mk.injEq] at h
      obtain ⟨rfl,rfl⟩:=h
      have c3:((l0.length:Int) == 400)=φ:=beq_eq_false_iff_ne.mpr g3
      clear g3
      go_enter Tryz.func165,Tryz.ntmps165
      go_wp2_with fail
      refine (slices_Clone_impl_Pair_impl_Pair.calls A0 c0 l0 l0 _ HR0.out HC0.out HCL.out).mono ?_
      rintro e w' ⟨v,rfl,ho,hb⟩
      have hmx : ∀ A n c,v = .slice A n c→c≤9223372036854775807:=by
       rintro A n c rfl
       obtain ⟨_,inner,hown,_⟩:=ho
       rcases hown.2 with ⟨hv,_⟩|⟨g,cap,cur,hv,_,_,_,hm,_⟩
       · simp only [Value.slice.injEq] at hv;omega
       ·
        simp only [Value.slice.injEq] at hv
        have:maxLen=9223372036854775807:=rfl
        omega
      obtain ⟨A,c,rfl,hnc,hrc⟩:=Kd.R_reads ho
      have HM:=ζa (hmx A _ c rfl)
      have HO:=ζa ho
      have HB:=ζa hb
      have HC:=ζa hrc
      have HN:=ζa hnc
      clear ho hb hrc hnc hmx
      go_wp2_with fail
      refine (impl_pairAt.calls k A c l0 a1 i φ _ HC.out HN.out H1.out).mono ?_
      rintro e w2 ⟨rfl,hb2⟩
      have HO2:=ζa (ζh HO.out hb2)
      have HB2:=ζa (δr HB.out hb2)
      clear hb2
      go_wp2_with fail
      have hA : ∀ a,A=some a→w2.heap.size≠a.block:=by
       rintro a rfl
       have:=Kd.R_lt HO2.out a.block (by
        obtain ⟨_,inner,hown,_⟩:=HO2.out
        rcases hown.2 with ⟨hv,_⟩|⟨g,cap,cur,hv,_⟩
        · simp at hv
        ·
         simp only [Value.slice.injEq,Option.some.injEq] at hv;rw [hv.1];rfl)
       omega
      refine (slices_Insert_impl_Pair_impl_Pair.calls w.heap.size l0.length c i _ A l0 ⟨a1,a2⟩ w _ ?_ HI.out HN.out HM.out HL.out ?_ hA ?_ ?_).mono ?_
      · repeat (first|exact HO2.out|apply ζd)
      ·
       exact heap_alloc_new _ _
      · repeat (first|exact HB2.out|apply δk)
      ·
       have:=HB2.out.size;simp;omega
      rintro e w3 ⟨v3,rfl,ho3,hb3⟩
      have HO3:=ζa ho3
      have HB3:=ζa hb3
      clear ho3 hb3 hA
      go_wp2
      go_ret2
      exact ⟨_,rfl,HO3.out,HB3.out⟩
   · rw [if_neg g2] at h;cases h
  ·
   rw [if_neg g1] at h;cases h
 · rw [if_neg hl] at h;cases h


open Go.Proofs.YtabmfhnhmoiljaaGreatDoorW.PrintWords renaming gate_callee → δv, below_step → δr, below_size → δs

/-! ### impl_putAmount: function 187 -/
def impl_putAmount.f (k:Nat) (l0:List (S51)) (a1:ByteArray) (a2:Int):Option ((List (S51)) × Int):=if a2 > 0 then ((impl_amountText.f a2).bind fun t229=>((impl_put.f k l0 a1 t229).bind fun bt230=>(some (bt230.1,bt230.2)))) else ((impl_drop.f k l0 a1).bind fun bt234=>(some (bt234.1,0)))
set_option maxHeartbeats 8000000 in
set_option maxRecDepth 100000 in
theorem impl_putAmount.calls (k:Nat) (A0:Option Addr) (c0:Nat) (l0:List (S51)) (a1:ByteArray) (a2:Int) (r1:List (S51)) (r2:Int) (w:World) (hr0:Kd.C k51 w A0 l0.length l0) (hc0:l0.length≤c0) (hT0:TabsOK w) (h:impl_putAmount.f k l0 a1 a2=some (r1,r2)) :
  Calls Tryz.prog 187 #[.slice A0 l0.length c0,.string a1,.int .i64 a2] w fun e w' => ∃ v0_:Value,e = .returned (.tuple #[v0_,.int .i64 r2])∧Kd.R k51 51 w' w.heap.size (fun _=>True) v0_ r1∧Below w.heap.size w w':=by
 have HT0:=ζa hT0
 clear hT0
 have HR0:=ζa hr0
 have HC0:=ζa hc0
 clear hr0 hc0
 have HB:=ζa (Below.refl w.heap.size w)
 have H:(if a2 > 0 then ((impl_amountText.f a2).bind fun t229=>((impl_put.f k l0 a1 t229).bind fun bt230=>(some (bt230.1,bt230.2)))) else ((impl_drop.f k l0 a1).bind fun bt234=>(some (bt234.1,0))))=some (r1,r2):=h
 clear h
 by_cases c4:a2 > 0
 ·
  rw [if_pos c4] at H
  have c4b0:decide (0<a2)=τ:=decide_eq_true c4
  clear c4
  replace H:=Option.bind_eq_some_iff.mp H
  obtain ⟨t229,A50,H⟩:=H
  replace H:((impl_put.f k l0 a1 t229).bind fun bt230=>(some (bt230.1,bt230.2)))=some (r1,r2):=H
  have A5:=ζa A50
  clear A50
  replace H:=Option.bind_eq_some_iff.mp H
  obtain ⟨⟨t230,t231⟩,A60,H⟩:=H
  replace H:(some (t230,t231))=some (r1,r2):=H
  have A6:=ζa A60
  clear A60
  simp only [Option.some.injEq,Prod.mk.injEq] at H
  obtain ⟨rfl,rfl⟩:=H
  go_enter Tryz.func187,Tryz.ntmps187
  go_wp2_with (first|((with_reducible refine δv (f:=147) rfl ?_);refine goesL_ (some 15) rfl rfl Tryz.func147 (by kernel_rfl) rfl #[.int .i64 a2] rfl (by (try simp only [δd,δe,δf]);rfl) ?_;(with_reducible refine (impl_amountText.calls a2 t229 _ (HT0.out.below (by exact HB.out)) A5.out).mono ?_);rintro e w7 ⟨rfl,hb⟩;refine ⟨_,rfl,?_⟩;have n0_:=ζa (δr (by exact HB.out) hb);clear HB;have HB:=n0_;clear n0_;(try clear hb);(try clear hb2);(try clear hk);(try clear hi))|((with_reducible refine δv (f:=165) rfl ?_);refine goesL_ (some 16) rfl rfl Tryz.func165 (by kernel_rfl) rfl #[.slice A0 l0.length c0,.string a1,.string t229] rfl (by (try simp only [δd,δe,δf]);rfl) ?_;(with_reducible refine (impl_put.calls k _ _ l0 a1 t229 t230 t231 _ ?side1 ?side2 A6.out).mono ?_);(case side1=>repeat (exact (Kd.C_below HR0.out HB.out)));(case side2=>exact HC0.out);rintro e w8 ⟨v232,rfl,ho0,hb⟩;refine ⟨_,rfl,?_⟩;have n0_:=ζa (Kd.R_lower ho0 (δs (by exact HB.out)));have n1_:=ζa (δr (by exact HB.out) hb);clear HB;have HO233:=n0_;have HB:=n1_;clear n0_ n1_;(try clear hb);(try clear hb2);(try clear hk);(try clear hi);(try clear ho0)))
  go_ret2
  exact ⟨_,by rfl,by exact HO233.out,by repeat ((with_reducible exact HB.out))⟩
 ·
  rw [if_neg c4] at H
  have c4b0:decide (0<a2)=φ:=decide_eq_false c4
  clear c4
  replace H:=Option.bind_eq_some_iff.mp H
  obtain ⟨⟨t234,t235⟩,A90,H⟩:=H
  replace H:(some (t234,0))=some (r1,r2):=H
  have A9:=ζa A90
  clear A90
  simp only [Option.some.injEq,Prod.mk.injEq] at H
  obtain ⟨rfl,rfl⟩:=H
  go_enter Tryz.func187,Tryz.ntmps187
  go_wp2_with (((with_reducible refine δv (f:=163) rfl ?_);refine goesL_ (some 22) rfl rfl Tryz.func163 (by kernel_rfl) rfl #[.slice A0 l0.length c0,.string a1] rfl (by (try simp only [δd,δe,δf]);rfl) ?_;(with_reducible refine (impl_drop.calls k _ _ l0 a1 t234 t235 _ ?side1 ?side2 A9.out).mono ?_);(case side1=>repeat (exact HR0.out));(case side2=>exact HC0.out);rintro e w10 ⟨v236,rfl,ho0,hb⟩;refine ⟨_,rfl,?_⟩;have n0_:=ζa (Kd.R_lower ho0 (δs (by exact HB.out)));have n1_:=ζa (δr (by exact HB.out) hb);clear HB;have HO237:=n0_;have HB:=n1_;clear n0_ n1_;(try clear hb);(try clear hb2);(try clear hk);(try clear hi);(try clear ho0)))
  go_ret2
  exact ⟨_,by rfl,by exact HO237.out,by repeat ((with_reducible exact HB.out))⟩



/-! ### impl_fewer: function 142 -/
def impl_fewer.f (k:Nat) (l0:List S51) (a1:ByteArray) (a2:Int):Option (List S51 × Int) :=
 (impl_amountAt.f k l0 a1).bind fun a=>(impl_SubAmount.f k a a2).bind fun s=>if s.2=0 then impl_putAmount.f k l0 a1 s.1 else some (l0,s.2)
set_option maxHeartbeats 2000000 in
set_option maxRecDepth 100000 in
theorem impl_fewer.calls (k:Nat) (A0:Option Addr) (c0:Nat) (l0:List S51) (a1:ByteArray) (a2:Int) (r1:List S51) (r2:Int) (w:World) (hr0:Kd.C k51 w A0 l0.length l0) (hc0:l0.length≤c0) (hT0:TabsOK w) (h:impl_fewer.f k l0 a1 a2=some (r1,r2)) :
  Calls Tryz.prog 142 #[.slice A0 l0.length c0,.string a1,.int .i64 a2] w fun e w' => ∃ v0_:Value,e = .returned (.tuple #[v0_,.int .i64 r2])∧(r2=0→Kd.R k51 51 w' w.heap.size (fun _=>True) v0_ r1)∧Below w.heap.size w w':=by
 obtain ⟨a,h1,h⟩:=Option.bind_eq_some_iff.mp h
 obtain ⟨⟨s1,s2⟩,h2,h⟩:=Option.bind_eq_some_iff.mp h
 have H1:=ζa h1
 have H2:=ζa h2
 have HR0:=ζa hr0
 have HC0:=ζa hc0
 have HT0:=ζa hT0
 clear h1 h2 hr0 hc0 hT0
 go_enter Tryz.func142,Tryz.ntmps142
 go_wp2_with fail
 refine (impl_amountAt.calls k A0 c0 l0 a1 a _ HR0.out HC0.out HT0.out H1.out).mono ?_
 rintro e w1 ⟨rfl,hb⟩
 have HB1:=ζa hb
 clear hb
 go_wp2_with fail
 refine (impl_SubAmount.calls k a a2 s1 s2 _ H2.out).mono ?_
 rintro e w2 ⟨rfl,hd⟩
 have HB2:=ζa (δr HB1.out hd.below)
 clear hd
 by_cases c2:s2=0
 ·
  subst c2
  rw [if_pos rfl] at h
  have H3:=ζa h
  clear h
  go_wp2_with fail
  refine (impl_putAmount.calls k A0 c0 l0 a1 s1 r1 r2 _ (Kd.C_below HR0.out HB2.out) HC0.out (HT0.out.below HB2.out) H3.out).mono ?_
  rintro e w3 ⟨v3,rfl,ho,hb⟩
  have HO3:=ζa (Kd.R_lower ho HB2.out.size)
  have HB3:=ζa (δr HB2.out hb)
  clear ho hb
  go_wp2
  go_ret2
  exact ⟨_,rfl,fun _=>HO3.out,HB3.out⟩
 ·
  rw [if_neg c2] at h
  simp only [Option.some.injEq,Prod.mk.injEq] at h
  obtain ⟨rfl,rfl⟩:=h
  have C2:=ζa c2
  have c2b:(s2 != 0)=τ:=bne_iff_ne.mpr c2
  clear c2
  go_wp2
  go_ret2
  exact ⟨_,rfl,fun h0=>absurd h0 C2.out,HB2.out⟩



/-! ### impl_balanceKey: function 143 -/
def impl_balanceKey.f (a0:ByteArray) (a1:ByteArray):Option (ByteArray):=if a0.size+a1.size≤1000000000000 then some ((((⟨#[98,47]⟩:ByteArray) ++ a0) ++ (⟨#[47]⟩:ByteArray)) ++ a1) else none
set_option maxHeartbeats 1000000 in
theorem impl_balanceKey.calls (a0:ByteArray) (a1:ByteArray) (r:ByteArray) (w:World) (h:impl_balanceKey.f a0 a1=some r) :
  Calls Tryz.prog 143 #[.string a0,.string a1] w fun e w'=>e = .returned (.string r)∧Drawn0 w w':=by
 unfold impl_balanceKey.f at h
 by_cases c:a0.size+a1.size≤1000000000000
 ·
  rw [if_pos c] at h
  obtain rfl:=Option.some.inj h
  have c1:(2+a0.size≤9223372036854775807)=True:=eq_true (by omega)
  have c2:(9223372036854775807<2+a0.size)=False:=eq_false (by omega)
  have c3:(2+a0.size+1≤9223372036854775807)=True:=eq_true (by omega)
  have c4:(9223372036854775807<2+a0.size+1)=False:=eq_false (by omega)
  have c5:(2+a0.size+1+a1.size≤9223372036854775807)=True:=eq_true (by omega)
  have c6:(9223372036854775807<2+a0.size+1+a1.size)=False:=eq_false (by omega)
  clear c
  go_enter Tryz.func143,Tryz.ntmps143
  go_wp2
  go_ret
  exact ⟨by rfl,by repeat (exact Drawn0.refl _)⟩
 · rw [if_neg c] at h;cases h


open Go.Proofs.YtabmfhnhmoiljaaGreatDoorW.PrintWords renaming below_drew1 → δj, pw_below_drewN → δi, below_step → δr

/-! ### impl_move_1_1: function 141 -/
theorem cell_keep {w w':World} {p:Addr} {v:Value} (hb:Below w.heap.size w w') (h:w.cell? p=some v):w'.cell? p=some v:=(hb.cell (World.block_lt_of_cell? w _ h)).trans h
set_option maxHeartbeats 2000000 in
set_option maxRecDepth 100000 in
theorem impl_move_1_1.calls (k:Nat) (A0:Option Addr) (c0:Nat) (l0:List S51) (pd pf pn_:Addr) (d f:ByteArray) (n_:Int) (r1:List S51) (r2:Int) (w:World) (hr0:Kd.C k51 w A0 l0.length l0) (hc0:l0.length≤c0) (hT0:TabsOK w) (hd:w.cell? pd=some (.string d)) (hf:w.cell? pf=some (.string f)) (hn_:w.cell? pn_=some (.int .i64 n_))
  (h:((impl_balanceKey.f d f).bind fun key=>impl_fewer.f k l0 key n_)=some (r1,r2)) :
  Calls Tryz.prog 141 #[.slice A0 l0.length c0,.pointer (some pd),.pointer (some pf),.pointer (some pn_)] w fun e w' => ∃ v0_:Value,e = .returned (.tuple #[v0_,.int .i64 r2])∧(r2=0→Kd.R k51 51 w' w.heap.size (fun _=>True) v0_ r1)∧Below w.heap.size w w':=by
 obtain ⟨key,hk,h⟩:=Option.bind_eq_some_iff.mp h
 have HK:=ζa hk
 have HF:=ζa h
 have HR0:=ζa hr0
 have HC0:=ζa hc0
 have HT0:=ζa hT0
 have HB0:=ζa (Below.refl w.heap.size w)
 have Hd:=ζa hd
 have Hf:=ζa hf
 have Hn_:=ζa hn_
 clear hk h hr0 hc0 hT0
 go_enter Tryz.func141,Tryz.ntmps141
 go_wp2_with fail
 go_region_held3 (fun w'=>w'.cell? pd=some (.string d)∧w'.cell? pf=some (.string f)∧w'.cell? pn_=some (.int .i64 n_)) (first|go_keep|exact ⟨cell_keep HB3.out Hd.out,cell_keep HB3.out Hf.out,cell_keep HB3.out Hn_.out⟩)
  (first
   | (go_at_call 143;refine (impl_balanceKey.calls d f key _ HK.out).mono ?_;rintro e w' ⟨rfl,⟨q',rfl⟩⟩)
   | (go_at_call 142;refine (impl_fewer.calls k A0 c0 l0 key n_ r1 r2 _ (by repeat (first|exact HR0.out|apply Kd.C_drew|apply Kd.C_drewN)) HC0.out (by first|exact HT0.out|exact HT0.out.below (by repeat (first|exact HB0.out|apply δj|apply δi))) HF.out).mono ?_;rintro e w3 ⟨v3,rfl,ho,hb⟩;have HO3:=ζa ho;have HB3:Aside0 (Below w.heap.size w w3):=⟨δr (by repeat (first|exact HB0.out|apply δj|apply δi)) hb⟩;clear ho hb))
 all_goals go_wp2
 all_goals (go_ret2;exact ⟨_,rfl,fun h0=>HO3.out h0,HB3.out⟩)



/-! ### impl_AddAmount: function 188 -/
def impl_AddAmount.j0:Nat→Int→Int→Bool→Option (Int × Int)
 | 0,_,_,_=>none
 | k+1,x0,x1,x6=>if x6=τ then (some (0,4)) else (if (ζm (x0+x1)) > 1000000000000000000 then (some (0,13)) else (some (ζm (x0+x1),0)))
def impl_AddAmount.f (k:Nat) (a0:Int) (a1:Int):Option (Int × Int):=(impl_isAmount.f a0).bind fun t238=>(if t238=τ then ((impl_isAmount.f a1).bind fun t239=>(impl_AddAmount.j0 k a0 a1 (!t239))) else (impl_AddAmount.j0 k a0 a1 τ))
set_option maxHeartbeats 8000000 in
set_option maxRecDepth 100000 in
theorem impl_AddAmount.calls (k:Nat) (a0:Int) (a1:Int) (r1:Int) (r2:Int) (w:World) (h:impl_AddAmount.f k a0 a1=some (r1,r2)) :
  Calls Tryz.prog 188 #[.int .i64 a0,.int .i64 a1] w fun e w'=>e = .returned (.tuple #[.int .i64 r1,.int .i64 r2])∧Drawn0 w w':=by
 have H:((impl_isAmount.f a0).bind fun t238=>(if t238=τ then ((impl_isAmount.f a1).bind fun t239=>(impl_AddAmount.j0 k a0 a1 (!t239))) else (impl_AddAmount.j0 k a0 a1 τ)))=some (r1,r2):=h
 clear h
 have HC3:=ζa H
 clear H
 go_enter Tryz.func188,Tryz.ntmps188
 go_upto_region 1 with (fail)
 go_cut [6] (fun v6 wc => ∃ (kq:Nat) (x6_2:Bool),v6 = .bool x6_2∧Aside0 (impl_AddAmount.j0 kq a0 a1 x6_2=some (r1,r2))∧Aside0 (kq≤k)∧Drawn0 w wc)
 case first =>
  have H:=HC3.out
  clear HC3
  replace H:=Option.bind_eq_some_iff.mp H
  obtain ⟨t238,A40,H⟩:=H
  replace H:(if t238=τ then ((impl_isAmount.f a1).bind fun t239=>(impl_AddAmount.j0 k a0 a1 (!t239))) else (impl_AddAmount.j0 k a0 a1 τ))=some (r1,r2):=H
  have A4:=ζa A40
  clear A40
  by_cases c5:t238=τ
  ·
   subst c5
   have H1:((impl_isAmount.f a1).bind fun t239=>(impl_AddAmount.j0 k a0 a1 (!t239)))=some (r1,r2):=by rw [if_pos rfl] at H;exact H
   clear H
   have H:=H1
   clear H1
   replace H:=Option.bind_eq_some_iff.mp H
   obtain ⟨t239,A60,H⟩:=H
   replace H:(impl_AddAmount.j0 k a0 a1 (!t239))=some (r1,r2):=H
   have A6:=ζa A60
   clear A60
   have H':=ζa H
   clear H
   go_wp2_with (first|((with_reducible refine δv (f:=128) rfl ?_);refine goesL_ (some 8) rfl rfl Tryz.func128 (by kernel_rfl) rfl #[.int .i64 a0] rfl (by (try simp only [δd,δe,δf]);rfl) ?_;(with_reducible refine (impl_isAmount.calls a0 τ _ A4.out).mono ?_);rintro e w' ⟨rfl,⟨nd,rfl⟩⟩;refine ⟨_,rfl,?_⟩)|(go_at_call 128;(with_reducible refine (impl_isAmount.calls a1 t239 _ A6.out).mono ?_);rintro e w' ⟨rfl,⟨nd,rfl⟩⟩))
   go_meet
   case rel=>exact ⟨_,(!t239),(by rfl),H',⟨by omega⟩,by repeat (first|exact Drawn0.refl _|apply Drawn0.step)⟩
  ·
   replace c5:=Bool.eq_false_iff.mpr c5
   subst c5
   have H1:(impl_AddAmount.j0 k a0 a1 τ)=some (r1,r2):=by rw [if_neg (show ¬ (φ=τ) by decide)] at H;exact H
   clear H
   have H:=H1
   clear H1
   have H':=ζa H
   clear H
   go_wp2_with (((with_reducible refine δv (f:=128) rfl ?_);refine goesL_ (some 8) rfl rfl Tryz.func128 (by kernel_rfl) rfl #[.int .i64 a0] rfl (by (try simp only [δd,δe,δf]);rfl) ?_;(with_reducible refine (impl_isAmount.calls a0 φ _ A4.out).mono ?_);rintro e w' ⟨rfl,⟨nd,rfl⟩⟩;refine ⟨_,rfl,?_⟩))
   go_meet
   case rel=>exact ⟨_,(τ),(by rfl),H',⟨by omega⟩,by repeat (first|exact Drawn0.refl _|apply Drawn0.step)⟩
 case rest =>
  clear HC3
  try clear c1
  try clear p2
  try clear c5
  obtain ⟨kq,x6_2,rfl,HA,HJ2,⟨mc2,rfl⟩⟩:=hcut
  cases kq with
  | zero=>exact absurd HA.out (by simp [impl_AddAmount.j0])
  | succ kj2 =>
   have H:=HA.out
   clear HA
   simp only [impl_AddAmount.j0] at H
   by_cases c7:x6_2=τ
   ·
    subst c7
    have H1:(some (0,4))=some (r1,r2):=by rw [if_pos rfl] at H;exact H
    clear H
    have H:=H1
    clear H1
    simp only [Option.some.injEq,Prod.mk.injEq] at H
    obtain ⟨rfl,rfl⟩:=H
    go_wp2
    go_ret2
    exact ⟨by rfl,by repeat (first|exact Drawn0.refl _|apply Drawn0.step)⟩
   ·
    replace c7:=Bool.eq_false_iff.mpr c7
    subst c7
    have H1:(if (ζm (a0+a1)) > 1000000000000000000 then (some (0,13)) else (some (ζm (a0+a1),0)))=some (r1,r2):=by rw [if_neg (show ¬ (φ=τ) by decide)] at H;exact H
    clear H
    have H:=H1
    clear H1
    by_cases c8:(ζm (a0+a1)) > 1000000000000000000
    ·
     rw [if_pos c8] at H
     have c8b0:decide (1000000000000000000<(ζm (a0+a1)))=τ:=decide_eq_true c8
     clear c8
     simp only [Option.some.injEq,Prod.mk.injEq] at H
     obtain ⟨rfl,rfl⟩:=H
     go_wp2
     go_ret2
     exact ⟨by rfl,by repeat (first|exact Drawn0.refl _|apply Drawn0.step)⟩
    ·
     rw [if_neg c8] at H
     have c8b0:decide (1000000000000000000<(ζm (a0+a1)))=φ:=decide_eq_false c8
     clear c8
     simp only [Option.some.injEq,Prod.mk.injEq] at H
     obtain ⟨rfl,rfl⟩:=H
     go_wp2
     go_ret2
     exact ⟨by rfl,by repeat (first|exact Drawn0.refl _|apply Drawn0.step)⟩



/-! ### impl_more: function 145 -/
def impl_more.f (k:Nat) (l0:List S51) (a1:ByteArray) (a2:Int):Option (List S51 × Int) :=
 (impl_amountAt.f k l0 a1).bind fun a=>(impl_AddAmount.f k a a2).bind fun s=>if s.2=0 then impl_putAmount.f k l0 a1 s.1 else some (l0,s.2)
set_option maxHeartbeats 2000000 in
set_option maxRecDepth 100000 in
theorem impl_more.calls (k:Nat) (A0:Option Addr) (c0:Nat) (l0:List S51) (a1:ByteArray) (a2:Int) (r1:List S51) (r2:Int) (w:World) (hr0:Kd.C k51 w A0 l0.length l0) (hc0:l0.length≤c0) (hT0:TabsOK w) (h:impl_more.f k l0 a1 a2=some (r1,r2)) :
  Calls Tryz.prog 145 #[.slice A0 l0.length c0,.string a1,.int .i64 a2] w fun e w' => ∃ v0_:Value,e = .returned (.tuple #[v0_,.int .i64 r2])∧(r2=0→Kd.R k51 51 w' w.heap.size (fun _=>True) v0_ r1)∧Below w.heap.size w w':=by
 obtain ⟨a,h1,h⟩:=Option.bind_eq_some_iff.mp h
 obtain ⟨⟨s1,s2⟩,h2,h⟩:=Option.bind_eq_some_iff.mp h
 have H1:=ζa h1
 have H2:=ζa h2
 have HR0:=ζa hr0
 have HC0:=ζa hc0
 have HT0:=ζa hT0
 clear h1 h2 hr0 hc0 hT0
 go_enter Tryz.func145,Tryz.ntmps145
 go_wp2_with fail
 refine (impl_amountAt.calls k A0 c0 l0 a1 a _ HR0.out HC0.out HT0.out H1.out).mono ?_
 rintro e w1 ⟨rfl,hb⟩
 have HB1:=ζa hb
 clear hb
 go_wp2_with fail
 refine (impl_AddAmount.calls k a a2 s1 s2 _ H2.out).mono ?_
 rintro e w2 ⟨rfl,hd⟩
 have HB2:=ζa (δr HB1.out hd.below)
 clear hd
 by_cases c2:s2=0
 ·
  subst c2
  rw [if_pos rfl] at h
  have H3:=ζa h
  clear h
  go_wp2_with fail
  refine (impl_putAmount.calls k A0 c0 l0 a1 s1 r1 r2 _ (Kd.C_below HR0.out HB2.out) HC0.out (HT0.out.below HB2.out) H3.out).mono ?_
  rintro e w3 ⟨v3,rfl,ho,hb⟩
  have HO3:=ζa (Kd.R_lower ho HB2.out.size)
  have HB3:=ζa (δr HB2.out hb)
  clear ho hb
  go_wp2
  go_ret2
  exact ⟨_,rfl,fun _=>HO3.out,HB3.out⟩
 ·
  rw [if_neg c2] at h
  simp only [Option.some.injEq,Prod.mk.injEq] at h
  obtain ⟨rfl,rfl⟩:=h
  have C2:=ζa c2
  have c2b:(s2 != 0)=τ:=bne_iff_ne.mpr c2
  clear c2
  go_wp2
  go_ret2
  exact ⟨_,rfl,fun h0=>absurd h0 C2.out,HB2.out⟩



/-! ### impl_move_1_2: function 144 -/
set_option maxHeartbeats 2000000 in
set_option maxRecDepth 100000 in
theorem impl_move_1_2.calls (k:Nat) (A0:Option Addr) (c0:Nat) (l0:List S51) (pd pf pn_:Addr) (d f:ByteArray) (n_:Int) (r1:List S51) (r2:Int) (w:World) (hr0:Kd.C k51 w A0 l0.length l0) (hc0:l0.length≤c0) (hT0:TabsOK w) (hd:w.cell? pd=some (.string d)) (hf:w.cell? pf=some (.string f)) (hn_:w.cell? pn_=some (.int .i64 n_))
  (h:((impl_balanceKey.f d f).bind fun key=>impl_more.f k l0 key n_)=some (r1,r2)) :
  Calls Tryz.prog 144 #[.slice A0 l0.length c0,.pointer (some pd),.pointer (some pf),.pointer (some pn_)] w fun e w' => ∃ v0_:Value,e = .returned (.tuple #[v0_,.int .i64 r2])∧(r2=0→Kd.R k51 51 w' w.heap.size (fun _=>True) v0_ r1)∧Below w.heap.size w w':=by
 obtain ⟨key,hk,h⟩:=Option.bind_eq_some_iff.mp h
 have HK:=ζa hk
 have HF:=ζa h
 have HR0:=ζa hr0
 have HC0:=ζa hc0
 have HT0:=ζa hT0
 have HB0:=ζa (Below.refl w.heap.size w)
 have Hd:=ζa hd
 have Hf:=ζa hf
 have Hn_:=ζa hn_
 clear hk h hr0 hc0 hT0
 go_enter Tryz.func144,Tryz.ntmps144
 go_wp2_with fail
 go_region_held3 (fun w'=>w'.cell? pd=some (.string d)∧w'.cell? pf=some (.string f)∧w'.cell? pn_=some (.int .i64 n_)) (first|go_keep|exact ⟨cell_keep HB3.out Hd.out,cell_keep HB3.out Hf.out,cell_keep HB3.out Hn_.out⟩)
  (first
   | (go_at_call 143;refine (impl_balanceKey.calls d f key _ HK.out).mono ?_;rintro e w' ⟨rfl,⟨q',rfl⟩⟩)
   | (go_at_call 145;refine (impl_more.calls k A0 c0 l0 key n_ r1 r2 _ (by repeat (first|exact HR0.out|apply Kd.C_drew|apply Kd.C_drewN)) HC0.out (by first|exact HT0.out|exact HT0.out.below (by repeat (first|exact HB0.out|apply δj|apply δi))) HF.out).mono ?_;rintro e w3 ⟨v3,rfl,ho,hb⟩;have HO3:=ζa ho;have HB3:Aside0 (Below w.heap.size w w3):=⟨δr (by repeat (first|exact HB0.out|apply δj|apply δi)) hb⟩;clear ho hb))
 all_goals go_wp2
 all_goals (go_ret2;exact ⟨_,rfl,fun h0=>HO3.out h0,HB3.out⟩)


open Go.Proofs.YtabmfhnhmoiljaaGreatDoorW.PrintWords renaming below_alloc → δk, below_step → δr

/-! ### impl_move_1: function 140 -/
theorem rowF {w:World} {g:Nat} {t:TypeId} (xs:List FV) (hm:xs.length≤1000) (h:w.heap[g]? = some (.cells (xs.map encF).toArray t (0,0))):kF.C w (some ⟨g,0,none⟩) xs.length xs:=by
 refine ⟨rfl,by omega,fun _=>⟨_,rfl,fun j p hp=>⟨[encF p],rfl,rfl,fun t u hu => ?_⟩⟩⟩
 obtain ⟨rfl,rfl⟩:t=0∧u=encF p:=by
  rcases t with _|t
  · simpa using hu.symm
  ·
   simp at hu
 rw [Addr.add_lit,cell_of_row w g _ _ _ (0,0) h]
 have:kF.sz=1:=rfl
 simp [this,hp]
def impl_move.F (k:Nat) (f t d:ByteArray) (n_:Int):List S51→Option (List S51 × Int):=fun l0=>impl_all.f k l0 [(fun l=>(impl_balanceKey.f d f).bind fun key=>impl_fewer.f k l key n_),(fun l=>(impl_balanceKey.f d t).bind fun key=>impl_more.f k l key n_)]
set_option maxHeartbeats 2000000 in
set_option maxRecDepth 100000 in
theorem impl_move_1.calls (k:Nat) (A0:Option Addr) (c0:Nat) (l0:List S51) (pf pt pd pn_:Addr) (f t d:ByteArray) (n_:Int) (r1:List S51) (r2:Int) (w:World) (hr0:Kd.C k51 w A0 l0.length l0) (hc0:l0.length≤c0) (hT0:TabsOK w) (hf:w.cell? pf=some (.string f)) (ht:w.cell? pt=some (.string t)) (hd:w.cell? pd=some (.string d)) (hn_:w.cell? pn_=some (.int .i64 n_)) (h:impl_move.F k f t d n_ l0=some (r1,r2)) :
  Calls Tryz.prog 140 #[.slice A0 l0.length c0,.pointer (some pd),.pointer (some pf),.pointer (some pn_),.pointer (some pt)] w fun e w' => ∃ v0_:Value,e = .returned (.tuple #[v0_,.int .i64 r2])∧Kd.R k51 51 w' w.heap.size (fun _=>True) v0_ r1∧Below w.heap.size w w':=by
 have HH:=ζa h
 have HR0:=ζa hr0
 have HC0:=ζa hc0
 have HT0:=ζa hT0
 have Hf:=ζa hf
 have Ht:=ζa ht
 have Hd:=ζa hd
 have Hn_:=ζa hn_
 have HB:=ζa (Below.refl w.heap.size w)
 clear h hr0 hc0 hT0 hf ht hd hn_
 go_enter Tryz.func140,Tryz.ntmps140
 go_wp2_with fail
 have HB1:Aside0 (Below w.heap.size w (w.alloc (.cells ([((141,#[.pointer (some pd),.pointer (some pf),.pointer (some pn_)]):FV),(144,#[.pointer (some pd),.pointer (some pt),.pointer (some pn_)])].map encF).toArray 79))):=⟨δk HB.out _⟩
 refine (impl_all.calls k A0 c0 l0 _ _ [(141,#[.pointer (some pd),.pointer (some pf),.pointer (some pn_)]),(144,#[.pointer (some pd),.pointer (some pt),.pointer (some pn_)])] [(fun l=>(impl_balanceKey.f d f).bind fun key=>impl_fewer.f k l key n_),(fun l=>(impl_balanceKey.f d t).bind fun key=>impl_more.f k l key n_)] r1 r2 _ (Kd.C_alloc HR0.out _) HC0.out (rowF _ (show 2≤1000 by decide) (heap_alloc_new _ _)) rfl ?_ HH.out).mono ?_
 ·
  intro i x F hx hF
  rcases i with _|_|i
  ·
   simp only [List.getElem?_cons_zero,Option.some.injEq] at hx hF
   subst hx hF
   exact ⟨enters_of Tryz.func141 (by kernel_rfl) rfl,fun W A c l r code hb hr hc hF=>impl_move_1_1.calls k A c l pd pf pn_ d f n_ r code W hr hc ((HT0.out.below HB1.out).below hb) (cell_keep hb (cell_keep HB1.out Hd.out)) (cell_keep hb (cell_keep HB1.out Hf.out)) (cell_keep hb (cell_keep HB1.out Hn_.out)) hF⟩
  ·
   simp only [List.getElem?_cons_succ,List.getElem?_cons_zero,Option.some.injEq] at hx hF
   subst hx hF
   exact ⟨enters_of Tryz.func144 (by kernel_rfl) rfl,fun W A c l r code hb hr hc hF=>impl_move_1_2.calls k A c l pd pt pn_ d t n_ r code W hr hc ((HT0.out.below HB1.out).below hb) (cell_keep hb (cell_keep HB1.out Hd.out)) (cell_keep hb (cell_keep HB1.out Ht.out)) (cell_keep hb (cell_keep HB1.out Hn_.out)) hF⟩
  · simp at hx
 rintro e w3 ⟨v3,rfl,ho,hb⟩
 have HO3:=ζa (Kd.R_lower ho HB1.out.size)
 have HB3:=ζa (δr HB1.out hb)
 clear ho hb
 go_wp2
 go_ret2
 exact ⟨_,rfl,HO3.out,HB3.out⟩


open Go.Proofs.YtabmfhnhmoiljaaGreatDoorW.PrintWords renaming gate_dst → δx, box_event → δz, below_step → δr, below_alloc → δk, pw_below_drewN → δi, below_drew1 → δj, blk_cell → δl

/-! ### impl_move: function 84 -/
set_option maxHeartbeats 2000000 in
set_option maxRecDepth 100000 in
theorem impl_move.calls (k:Nat) (f t d:ByteArray) (n_:Int) (w:World) (hT0:TabsOK w) :
  Calls Tryz.prog 84 #[.string f,.string t,.string d,.int .i64 n_] w fun e w' => ∃ (g:Nat) (lb:Array Value),e = .returned (.func (.func g) #[] lb)∧ChgR w' (g,lb) (impl_move.F k f t d n_)∧Below w.heap.size w w':=by
 have HT0:=ζa hT0
 have HB:=ζa (Below.refl w.heap.size w)
 clear hT0
 go_enter Tryz.func84,Tryz.ntmps84
 go_wp2_with (first
  | ((with_reducible refine δx (N:=4) rfl ?_);refine δz ?hg (N:=4) ?hd (cs:=#[(.string f)]) (t:=9) ?hr ?_;(case hd=>rfl);(case hg=>rfl);(case hr=>first|(go_simp;done)|(go_simp;rfl));intro gbf hg wf hbox hb;have n0_:=ζa (δr (by repeat (first|exact HB.out|apply δk|apply δi|apply δj)) hb);clear HB;have HB:=n0_;clear n0_;have BKf:=ζa hbox;clear hb hbox hg)
  | ((with_reducible refine δx (N:=5) rfl ?_);refine δz ?hg (N:=5) ?hd (cs:=#[(.string t)]) (t:=9) ?hr ?_;(case hd=>rfl);(case hg=>rfl);(case hr=>first|(go_simp;done)|(go_simp;rfl));intro gbt hg wt hbox hb;have n0_:=ζa (δr (by repeat (first|exact HB.out|apply δk|apply δi|apply δj)) hb);clear HB;have HB:=n0_;clear n0_;have BKt:=ζa hbox;have mf:=ζa (blk_below BKf.out hb);clear BKf;have BKf:=mf;clear mf;clear hb hbox hg)
  | ((with_reducible refine δx (N:=6) rfl ?_);refine δz ?hg (N:=6) ?hd (cs:=#[(.string d)]) (t:=9) ?hr ?_;(case hd=>rfl);(case hg=>rfl);(case hr=>first|(go_simp;done)|(go_simp;rfl));intro gbd hg wd hbox hb;have n0_:=ζa (δr (by repeat (first|exact HB.out|apply δk|apply δi|apply δj)) hb);clear HB;have HB:=n0_;clear n0_;have BKd:=ζa hbox;have mf:=ζa (blk_below BKf.out hb);clear BKf;have BKf:=mf;clear mf;have mt:=ζa (blk_below BKt.out hb);clear BKt;have BKt:=mt;clear mt;clear hb hbox hg)
  | ((with_reducible refine δx (N:=7) rfl ?_);refine δz ?hg (N:=7) ?hd (cs:=#[(.int .i64 n_)]) (t:=3) ?hr ?_;(case hd=>rfl);(case hg=>rfl);(case hr=>first|(go_simp;done)|(go_simp;rfl));intro gbn_ hg wn_ hbox hb;have n0_:=ζa (δr (by repeat (first|exact HB.out|apply δk|apply δi|apply δj)) hb);clear HB;have HB:=n0_;clear n0_;have BKn_:=ζa hbox;have mf:=ζa (blk_below BKf.out hb);clear BKf;have BKf:=mf;clear mf;have mt:=ζa (blk_below BKt.out hb);clear BKt;have BKt:=mt;clear mt;have md:=ζa (blk_below BKd.out hb);clear BKd;have BKd:=md;clear md;clear hb hbox hg))
 go_ret
 refine ⟨_,_,rfl,⟨enters_of Tryz.func140 (by kernel_rfl) rfl,fun W A c l r code hb hr hc hF => ?_⟩,HB.out⟩
 exact (impl_move_1.calls k A c l _ _ _ _ f t d n_ r code W hr hc ((HT0.out.below HB.out).below hb) ((δl (blk_below BKf.out hb) 0).trans rfl) ((δl (blk_below BKt.out hb) 0).trans rfl) ((δl (blk_below BKd.out hb) 0).trans rfl) ((δl (blk_below BKn_.out hb) 0).trans rfl) hF)



/-! ### impl_orderKey: function 108 -/
def impl_orderKey.f (a0:ByteArray):Option (ByteArray):=if 2+a0.size≤9223372036854775807 then (some ((⟨#[111,47]⟩:ByteArray) ++ a0)) else (none)
set_option maxHeartbeats 8000000 in
set_option maxRecDepth 100000 in
theorem impl_orderKey.calls (a0:ByteArray) (r:ByteArray) (w:World) (h:impl_orderKey.f a0=some r) :
  Calls Tryz.prog 108 #[.string a0] w fun e w'=>e = .returned (.string r)∧Drawn0 w w':=by
 have H:(if 2+a0.size≤9223372036854775807 then (some ((⟨#[111,47]⟩:ByteArray) ++ a0)) else (none))=some r:=h
 clear h
 by_cases c2:2+a0.size≤9223372036854775807
 ·
  rw [if_pos c2] at H
  have c2b0:=eq_true c2
  have c2b1:decide (2+a0.size≤9223372036854775807)=τ:=decide_eq_true c2
  try have c2b2:(9223372036854775807<2+a0.size)=False:=eq_false (Nat.not_lt.2 c2)
  obtain rfl:=Option.some.inj H
  go_enter Tryz.func108,Tryz.ntmps108
  go_wp2
  go_ret
  exact ⟨by rfl,by repeat (exact Drawn0.refl _)⟩
 ·
  rw [if_neg c2] at H
  exact absurd H (by simp)


open Go.Proofs.YtabmfhnhmoiljaaGreatDoorW.PrintWords renaming gate_dst → δx, below_size → δs, below_step → δr, below_set → δq

/-! ### impl_number: function 189 -/
def impl_number.l0:Nat→Int→List Int→Int→Option (ByteArray)
 | 0,_,_,_=>none
 | k+1,x0,x5,x6=>if x6 ≥ 0 then (if 0≤x6 then (if x6<(x5.length:Int) then (impl_number.l0 k (x0 / 256) (x5.set (x6:Int).toNat ((x0) % 256)) (ζm (x6 - 1))) else (none)) else (none)) else (some (strOfNums x5))
def impl_number.f (k:Nat) (a0:Int) (a1:Int):Option (ByteArray):=if 0≤a1 then (if (a1:Int).toNat≤281474976710656 then (impl_number.l0 k a0 (List.replicate (a1:Int).toNat 0) (ζm (a1 - 1))) else (none)) else (none)
set_option maxHeartbeats 8000000 in
set_option maxRecDepth 100000 in
theorem impl_number.calls (k:Nat) (a0:Int) (a1:Int) (r:ByteArray) (w:World) (h:impl_number.f k a0 a1=some r) :
  Calls Tryz.prog 189 #[.int .i64 a0,.int .i64 a1] w fun e w'=>e = .returned (.string r)∧Below w.heap.size w w':=by
 have HB:=ζa (Below.refl w.heap.size w)
 have H:(if 0≤a1 then (if (a1:Int).toNat≤281474976710656 then (impl_number.l0 k a0 (List.replicate (a1:Int).toNat 0) (ζm (a1 - 1))) else (none)) else (none))=some r:=h
 clear h
 by_cases c3:0≤a1
 ·
  rw [if_pos c3] at H
  have c3b0:=eq_true c3
  have c3b1:decide (0≤a1)=τ:=decide_eq_true c3
  clear c3
  by_cases c4:(a1:Int).toNat≤281474976710656
  ·
   rw [if_pos c4] at H
   have c4b0:=eq_true c4
   have c4b1:decide ((a1:Int).toNat≤281474976710656)=τ:=decide_eq_true c4
   clear c4
   obtain ⟨y240,hy240⟩ : ∃ y_:List Int,y_=(List.replicate (a1:Int).toNat 0):=⟨_,rfl⟩
   replace H:(impl_number.l0 k a0 y240 (ζm (a1 - 1)))=some r:=by (rw [hy240];with_reducible exact H)
   have Ny240:=ζa hy240
   clear hy240
   have H':=ζa H
   clear H
   go_enter Tryz.func189,Tryz.ntmps189
   go_wp2_with (((with_reducible refine δx (N:=8) rfl ?_);refine Kd.R_make (Kd.int .u8) _ 5 rfl (N:=8) rfl 82 _ _ rfl a1 rfl rfl Tryz.underlying82 (.int .u8 0) 1 info5 rfl (by decide) (by omega) 0 (ok:=fun _=>True) (okp:=fun _=>True) rfl (fun _ hk=>hk) trivial (of_decide_eq_true (by (with_reducible assumption))) (Nat.le_trans (Nat.mul_le_mul_right _ (of_decide_eq_true (by (with_reducible assumption)):a1.toNat≤281474976710656)) (by omega)) (Below.refl _ _) (Nat.le_refl _) ?_;intro v241 w5 ho6 hb hg_ hnew_;clear hg_ hnew_;(rw [← Ny240.out] at ho6);have n0_:=ζa (Kd.R_lower ho6 (δs (by exact HB.out)));have n1_:=ζa (δr (by exact HB.out) hb);clear HB;have HO242:=n0_;have HB:=n1_;clear n0_ n1_;clear hb ho6))
   go_loopg [0,6] k (fun kq v0 v6 w' => ∃ (x0_1:Int) (x5_1:List Int) (x6_1:Int),v0 = .int .i64 x0_1∧v6 = .int .i64 x6_1∧Aside0 (impl_number.l0 kq x0_1 x5_1 x6_1=some r)∧Aside0 (kq≤k)∧Aside0 (Kd.R (Kd.int .u8) 5 w' w.heap.size (fun _=>True) v241 x5_1)∧Aside0 (Below w.heap.size w w'))
   case atStart=>exact ⟨(a0),(y240),(ζm (a1 - 1)),(by rfl),(by rfl),H',⟨Nat.le_refl _⟩,⟨by exact HO242.out⟩,⟨by repeat ((with_reducible exact HB.out))⟩⟩
   case round =>
    clear H'
    try clear c1
    try clear p2
    try clear c3
    try clear c3b0
    try clear c3b1
    try clear c4
    try clear c4b0
    try clear c4b1
    try clear p6
    obtain ⟨x0_1,x5_1,x6_1,rfl,rfl,HA,HK1,HO_5,HB⟩:=hrel
    cases gk with
    | zero=>exact absurd HA.out (by simp [impl_number.l0])
    | succ k1 =>
     have H:=HA.out
     clear HA
     simp only [impl_number.l0] at H
     by_cases c7:x6_1 ≥ 0
     ·
      rw [if_pos c7] at H
      have c7b0:decide (0≤x6_1)=τ:=decide_eq_true c7
      clear c7
      by_cases c8:0≤x6_1
      ·
       rw [if_pos c8] at H
       have c8b0:decide (0≤x6_1)=τ:=decide_eq_true c8
       clear c8
       by_cases c9:x6_1<(x5_1.length:Int)
       ·
        rw [if_pos c9] at H
        have c9b0:decide (x6_1<(x5_1.length:Int))=τ:=decide_eq_true c9
        clear c9
        obtain ⟨y243,hy243⟩ : ∃ y_:List Int,y_=(x5_1.set (x6_1:Int).toNat ((x0_1) % 256)):=⟨_,rfl⟩
        replace H:(impl_number.l0 k1 (x0_1 / 256) y243 (ζm (x6_1 - 1)))=some r:=by (rw [hy243];with_reducible exact H)
        have Ny243:=ζa hy243
        clear hy243
        have H':=ζa H
        clear H
        have p10:0≤(x6_1:Int):=of_decide_eq_true (by (with_reducible assumption))
        have q10:(x6_1:Int)<((x5_1.length:Int):Int):=of_decide_eq_true (by (with_reducible assumption))
        obtain ⟨go10,co10,eo10,gb10,gl10,cl10,HG10⟩:=Kd.R_form HO_5.out (by omega)
        (cases eo10)
        have GB10:=ζa gb10
        have GG10:=ζa HG10
        clear gb10 gl10 HG10
        obtain ⟨hx10_0,hf10_0⟩:=Kd.R_celln 0 HO_5.out (x6_1:Int) p10 q10
        replace p10:=eq_true p10
        replace q10:=eq_true q10
        have HP11:=Kd.R_putg HO_5.out (x6_1:Int) ((x0_1) % 256)
        go_wp2_with (((with_reducible refine gate_store (t:=5) (p:=19) rfl ?_);refine store_event (t:=5) (p:=19) (v:=?vo_w12) (w1:=(wr.setCell ⟨go10,(x6_1:Int).toNat,none⟩ (.int .u8 ((x0_1) % 256)))) ?hg ?ho ?hn ?hr ?_;(case ho=>rfl);(case hg=>rfl);(case hn=>rfl);(case hr=>(go_simp;done));intro w12 hw;have hg:wr.grownBy w12 (some go10):=(by rw [hw];exact HP11.2);have hp_:Kd.R (Kd.int .u8) 5 w12 w.heap.size (fun _=>True) (.slice (some ⟨go10,0,none⟩) x5_1.length co10) y243:=(by rw [hw,Ny243.out];exact HP11.1);clear HP11;have n0_:=ζa (hp_);have n1_:=ζa ((by rw [hw];exact δq (HB.out) GB10.out:Below w.heap.size w w12));clear HO_5;clear HB;have HO_5:=n0_;have HB:=n1_;clear n0_ n1_;clear hg hw hp_))
        go_roundg k1
        case measure=>have:=HK1.out;omega
        case rel=>exact ⟨(x0_1 / 256),(y243),(ζm (x6_1 - 1)),(by rfl),(by rfl),H',⟨by have:=HK1.out;omega⟩,⟨by exact HO_5.out⟩,⟨by repeat ((with_reducible exact HB.out))⟩⟩
       ·
        rw [if_neg c9] at H
        exact absurd H (by simp)
      ·
       rw [if_neg c8] at H
       exact absurd H (by simp)
     ·
      rw [if_neg c7] at H
      have c7b0:decide (0≤x6_1)=φ:=decide_eq_false c7
      clear c7
      obtain rfl:=Option.some.inj H
      have hcv13:=own_string (P:=Tryz.prog) Tryz.underlying82 Tryz.underlying5 Tryz.underlying9 (Kd.own_of_R HO_5.out)
      go_wp2
      go_ret
      exact ⟨by rfl,by repeat ((with_reducible exact HB.out))⟩
  ·
   rw [if_neg c4] at H
   exact absurd H (by simp)
 ·
  rw [if_neg c3] at H
  exact absurd H (by simp)



/-! ### impl_fields: function 146 -/
def impl_fields.l0:Nat→ByteArray→List ByteArray→Int→Int→Option (ByteArray)
 | 0,_,_,_,_=>none
 | k+1,x3,x9,x10,x11=>if x11<x10 then (if 0≤x11 then (if x11<(x9.length:Int) then ((impl_number.f k ((rdOf ByteArray.empty x9 x11).size:Int) 2).bind fun t246=>(if t246.size+(rdOf ByteArray.empty x9 x11).size≤9223372036854775807 then (if x3.size+(t246 ++ (rdOf ByteArray.empty x9 x11)).size≤9223372036854775807 then (impl_fields.l0 k (x3 ++ (t246 ++ (rdOf ByteArray.empty x9 x11))) x9 x10 (ζm (x11+1))) else (none)) else (none))) else (none)) else (none)) else (some x3)
def impl_fields.f (k:Nat) (l0:List ByteArray):Option (ByteArray):=(impl_number.f k (l0.length:Int) 1).bind fun t244=>(impl_fields.l0 k t244 l0 (l0.length:Int) 0)
set_option maxHeartbeats 8000000 in
set_option maxRecDepth 100000 in
theorem impl_fields.calls (k:Nat) (A0:Option Addr) (c0:Nat) (l0:List ByteArray) (r:ByteArray) (w:World) (hr0:Kd.C Kd.string w A0 l0.length l0) (hc0:l0.length≤c0) (h:impl_fields.f k l0=some r) :
  Calls Tryz.prog 146 #[.slice A0 l0.length c0] w fun e w'=>e = .returned (.string r)∧Below w.heap.size w w':=by
 have HR0:=ζa hr0
 have HC0:=ζa hc0
 clear hr0 hc0
 have HB:=ζa (Below.refl w.heap.size w)
 have H:((impl_number.f k (l0.length:Int) 1).bind fun t244=>(impl_fields.l0 k t244 l0 (l0.length:Int) 0))=some r:=h
 clear h
 replace H:=Option.bind_eq_some_iff.mp H
 obtain ⟨t244,A20,H⟩:=H
 replace H:(impl_fields.l0 k t244 l0 (l0.length:Int) 0)=some r:=H
 have A2:=ζa A20
 clear A20
 have H':=ζa H
 clear H
 go_enter Tryz.func146,Tryz.ntmps146
 go_wp2_with (((with_reducible refine δv (f:=189) rfl ?_);refine goesL_ (some 8) rfl rfl Tryz.func189 (by kernel_rfl) rfl #[.int .i64 (l0.length:Int),.int .i64 1] rfl (by (try simp only [δd,δe,δf]);rfl) ?_;(with_reducible refine (impl_number.calls k (l0.length:Int) 1 t244 _ A2.out).mono ?_);rintro e w3 ⟨rfl,hb⟩;refine ⟨_,rfl,?_⟩;have n0_:=ζa (δr (by exact HB.out) hb);clear HB;have HB:=n0_;clear n0_;(try clear hb);(try clear hb2);(try clear hk);(try clear hi)))
 go_loopg [3,11] k (fun kq v3 v11 w' => ∃ (x3_1:ByteArray) (x11_1:Int),v3 = .string x3_1∧v11 = .int .i64 x11_1∧Aside0 (impl_fields.l0 kq x3_1 l0 (l0.length:Int) x11_1=some r)∧Aside0 (kq≤k)∧Aside0 (Below w.heap.size w w'))
 case atStart=>exact ⟨(t244),(0),(by rfl),(by rfl),H',⟨Nat.le_refl _⟩,⟨by repeat ((with_reducible exact HB.out))⟩⟩
 case round =>
  clear H'
  try clear c1
  try clear p2
  obtain ⟨x3_1,x11_1,rfl,rfl,HA,HK1,HB⟩:=hrel
  cases gk with
  | zero=>exact absurd HA.out (by simp [impl_fields.l0])
  | succ k1 =>
   have H:=HA.out
   clear HA
   simp only [impl_fields.l0] at H
   by_cases c4:x11_1<(l0.length:Int)
   ·
    rw [if_pos c4] at H
    have c4b0:decide (x11_1<(l0.length:Int))=τ:=decide_eq_true c4
    clear c4
    by_cases c5:0≤x11_1
    ·
     rw [if_pos c5] at H
     have c5b0:decide (0≤x11_1)=τ:=decide_eq_true c5
     clear c5
     by_cases c6:x11_1<(l0.length:Int)
     ·
      rw [if_pos c6] at H
      have c6b0:decide (x11_1<(l0.length:Int))=τ:=decide_eq_true c6
      clear c6
      replace H:=Option.bind_eq_some_iff.mp H
      obtain ⟨t246,A70,H⟩:=H
      replace H:(if t246.size+(rdOf ByteArray.empty l0 x11_1).size≤9223372036854775807 then (if x3_1.size+(t246 ++ (rdOf ByteArray.empty l0 x11_1)).size≤9223372036854775807 then (impl_fields.l0 k1 (x3_1 ++ (t246 ++ (rdOf ByteArray.empty l0 x11_1))) l0 (l0.length:Int) (ζm (x11_1+1))) else (none)) else (none))=some r:=H
      have A7:=ζa A70
      clear A70
      by_cases c8:t246.size+(rdOf ByteArray.empty l0 x11_1).size≤9223372036854775807
      ·
       rw [if_pos c8] at H
       have c8b0:=eq_true c8
       have c8b1:decide (t246.size+(rdOf ByteArray.empty l0 x11_1).size≤9223372036854775807)=τ:=decide_eq_true c8
       try have c8b2:(9223372036854775807<t246.size+(rdOf ByteArray.empty l0 x11_1).size)=False:=eq_false (Nat.not_lt.2 c8)
       by_cases c9:x3_1.size+(t246 ++ (rdOf ByteArray.empty l0 x11_1)).size≤9223372036854775807
       ·
        rw [if_pos c9] at H
        have c9b0:=eq_true c9
        have c9b1:decide (x3_1.size+(t246 ++ (rdOf ByteArray.empty l0 x11_1)).size≤9223372036854775807)=τ:=decide_eq_true c9
        try have c9b2:(9223372036854775807<x3_1.size+(t246 ++ (rdOf ByteArray.empty l0 x11_1)).size)=False:=eq_false (Nat.not_lt.2 c9)
        have H':=ζa H
        clear H
        have p245:0≤(x11_1:Int):=of_decide_eq_true (by (with_reducible assumption))
        have q245:x11_1<(l0.length:Int):=of_decide_eq_true (by (with_reducible assumption))
        obtain ⟨ad245,e245,hx245_0⟩:=Kd.at_string HR0.out x11_1 p245 q245
        cases e245
        replace hx245_0:=(HB.out.cell (World.block_lt_of_cell? w _ hx245_0)).trans hx245_0
        replace p245:=eq_true p245
        replace q245:=eq_true q245
        go_wp2_with (((with_reducible refine δv (f:=189) rfl ?_);refine goesL_ (some 18) rfl rfl Tryz.func189 (by kernel_rfl) rfl #[.int .i64 ((rdOf ByteArray.empty l0 x11_1).size:Int),.int .i64 2] rfl (by (try simp only [δd,δe,δf]);rfl) ?_;(with_reducible refine (impl_number.calls k1 ((rdOf ByteArray.empty l0 x11_1).size:Int) 2 t246 _ A7.out).mono ?_);rintro e w10 ⟨rfl,hb⟩;refine ⟨_,rfl,?_⟩;have n0_:=ζa (δr (by exact HB.out) hb);clear HB;have HB:=n0_;clear n0_;(try clear hb);(try clear hb2);(try clear hk);(try clear hi)))
        go_roundg k1
        case measure=>have:=HK1.out;omega
        case rel=>exact ⟨(x3_1 ++ (t246 ++ (rdOf ByteArray.empty l0 x11_1))),(ζm (x11_1+1)),(by rfl),(by rfl),H',⟨by have:=HK1.out;omega⟩,⟨by repeat ((with_reducible exact HB.out))⟩⟩
       ·
        rw [if_neg c9] at H
        exact absurd H (by simp)
      ·
       rw [if_neg c8] at H
       exact absurd H (by simp)
     ·
      rw [if_neg c6] at H
      exact absurd H (by simp)
    ·
     rw [if_neg c5] at H
     exact absurd H (by simp)
   ·
    rw [if_neg c4] at H
    have c4b0:decide (x11_1<(l0.length:Int))=φ:=decide_eq_false c4
    clear c4
    obtain rfl:=Option.some.inj H
    go_wp2
    go_ret
    exact ⟨by rfl,by repeat ((with_reducible exact HB.out))⟩


open Go.Proofs.YtabmfhnhmoiljaaGreatDoorW.PrintWords renaming gate_dst → δx, box_event → δz, below_step → δr, below_size → δs, blk_cell → δl, blk_frozen → δm, blk_drew → δp, below_drew1 → δj
open List renaming setIfInBounds_toArray → δa, set_cons_zero → δb, set_cons_succ → δc, map_toArray → δd, map_cons → δe, map_nil → δf
open Go.Proofs.YtabmfhnhmoiljaaGreatDoorW.PrintLast renaming pure_ → ζk, any_of → ζj
open Go.Proofs.YtabmfhnhmoiljaaGreatDoorW.PrintWords.Kd renaming R_reads' → ζg, R_below → ζh

/-! ### impl_Order_value: function 166 -/
def impl_Order_value.j0:Nat→ByteArray→ByteArray→ByteArray→Int→Int→Int→Bool→Option (ByteArray)
 | 0,_,_,_,_,_,_,_=>none
 | k+1,x3,x639000,x639001,x639002,x639003,x639004,x639005=>(impl_amountText.f x639002).bind fun t639=>((impl_amountText.f x639003).bind fun t640=>((impl_amountText.f x639004).bind fun t641=>((impl_fields.f k (([x639001,t639,t640,t641,x3]:List ByteArray))).bind fun t645=>(some t645))))
def impl_Order_value.f (k:Nat) (a0_0:ByteArray) (a0_1:ByteArray) (a0_2:Int) (a0_3:Int) (a0_4:Int) (a0_5:Bool):Option (ByteArray):=if a0_5=τ then (impl_Order_value.j0 k (⟨#[111,112,101,110]⟩:ByteArray) a0_0 a0_1 a0_2 a0_3 a0_4 a0_5) else (impl_Order_value.j0 k (⟨#[99,108,111,115,101,100]⟩:ByteArray) a0_0 a0_1 a0_2 a0_3 a0_4 a0_5)
def impl_Order_value.T4:Bool × List (List Nat × List Nat):=(τ,[([],[]),([0],[0]),([],[]),([2],[2]),([3],[3]),([],[]),([5],[5]),([6,4],[6]),([],[]),([8],[8]),([9,7],[9]),([],[]),([1,4,7,10,11],[1,4,7,10,11]),([12,10],[12]),([13,13,0,1,2,3,4,5,6,7,8,9,10,11,12,13],[13])])
def impl_Order_value.B4:List Nat:=[0,1,0,4,12,0,32,124,0,256,1020,0,4095,8191,16383]
theorem impl_Order_value.tab4:rtab .any (opsOf Tryz.f166 4)=impl_Order_value.T4:=by kernel_rfl
theorem impl_Order_value.bits4:waitsOk impl_Order_value.T4.2 impl_Order_value.B4=τ:=by kernel_rfl
set_option maxHeartbeats 8000000 in
set_option maxRecDepth 100000 in
theorem impl_Order_value.calls (k:Nat) (a0_0:ByteArray) (a0_1:ByteArray) (a0_2:Int) (a0_3:Int) (a0_4:Int) (a0_5:Bool) (r:ByteArray) (w:World) (hT0:TabsOK w) (h:impl_Order_value.f k a0_0 a0_1 a0_2 a0_3 a0_4 a0_5=some r) :
  Calls Tryz.prog 166 #[.agg #[.string a0_0,.string a0_1,.int .i64 a0_2,.int .i64 a0_3,.int .i64 a0_4,.bool a0_5]] w fun e w'=>e = .returned (.string r)∧Below w.heap.size w w':=by
 have HT0:=ζa hT0
 clear hT0
 have hu66:=Tryz.underlying66
 have HB:=ζa (Below.refl w.heap.size w)
 have H:(if a0_5=τ then (impl_Order_value.j0 k (⟨#[111,112,101,110]⟩:ByteArray) a0_0 a0_1 a0_2 a0_3 a0_4 a0_5) else (impl_Order_value.j0 k (⟨#[99,108,111,115,101,100]⟩:ByteArray) a0_0 a0_1 a0_2 a0_3 a0_4 a0_5))=some r:=h
 clear h
 have HC2:=ζa H
 clear H
 go_enter Tryz.func166,Tryz.ntmps166
 go_upto_if 5 with (((with_reducible refine δx (N:=1) rfl ?_);refine δz ?hg (N:=1) ?hd (cs:=#[.string a0_0,.string a0_1,.int .i64 a0_2,.int .i64 a0_3,.int .i64 a0_4,.bool a0_5]) (t:=66) ?hr ?_;(case hd=>rfl);(case hg=>rfl);(case hr=>(go_simp;done));intro gb638 hg w3 hbox hb;have n0_:=ζa (δr (by exact HB.out) hb);have n1_:=ζa (hbox);have n2_:=ζa ((by rw [hg];exact (δs (by exact HB.out)):w.heap.size≤gb638));have n3_:=ζa ((by rw [hg];exact (δs (by exact HB.out)):w.heap.size≤gb638));clear HB;have HB:=n0_;have BK638:=n1_;have GW638:=n2_;have GE638:=n3_;clear n0_ n1_ n2_ n3_;clear hb hbox hg;have hcz4_0:w3.cell? ⟨gb638,0,none⟩=some (.string a0_0):=(δl BK638.out 0).trans rfl;have hcz4_1:w3.cell? ⟨gb638,1,none⟩=some (.string a0_1):=(δl BK638.out 1).trans rfl;have hcz4_2:w3.cell? ⟨gb638,2,none⟩=some (.int .i64 a0_2):=(δl BK638.out 2).trans rfl;have hcz4_3:w3.cell? ⟨gb638,3,none⟩=some (.int .i64 a0_3):=(δl BK638.out 3).trans rfl;have hcz4_4:w3.cell? ⟨gb638,4,none⟩=some (.int .i64 a0_4):=(δl BK638.out 4).trans rfl;have hcz4_5:w3.cell? ⟨gb638,5,none⟩=some (.bool a0_5):=(δl BK638.out 5).trans rfl;have hfz4_0:=δm BK638.out 0;have hfz4_1:=δm BK638.out 1;have hfz4_2:=δm BK638.out 2;have hfz4_3:=δm BK638.out 3;have hfz4_4:=δm BK638.out 4;have hfz4_5:=δm BK638.out 5))
 (try simp only [ζl,δa,δb,δc])
 go_cut [3] (fun v3 wc => ∃ (kq:Nat) (x3_1:ByteArray),v3 = .string x3_1∧Aside0 (impl_Order_value.j0 kq x3_1 a0_0 a0_1 a0_2 a0_3 a0_4 a0_5=some r)∧Aside0 (kq≤k)∧Aside0 (wc.heap[gb638]? = some (.cells #[.string a0_0,.string a0_1,.int .i64 a0_2,.int .i64 a0_3,.int .i64 a0_4,.bool a0_5] 66 (0,0)))∧Aside0 (Below w.heap.size w wc))
 case first =>
  have H:=HC2.out
  clear HC2
  by_cases c5:a0_5=τ
  ·
   subst c5
   have H1:(impl_Order_value.j0 k (⟨#[111,112,101,110]⟩:ByteArray) a0_0 a0_1 a0_2 a0_3 a0_4 τ)=some r:=by rw [if_pos rfl] at H;exact H
   clear H
   have H:=H1
   clear H1
   have H':=ζa H
   clear H
   go_wp2
   go_meet
   case rel=>exact ⟨_,((⟨#[111,112,101,110]⟩:ByteArray)),(by rfl),H',⟨by omega⟩,⟨by exact BK638.out⟩,⟨by repeat ((with_reducible exact HB.out))⟩⟩
  ·
   replace c5:=Bool.eq_false_iff.mpr c5
   subst c5
   have H1:(impl_Order_value.j0 k (⟨#[99,108,111,115,101,100]⟩:ByteArray) a0_0 a0_1 a0_2 a0_3 a0_4 φ)=some r:=by rw [if_neg (show ¬ (φ=τ) by decide)] at H;exact H
   clear H
   have H:=H1
   clear H1
   have H':=ζa H
   clear H
   go_wp2
   go_meet
   case rel=>exact ⟨_,((⟨#[99,108,111,115,101,100]⟩:ByteArray)),(by rfl),H',⟨by omega⟩,⟨by exact BK638.out⟩,⟨by repeat ((with_reducible exact HB.out))⟩⟩
 case rest =>
  clear HC2
  try clear c1
  try clear p2
  try clear c5
  try clear hcz4_0
  try clear hcz4_1
  try clear hcz4_2
  try clear hcz4_3
  try clear hcz4_4
  try clear hcz4_5
  try clear hfz4_0
  try clear hfz4_1
  try clear hfz4_2
  try clear hfz4_3
  try clear hfz4_4
  try clear hfz4_5
  obtain ⟨kq,x3_1,rfl,HA,HJ1,BK638,HB⟩:=hcut
  cases kq with
  | zero=>exact absurd HA.out (by simp [impl_Order_value.j0])
  | succ kj1 =>
   have H:=HA.out
   clear HA
   simp only [impl_Order_value.j0] at H
   replace H:=Option.bind_eq_some_iff.mp H
   obtain ⟨t639,A60,H⟩:=H
   replace H:((impl_amountText.f a0_3).bind fun t640=>((impl_amountText.f a0_4).bind fun t641=>((impl_fields.f kj1 (([a0_1,t639,t640,t641,x3_1]:List ByteArray))).bind fun t645=>(some t645))))=some r:=H
   have A6:=ζa A60
   clear A60
   replace H:=Option.bind_eq_some_iff.mp H
   obtain ⟨t640,A70,H⟩:=H
   replace H:((impl_amountText.f a0_4).bind fun t641=>((impl_fields.f kj1 (([a0_1,t639,t640,t641,x3_1]:List ByteArray))).bind fun t645=>(some t645)))=some r:=H
   have A7:=ζa A70
   clear A70
   replace H:=Option.bind_eq_some_iff.mp H
   obtain ⟨t641,A80,H⟩:=H
   replace H:((impl_fields.f kj1 (([a0_1,t639,t640,t641,x3_1]:List ByteArray))).bind fun t645=>(some t645))=some r:=H
   have A8:=ζa A80
   clear A80
   obtain ⟨y642,hy642⟩ : ∃ y_:List ByteArray,y_=(([a0_1,t639,t640,t641,x3_1]:List ByteArray)):=⟨_,rfl⟩
   replace H:((impl_fields.f kj1 y642).bind fun t645=>(some t645))=some r:=by (rw [hy642];with_reducible exact H)
   have Ny642:=ζa hy642
   clear hy642
   replace H:=Option.bind_eq_some_iff.mp H
   obtain ⟨t645,A90,H⟩:=H
   replace H:(some t645)=some r:=H
   have A9:=ζa A90
   clear A90
   obtain rfl:=Option.some.inj H
   try go_wp2
   have n0_:=ζa (δp BK638.out)
   have n1_:=ζa (δj HB.out)
   clear BK638
   clear HB
   have BK638:=n0_
   have HB:=n1_
   clear n0_ n1_
   refine start_ (n:=15) (S:=fun w'=>w'.cell? ⟨gb638,0,none⟩=some (.string a0_0)∧w'.cell? ⟨gb638,1,none⟩=some (.string a0_1)∧w'.cell? ⟨gb638,2,none⟩=some (.int .i64 a0_2)∧w'.cell? ⟨gb638,3,none⟩=some (.int .i64 a0_3)∧w'.cell? ⟨gb638,4,none⟩=some (.int .i64 a0_4)∧w'.cell? ⟨gb638,5,none⟩=some (.bool a0_5)) (ds:=[]) #[φ,φ,φ,φ,φ,φ,φ,φ,φ,φ,φ,φ,φ,φ,φ] (by kernel_rfl) rfl rfl ⟨(δl BK638.out 0).trans rfl,(δl BK638.out 1).trans rfl,(δl BK638.out 2).trans rfl,(δl BK638.out 3).trans rfl,(δl BK638.out 4).trans rfl,(δl BK638.out 5).trans rfl⟩ (fun hHeld => ?_);refine with_tabW impl_Order_value.tab4 impl_Order_value.bits4 (fun HT_ HW_ => ?_)
   generalize wc.drew=w10 at BK638 HB hHeld ⊢
   refine ζk (i:=0) (N:=some 6) (v:=?_) (a':=?_) #[τ,φ,φ,φ,φ,φ,φ,φ,φ,φ,φ,φ,φ,φ,φ] rfl rfl (ζj HT_.out (by kernel_rfl)) (fun _ _ _ h=>h) (Or.inl ⟨by rfl,?_⟩) ?_ ?_
   rotate_left
   · intro w';go_simp;with_reducible rfl
   rotate_left
   · simp only [ζl,δa,δb,δc,i64_w,i32_w];rfl
   refine ζk (i:=2) (N:=some 8) (v:=?_) (a':=?_) #[τ,φ,τ,φ,φ,φ,φ,φ,φ,φ,φ,φ,φ,φ,φ] rfl rfl (ζj HT_.out (by kernel_rfl)) (fun _ _ _ h=>h) (Or.inl ⟨by rfl,?_⟩) ?_ ?_
   rotate_left
   · intro w';go_simp;with_reducible rfl
   rotate_left
   · simp only [ζl,δa,δb,δc,i64_w,i32_w];rfl
   refine ζk (i:=5) (N:=some 11) (v:=?_) (a':=?_) #[τ,φ,τ,φ,φ,τ,φ,φ,φ,φ,φ,φ,φ,φ,φ] rfl rfl (ζj HT_.out (by kernel_rfl)) (fun _ _ _ h=>h) (Or.inl ⟨by rfl,?_⟩) ?_ ?_
   rotate_left
   · intro w';go_simp;with_reducible rfl
   rotate_left
   · simp only [ζl,δa,δb,δc,i64_w,i32_w];rfl
   refine ζk (i:=8) (N:=some 14) (v:=?_) (a':=?_) #[τ,φ,τ,φ,φ,τ,φ,φ,τ,φ,φ,φ,φ,φ,φ] rfl rfl (ζj HT_.out (by kernel_rfl)) (fun _ _ _ h=>h) (Or.inl ⟨by rfl,?_⟩) ?_ ?_
   rotate_left
   · intro w';go_simp;with_reducible rfl
   rotate_left
   · simp only [ζl,δa,δb,δc,i64_w,i32_w];rfl
   refine ζk (i:=11) (N:=some 17) (v:=?_) (a':=?_) #[τ,φ,τ,φ,φ,τ,φ,φ,τ,φ,φ,τ,φ,φ,φ] rfl rfl (ζj HT_.out (by kernel_rfl)) (fun _ _ _ h=>h) (Or.inl ⟨by rfl,?_⟩) ?_ ?_
   rotate_left
   · intro w';go_simp;with_reducible rfl
   rotate_left
   · simp only [ζl,δa,δb,δc,i64_w,i32_w];rfl
   refine take_ (i:=1) (N:=some 7) (v:=?_) (a':=?_) #[τ,τ,τ,φ,φ,τ,φ,φ,τ,φ,φ,τ,φ,φ,φ] rfl rfl (take_ofW HT_.out HW_.out (by kernel_rfl)) (fun _ _ _ h=>h) (Or.inl ⟨by rfl,?_⟩) hHeld ?_ ?_
   rotate_left
   · rintro w' ⟨s0,s1,s2,s3,s4,s5⟩;go_simp;with_reducible rfl
   rotate_left
   · simp only [ζl,δa,δb,δc,i64_w,i32_w];rfl
   refine take_ (i:=3) (N:=some 9) (v:=?_) (a':=?_) #[τ,τ,τ,τ,φ,τ,φ,φ,τ,φ,φ,τ,φ,φ,φ] rfl rfl (take_ofW HT_.out HW_.out (by kernel_rfl)) (fun _ _ _ h=>h) (Or.inl ⟨by rfl,?_⟩) hHeld ?_ ?_
   rotate_left
   · rintro w' ⟨s0,s1,s2,s3,s4,s5⟩;go_simp;with_reducible rfl
   rotate_left
   · simp only [ζl,δa,δb,δc,i64_w,i32_w];rfl
   refine take_ (i:=6) (N:=some 12) (v:=?_) (a':=?_) #[τ,τ,τ,τ,φ,τ,τ,φ,τ,φ,φ,τ,φ,φ,φ] rfl rfl (take_ofW HT_.out HW_.out (by kernel_rfl)) (fun _ _ _ h=>h) (Or.inl ⟨by rfl,?_⟩) hHeld ?_ ?_
   rotate_left
   · rintro w' ⟨s0,s1,s2,s3,s4,s5⟩;go_simp;with_reducible rfl
   rotate_left
   · simp only [ζl,δa,δb,δc,i64_w,i32_w];rfl
   refine take_ (i:=9) (N:=some 15) (v:=?_) (a':=?_) #[τ,τ,τ,τ,φ,τ,τ,φ,τ,τ,φ,τ,φ,φ,φ] rfl rfl (take_ofW HT_.out HW_.out (by kernel_rfl)) (fun _ _ _ h=>h) (Or.inl ⟨by rfl,?_⟩) hHeld ?_ ?_
   rotate_left
   · rintro w' ⟨s0,s1,s2,s3,s4,s5⟩;go_simp;with_reducible rfl
   rotate_left
   · simp only [ζl,δa,δb,δc,i64_w,i32_w];rfl
   refine one_ (i:=4) (N:=some 10) #[τ,τ,τ,τ,τ,τ,τ,φ,τ,τ,φ,τ,φ,φ,φ] rfl rfl (one_of HT_.out (by kernel_rfl)) (by decide) (fun K hK => ?_)
   refine goes_ Tryz.func147 (by kernel_rfl) rfl #[.int .i64 a0_2] (by rfl) rfl rfl (by (try simp only [δd,δe,δf]);rfl) ?_
   with_reducible refine (impl_amountText.calls a0_2 t639 _ (HT0.out.below (by exact HB.out)) A6.out).mono ?_
   rintro e w11 ⟨rfl,hb⟩
   refine ⟨_,rfl,?_⟩
   have n0_:=ζa (blk_below (g:=gb638) (o:=.cells #[.string a0_0,.string a0_1,.int .i64 a0_2,.int .i64 a0_3,.int .i64 a0_4,.bool a0_5] 66 (0,0)) (by exact BK638.out) hb)
   have n1_:=ζa (δr (by exact HB.out) hb)
   clear BK638
   clear HB
   have BK638:=n0_
   have HB:=n1_
   clear n0_ n1_
   (try clear hb)
   (try clear hb2)
   (try clear hk)
   (try clear hi)
   refine hK.out _ _ ⟨(δl BK638.out 0).trans rfl,(δl BK638.out 1).trans rfl,(δl BK638.out 2).trans rfl,(δl BK638.out 3).trans rfl,(δl BK638.out 4).trans rfl,(δl BK638.out 5).trans rfl⟩ (fun hHeld => ?_)
   clear hK K
   refine norm_ (a':=?_) ?_ ?_
   rotate_left
   ·
    show ζl _ (some 10) _=_
    simp only [ζl,δa,δb,δc,i64_w,i32_w];rfl
   refine one_ (i:=7) (N:=some 13) #[τ,τ,τ,τ,τ,τ,τ,τ,τ,τ,φ,τ,φ,φ,φ] rfl rfl (one_of HT_.out (by kernel_rfl)) (by decide) (fun K hK => ?_)
   refine goes_ Tryz.func147 (by kernel_rfl) rfl #[.int .i64 a0_3] (by rfl) rfl rfl (by (try simp only [δd,δe,δf]);rfl) ?_
   with_reducible refine (impl_amountText.calls a0_3 t640 _ (HT0.out.below (by exact HB.out)) A7.out).mono ?_
   rintro e w12 ⟨rfl,hb⟩
   refine ⟨_,rfl,?_⟩
   have n0_:=ζa (blk_below (g:=gb638) (o:=.cells #[.string a0_0,.string a0_1,.int .i64 a0_2,.int .i64 a0_3,.int .i64 a0_4,.bool a0_5] 66 (0,0)) (by exact BK638.out) hb)
   have n1_:=ζa (δr (by exact HB.out) hb)
   clear BK638
   clear HB
   have BK638:=n0_
   have HB:=n1_
   clear n0_ n1_
   (try clear hb)
   (try clear hb2)
   (try clear hk)
   (try clear hi)
   refine hK.out _ _ ⟨(δl BK638.out 0).trans rfl,(δl BK638.out 1).trans rfl,(δl BK638.out 2).trans rfl,(δl BK638.out 3).trans rfl,(δl BK638.out 4).trans rfl,(δl BK638.out 5).trans rfl⟩ (fun hHeld => ?_)
   clear hK K
   refine norm_ (a':=?_) ?_ ?_
   rotate_left
   ·
    show ζl _ (some 13) _=_
    simp only [ζl,δa,δb,δc,i64_w,i32_w];rfl
   refine one_ (i:=10) (N:=some 16) #[τ,τ,τ,τ,τ,τ,τ,τ,τ,τ,τ,τ,φ,φ,φ] rfl rfl (one_of HT_.out (by kernel_rfl)) (by decide) (fun K hK => ?_)
   refine goes_ Tryz.func147 (by kernel_rfl) rfl #[.int .i64 a0_4] (by rfl) rfl rfl (by (try simp only [δd,δe,δf]);rfl) ?_
   with_reducible refine (impl_amountText.calls a0_4 t641 _ (HT0.out.below (by exact HB.out)) A8.out).mono ?_
   rintro e w13 ⟨rfl,hb⟩
   refine ⟨_,rfl,?_⟩
   have n0_:=ζa (blk_below (g:=gb638) (o:=.cells #[.string a0_0,.string a0_1,.int .i64 a0_2,.int .i64 a0_3,.int .i64 a0_4,.bool a0_5] 66 (0,0)) (by exact BK638.out) hb)
   have n1_:=ζa (δr (by exact HB.out) hb)
   clear BK638
   clear HB
   have BK638:=n0_
   have HB:=n1_
   clear n0_ n1_
   (try clear hb)
   (try clear hb2)
   (try clear hk)
   (try clear hi)
   refine hK.out _ _ ⟨(δl BK638.out 0).trans rfl,(δl BK638.out 1).trans rfl,(δl BK638.out 2).trans rfl,(δl BK638.out 3).trans rfl,(δl BK638.out 4).trans rfl,(δl BK638.out 5).trans rfl⟩ (fun hHeld => ?_)
   clear hK K
   refine norm_ (a':=?_) ?_ ?_
   rotate_left
   ·
    show ζl _ (some 16) _=_
    simp only [ζl,δa,δb,δc,i64_w,i32_w];rfl
   refine one_ (i:=12) (N:=some 18) #[τ,τ,τ,τ,τ,τ,τ,τ,τ,τ,τ,τ,τ,φ,φ] rfl rfl (one_of HT_.out (by kernel_rfl)) (by decide) (fun K hK => ?_)
   refine Kd.R_lit_step Kd.string _ 9 ?hg (N:=18) ?hd (xs:=([a0_1,t639,t640,t641,x3_1]:List ByteArray)) (inner:=[.string a0_1,.string t639,.string t640,.string t641,.string x3_1]) (ok:=fun _=>True) (okp:=fun _=>True) ?hr ?hp (fun _ hk=>hk) trivial (Below.refl _ _) (Nat.le_refl _) (by simp) ?_;(case hd=>rfl);(case hg=>rfl);(case hr=>(go_simp;done));(case hp=>exact (Reps.one (show Kd.M Kd.string _ _ _ a0_1 [.string a0_1] from rfl) (Reps.one (show Kd.M Kd.string _ _ _ t639 [.string t639] from rfl) (Reps.one (show Kd.M Kd.string _ _ _ t640 [.string t640] from rfl) (Reps.one (show Kd.M Kd.string _ _ _ t641 [.string t641] from rfl) (Reps.one (show Kd.M Kd.string _ _ _ x3_1 [.string x3_1] from rfl) (Reps.none _ _)))))))
   intro v643 w14 ho15 hb hg_ hnew_
   clear hg_ hnew_
   (rw [← Ny642.out] at ho15)
   have n0_:=ζa (Kd.R_lower ho15 (δs (by exact HB.out)))
   have n1_:=ζa (blk_below (g:=gb638) (o:=.cells #[.string a0_0,.string a0_1,.int .i64 a0_2,.int .i64 a0_3,.int .i64 a0_4,.bool a0_5] 66 (0,0)) (by exact BK638.out) hb)
   have n2_:=ζa (δr (by exact HB.out) hb)
   clear BK638
   clear HB
   have HO644:=n0_
   have BK638:=n1_
   have HB:=n2_
   clear n0_ n1_ n2_
   clear hb ho15
   obtain ⟨Ao16,co16,eo16⟩:=Kd.R_slice HO644.out
   (subst eo16)
   refine hK.out _ _ ⟨(δl BK638.out 0).trans rfl,(δl BK638.out 1).trans rfl,(δl BK638.out 2).trans rfl,(δl BK638.out 3).trans rfl,(δl BK638.out 4).trans rfl,(δl BK638.out 5).trans rfl⟩ (fun hHeld => ?_)
   clear hK K
   refine norm_ (a':=?_) ?_ ?_
   rotate_left
   ·
    show ζl _ (some 18) _=_
    simp only [ζl,δa,δb,δc,i64_w,i32_w];rfl
   refine one_ (i:=13) (N:=some 19) #[τ,τ,τ,τ,τ,τ,τ,τ,τ,τ,τ,τ,τ,τ,φ] rfl rfl (one_of HT_.out (by kernel_rfl)) (by decide) (fun K hK => ?_)
   refine goes_ Tryz.func146 (by kernel_rfl) rfl #[.slice Ao16 y642.length co16] (by rfl) rfl rfl (by (try simp only [δd,δe,δf]);rfl) ?_
   with_reducible refine (impl_fields.calls kj1 _ _ y642 t645 _ ?side1 ?side2 A9.out).mono ?_
   (case side1=>repeat (exact (ζg HO644.out).2.2))
   (case side2=>exact (ζg HO644.out).2.1)
   rintro e w17 ⟨rfl,hb⟩
   refine ⟨_,rfl,?_⟩
   have n0_:=ζa (ζh (by exact HO644.out) hb)
   have n1_:=ζa (blk_below (g:=gb638) (o:=.cells #[.string a0_0,.string a0_1,.int .i64 a0_2,.int .i64 a0_3,.int .i64 a0_4,.bool a0_5] 66 (0,0)) (by exact BK638.out) hb)
   have n2_:=ζa (δr (by exact HB.out) hb)
   clear HO644
   clear BK638
   clear HB
   have HO644:=n0_
   have BK638:=n1_
   have HB:=n2_
   clear n0_ n1_ n2_
   (try clear hb)
   (try clear hb2)
   (try clear hk)
   (try clear hi)
   refine hK.out _ _ ⟨(δl BK638.out 0).trans rfl,(δl BK638.out 1).trans rfl,(δl BK638.out 2).trans rfl,(δl BK638.out 3).trans rfl,(δl BK638.out 4).trans rfl,(δl BK638.out 5).trans rfl⟩ (fun hHeld => ?_)
   clear hK K
   refine norm_ (a':=?_) ?_ ?_
   rotate_left
   ·
    show ζl _ (some 19) _=_
    simp only [ζl,δa,δb,δc,i64_w,i32_w];rfl
   refine ζk (i:=14) (N:=some 2) (v:=?_) (a':=?_) #[τ,τ,τ,τ,τ,τ,τ,τ,τ,τ,τ,τ,τ,τ,τ] rfl rfl (ζj HT_.out (by kernel_rfl)) (fun _ _ _ h=>h) (Or.inl ⟨by rfl,?_⟩) ?_ ?_
   rotate_left
   · intro w';go_simp;with_reducible rfl
   rotate_left
   · simp only [ζl,δa,δb,δc,i64_w,i32_w];rfl
   refine done_ (done_of HT_.out (by kernel_rfl)) ?_
   try go_wp2
   go_ret
   exact ⟨by rfl,by repeat ((with_reducible exact HB.out))⟩


open Go.Proofs.YtabmfhnhmoiljaaGreatDoorW.PrintWords renaming blk_cell → δl, below_alloc → δk, below_drew1 → δj, pw_below_drewN → δi, blk_alloc → δo, blk_drew → δp, blk_drewN → δn, below_step → δr

/-! ### impl_putOrder_1: function 164 -/
def impl_putOrder.F (k:Nat) (o_0:ByteArray) (o_1:ByteArray) (o_2:Int) (o_3:Int) (o_4:Int) (o_5:Bool):List S51→Option (List S51 × Int):=fun l0=>(impl_orderKey.f o_0).bind fun key=>(impl_Order_value.f k o_0 o_1 o_2 o_3 o_4 o_5).bind fun v=>impl_put.f k l0 key v
set_option maxHeartbeats 4000000 in
set_option maxRecDepth 100000 in
theorem impl_putOrder_1.calls (k:Nat) (A0:Option Addr) (c0:Nat) (l0:List S51) (gb:Nat) (o_0:ByteArray) (o_1:ByteArray) (o_2:Int) (o_3:Int) (o_4:Int) (o_5:Bool) (r1:List S51) (r2:Int) (w:World) (hr0:Kd.C k51 w A0 l0.length l0) (hc0:l0.length≤c0) (hT0:TabsOK w) (hbk:w.heap[gb]? = some (.cells #[.string o_0,.string o_1,.int .i64 o_2,.int .i64 o_3,.int .i64 o_4,.bool o_5] 66 (0,0))) (h:impl_putOrder.F k o_0 o_1 o_2 o_3 o_4 o_5 l0=some (r1,r2)) :
  Calls Tryz.prog 164 #[.slice A0 l0.length c0,.pointer (some ⟨gb,0,none⟩)] w fun e w' => ∃ v0_:Value,e = .returned (.tuple #[v0_,.int .i64 r2])∧Kd.R k51 51 w' w.heap.size (fun _=>True) v0_ r1∧Below w.heap.size w w':=by
 unfold impl_putOrder.F at h
 obtain ⟨key,hk,h⟩:=Option.bind_eq_some_iff.mp h
 have HK:=ζa hk
 clear hk
 obtain ⟨v,hv,h⟩:=Option.bind_eq_some_iff.mp h
 have HV:=ζa hv
 have HF:=ζa h
 have HR0:=ζa hr0
 have HC0:=ζa hc0
 have HT0:=ζa hT0
 have BK:=ζa hbk
 have HB:=ζa (Below.refl w.heap.size w)
 clear hv h hr0 hc0 hT0 hbk
 have hz0:=(δl BK.out 0).trans rfl
 have hz1:=(δl BK.out 1).trans rfl
 have hz2:=(δl BK.out 2).trans rfl
 have hz3:=(δl BK.out 3).trans rfl
 have hz4:=(δl BK.out 4).trans rfl
 have hz5:=(δl BK.out 5).trans rfl
 go_enter Tryz.func164,Tryz.ntmps164
 go_wp2_with fail
 go_region_held3 (fun w'=>w'.cell? ⟨gb,0,none⟩=some (.string o_0)∧w'.cell? ⟨gb,1,none⟩=some (.string o_1)∧w'.cell? ⟨gb,2,none⟩=some (.int .i64 o_2)∧w'.cell? ⟨gb,3,none⟩=some (.int .i64 o_3)∧w'.cell? ⟨gb,4,none⟩=some (.int .i64 o_4)∧w'.cell? ⟨gb,5,none⟩=some (.bool o_5)) (first|go_keep|exact ⟨(δl BK.out 0).trans rfl,(δl BK.out 1).trans rfl,(δl BK.out 2).trans rfl,(δl BK.out 3).trans rfl,(δl BK.out 4).trans rfl,(δl BK.out 5).trans rfl⟩)
  (first
   | (go_at_call 108;refine (impl_orderKey.calls o_0 key _ HK.out).mono ?_;rintro e w' ⟨rfl,⟨q',rfl⟩⟩)
   | (go_at_call 166;refine (impl_Order_value.calls k o_0 o_1 o_2 o_3 o_4 o_5 v _ (HT0.out.below (by repeat (first|exact HB.out|apply δk|apply δj|apply δi))) HV.out).mono ?_;rintro e w2 ⟨rfl,hb⟩;have m_:=ζa (blk_below (by repeat (first|exact BK.out|apply δo|apply δp|apply δn)) hb);clear BK;have BK:=m_;clear m_;have m_:=ζa (δr (by repeat (first|exact HB.out|apply δk|apply δj|apply δi)) hb);clear HB;have HB:=m_;clear m_;clear hb)
   | (go_at_call 165;refine (impl_put.calls k A0 c0 l0 key v r1 r2 _ (by repeat (first|exact Kd.C_below HR0.out HB.out|apply Kd.C_drew|apply Kd.C_drewN)) HC0.out HF.out).mono ?_;rintro e w3 ⟨v3,rfl,ho,hb⟩;have HO3:=ζa (Kd.R_lower ho (Below.size (show Below w.heap.size w _ from (by repeat (first|exact HB.out|apply δk|apply δj|apply δi)))));have m_:=ζa (blk_below (by repeat (first|exact BK.out|apply δo|apply δp|apply δn)) hb);clear BK;have BK:=m_;clear m_;have m_:=ζa (δr (by repeat (first|exact HB.out|apply δk|apply δj|apply δi)) hb);clear HB;have HB:=m_;clear m_;clear hb ho))
 all_goals go_wp2
 all_goals (go_ret2;exact ⟨_,rfl,HO3.out,HB.out⟩)


open Go.Proofs.YtabmfhnhmoiljaaGreatDoorW.PrintWords renaming gate_dst → δx, box_event → δz, below_step → δr, below_alloc → δk, pw_below_drewN → δi, below_drew1 → δj

/-! ### impl_putOrder: function 110 -/
set_option maxHeartbeats 2000000 in
set_option maxRecDepth 100000 in
theorem impl_putOrder.calls (k:Nat) (o_0:ByteArray) (o_1:ByteArray) (o_2:Int) (o_3:Int) (o_4:Int) (o_5:Bool) (w:World) (hT0:TabsOK w) :
  Calls Tryz.prog 110 #[.agg #[.string o_0,.string o_1,.int .i64 o_2,.int .i64 o_3,.int .i64 o_4,.bool o_5]] w fun e w' => ∃ (g:Nat) (lb:Array Value),e = .returned (.func (.func g) #[] lb)∧ChgR w' (g,lb) (impl_putOrder.F k o_0 o_1 o_2 o_3 o_4 o_5)∧Below w.heap.size w w':=by
 have HT0:=ζa hT0
 have HB:=ζa (Below.refl w.heap.size w)
 have hu:=Tryz.underlying66
 clear hT0
 go_enter Tryz.func110,Tryz.ntmps110
 go_wp2_with (first
  | ((with_reducible refine δx (N:=1) rfl ?_);refine δz ?hg (N:=1) ?hd (cs:=#[.string o_0,.string o_1,.int .i64 o_2,.int .i64 o_3,.int .i64 o_4,.bool o_5]) (t:=66) ?hr ?_;(case hd=>rfl);(case hg=>rfl);(case hr=>first|(go_simp;done)|(go_simp;rfl));intro gbp hg wp hbox hb;have n0_:=ζa (δr (by repeat (first|exact HB.out|apply δk|apply δi|apply δj)) hb);clear HB;have HB:=n0_;clear n0_;have BKp:=ζa hbox;clear hb hbox hg))
 go_ret
 refine ⟨_,_,rfl,⟨enters_of Tryz.func164 (by kernel_rfl) rfl,fun W A c l r code hb hr hc hF => ?_⟩,HB.out⟩
 exact impl_putOrder_1.calls k A c l gbp o_0 o_1 o_2 o_3 o_4 o_5 r code W hr hc ((HT0.out.below HB.out).below hb) (blk_below BKp.out hb) hF



/-! ### impl_numberOf: function 191 -/
def impl_numberOf.l0:Nat→ByteArray→Int→Int→Int→Option (Int)
 | 0,_,_,_,_=>none
 | k+1,x0,x3,x6,x7=>if x7<x6 then (if 0≤x7 then (if x7<(x0.size:Int) then (impl_numberOf.l0 k x0 (ζm ((ζm (x3 * 256))+(ζm (bt x0 x7)))) x6 (ζm (x7+1))) else (none)) else (none)) else (some x3)
def impl_numberOf.f (k:Nat) (a0:ByteArray):Option (Int):=impl_numberOf.l0 k a0 0 (a0.size:Int) 0
set_option maxHeartbeats 8000000 in
set_option maxRecDepth 100000 in
theorem impl_numberOf.calls (k:Nat) (a0:ByteArray) (r:Int) (w:World) (h:impl_numberOf.f k a0=some r) :
  Calls Tryz.prog 191 #[.string a0] w fun e w'=>e = .returned (.int .i64 r)∧Drawn0 w w':=by
 have H:(impl_numberOf.l0 k a0 0 (a0.size:Int) 0)=some r:=h
 clear h
 have H':=ζa H
 clear H
 go_enter Tryz.func191,Tryz.ntmps191
 go_wp2
 go_loopg [3,7] k (fun kq v3 v7 w' => ∃ (x3_1:Int) (x7_1:Int),v3 = .int .i64 x3_1∧v7 = .int .i64 x7_1∧Aside0 (impl_numberOf.l0 kq a0 x3_1 (a0.size:Int) x7_1=some r)∧Aside0 (kq≤k)∧Drawn0 w w')
 case atStart=>exact ⟨(0),(0),(by rfl),(by rfl),H',⟨Nat.le_refl _⟩,by repeat (exact Drawn0.refl _)⟩
 case round =>
  clear H'
  try clear c1
  obtain ⟨x3_1,x7_1,rfl,rfl,HA,HK1,⟨m1,rfl⟩⟩:=hrel
  cases gk with
  | zero=>exact absurd HA.out (by simp [impl_numberOf.l0])
  | succ k1 =>
   have H:=HA.out
   clear HA
   simp only [impl_numberOf.l0] at H
   by_cases c2:x7_1<(a0.size:Int)
   ·
    rw [if_pos c2] at H
    have c2b0:decide (x7_1<(a0.size:Int))=τ:=decide_eq_true c2
    clear c2
    by_cases c3:0≤x7_1
    ·
     rw [if_pos c3] at H
     have c3b0:decide (0≤x7_1)=τ:=decide_eq_true c3
     clear c3
     by_cases c4:x7_1<(a0.size:Int)
     ·
      rw [if_pos c4] at H
      have c4b0:decide (x7_1<(a0.size:Int))=τ:=decide_eq_true c4
      clear c4
      have H':=ζa H
      clear H
      have p5:0≤(x7_1:Int):=of_decide_eq_true (by (with_reducible assumption))
      have q5:x7_1<(a0.size:Int):=of_decide_eq_true (by (with_reducible assumption))
      have hx5:=bt_at a0 x7_1
      replace p5:=eq_true p5
      replace q5:=eq_true q5
      go_wp2
      go_roundg k1
      case measure=>have:=HK1.out;omega
      case rel=>exact ⟨(ζm ((ζm (x3_1 * 256))+(ζm (bt a0 x7_1)))),(ζm (x7_1+1)),(by rfl),(by rfl),H',⟨by have:=HK1.out;omega⟩,by repeat (first|exact Drawn0.refl _|apply Drawn0.step)⟩
     ·
      rw [if_neg c4] at H
      exact absurd H (by simp)
    ·
     rw [if_neg c3] at H
     exact absurd H (by simp)
   ·
    rw [if_neg c2] at H
    have c2b0:decide (x7_1<(a0.size:Int))=φ:=decide_eq_false c2
    clear c2
    obtain rfl:=Option.some.inj H
    go_wp2
    go_ret
    exact ⟨by rfl,by repeat (first|exact Drawn0.refl _|apply Drawn0.step)⟩


open Go.Proofs.YtabmfhnhmoiljaaGreatDoorW.PrintWords renaming below_drew1 → δj, below_size → δs, below_step → δr, gate_callee → δv, pw_below_drewN → δi
open Go.Proofs.YtabmfhnhmoiljaaGreatDoorW.PrintWords.Kd renaming R_drewN → ζc, R_drew → ζe

/-! ### impl_readFields: function 150 -/
mutual
def impl_readFields.j0:Nat→ByteArray→Bool→Option (List ByteArray × Bool)
 | 0,_,_=>none
 | k+1,x0,x13=>if x13=τ then (some (([]:List ByteArray),φ)) else (if 1≤(x0.size:Int) then (if 0<(x0.size:Int) then (impl_readFields.l0 k (([]:List ByteArray)) (x0.extract 1 x0.size) (ζm (bt x0 0)) 0) else (none)) else (none))
def impl_readFields.l0:Nat→List ByteArray→ByteArray→Int→Int→Option (List ByteArray × Bool)
 | 0,_,_,_,_=>none
 | k+1,x4,x5,x19,x20=>if x20<x19 then (if (x5.size:Int)<2 then (some (([]:List ByteArray),φ)) else (if 0≤2 then (if 2≤(x5.size:Int) then ((impl_numberOf.f k (x5.extract 0 2)).bind fun t353=>(if t353 > 1000 then (some (([]:List ByteArray),φ)) else (if (x5.size:Int)<(ζm (2+t353)) then (some (([]:List ByteArray),φ)) else (if 2≤(ζm (2+t353)) then (if (ζm (2+t353))≤(x5.size:Int) then (if x4.length<8796093022208 then (if 0≤(ζm (2+t353)) then (impl_readFields.l0 k (x4 ++ [x5.extract 2 ((ζm (2+t353)):Int).toNat]) (x5.extract ((ζm (2+t353)):Int).toNat x5.size) x19 (ζm (x20+1))) else (none)) else (none)) else (none)) else (none))))) else (none)) else (none))) else (some (x4,(x5.toList == ([]:List UInt8))))
end
def impl_readFields.f (k:Nat) (a0:ByteArray):Option (List ByteArray × Bool):=if a0.toList=([]:List UInt8) then (impl_readFields.j0 k a0 τ) else (if 0<(a0.size:Int) then (impl_readFields.j0 k a0 (decide ((bt a0 0) > 40))) else (none))
def impl_readFields.T11:Bool × List (List Nat × List Nat):=(τ,[([],[]),([],[]),([],[]),([2],[2]),([1,3],[1,3]),([4],[4]),([0,5],[0,5]),([],[]),([],[]),([8],[8]),([7,9],[7,9]),([6,6,0,1,2,3,4,5,6],[0,6]),([10,11,0,1,2,3,4,5,6,7,8,9,10,11],[1,7,10])])
def impl_readFields.B11:List Nat:=[0,0,0,4,14,30,63,0,0,256,896,127,4095]
theorem impl_readFields.tab11:rtab .any (opsOf Tryz.f150 11)=impl_readFields.T11:=by kernel_rfl
theorem impl_readFields.bits11:waitsOk impl_readFields.T11.2 impl_readFields.B11=τ:=by kernel_rfl
set_option maxHeartbeats 8000000 in
set_option maxRecDepth 100000 in
theorem impl_readFields.calls (k:Nat) (a0:ByteArray) (r1:List ByteArray) (r2:Bool) (w:World) (h:impl_readFields.f k a0=some (r1,r2)) :
  Calls Tryz.prog 150 #[.string a0] w fun e w' => ∃ v0_:Value,e = .returned (.tuple #[v0_,.bool r2])∧Kd.R Kd.string 9 w' w.heap.size (fun _=>True) v0_ r1∧Below w.heap.size w w':=by
 have HB:=ζa (Below.refl w.heap.size w)
 have H:(if a0.toList=([]:List UInt8) then (impl_readFields.j0 k a0 τ) else (if 0<(a0.size:Int) then (impl_readFields.j0 k a0 (decide ((bt a0 0) > 40))) else (none)))=some (r1,r2):=h
 clear h
 have HC2:=ζa H
 clear H
 go_enter Tryz.func150,Tryz.ntmps150
 go_upto_region 1 with (fail)
 go_cut [13] (fun v13 wc => ∃ (kq:Nat) (x13_1:Bool),v13 = .bool x13_1∧Aside0 (impl_readFields.j0 kq a0 x13_1=some (r1,r2))∧Aside0 (kq≤k)∧Aside0 (Below w.heap.size w wc))
 case first =>
  have H:=HC2.out
  clear HC2
  by_cases c3:a0.toList=([]:List UInt8)
  ·
   rw [if_pos c3] at H
   have c3b0:(a0.toList == ([]:List UInt8))=τ:=beq_iff_eq.mpr c3
   have c3b1:(a0.toList != ([]:List UInt8))=φ:=bne_eq_false_iff_eq.mpr c3
   clear c3
   (skip)
   have H':=ζa H
   clear H
   go_wp2
   go_meet
   case rel=>exact ⟨_,(τ),(by rfl),H',⟨by omega⟩,⟨by repeat ((with_reducible exact HB.out))⟩⟩
  ·
   rw [if_neg c3] at H
   have c3b0:(a0.toList == ([]:List UInt8))=φ:=beq_eq_false_iff_ne.mpr c3
   have c3b1:(a0.toList != ([]:List UInt8))=τ:=bne_iff_ne.mpr c3
   (skip)
   by_cases c4:0<(a0.size:Int)
   ·
    rw [if_pos c4] at H
    have c4b0:decide (0<(a0.size:Int))=τ:=decide_eq_true c4
    have c4b1:decide (0<a0.size)=τ:=decide_eq_true (by omega)
    clear c4
    have H':=ζa H
    clear H
    have p5:0≤(0:Int):=(by omega)
    have q5:0<a0.size:=(by have:(0:Int)<(a0.size:Int):=of_decide_eq_true (by (with_reducible assumption));omega)
    have hx5 : ∀ h:0<a0.size,((a0[0]'h).toNat:Int)=bt a0 0:=bt_at a0 0
    clear p5
    have qi5:(0<(a0.size:Int))=True:=eq_true (of_decide_eq_true (by (with_reducible assumption)))
    replace q5:=eq_true q5
    go_wp2
    go_meet
    case rel=>exact ⟨_,(decide ((bt a0 0) > 40)),(by rfl),H',⟨by omega⟩,⟨by repeat ((with_reducible exact HB.out))⟩⟩
   ·
    rw [if_neg c4] at H
    exact absurd H (by simp)
 case rest =>
  clear HC2
  try clear c1
  try clear p2
  try clear c3
  try clear c3b0
  try clear c3b1
  try clear c4
  try clear c4b0
  try clear c4b1
  try clear p5
  try clear q5
  try clear hx5
  try clear qi5
  try clear p5
  try clear q5
  obtain ⟨kq,x13_1,rfl,HA,HJ1,HB⟩:=hcut
  cases kq with
  | zero=>exact absurd HA.out (by simp [impl_readFields.j0])
  | succ kj1 =>
   have H:=HA.out
   clear HA
   simp only [impl_readFields.j0] at H
   by_cases c6:x13_1=τ
   ·
    subst c6
    have H1:(some (([]:List ByteArray),φ))=some (r1,r2):=by rw [if_pos rfl] at H;exact H
    clear H
    have H:=H1
    clear H1
    simp only [Option.some.injEq,Prod.mk.injEq] at H
    obtain ⟨rfl,rfl⟩:=H
    go_wp2
    go_ret2
    exact ⟨_,by rfl,by exact Kd.R_nil _ _ _ _ _,by repeat ((with_reducible exact HB.out))⟩
   ·
    replace c6:=Bool.eq_false_iff.mpr c6
    subst c6
    have H1:(if 1≤(a0.size:Int) then (if 0<(a0.size:Int) then (impl_readFields.l0 kj1 (([]:List ByteArray)) (a0.extract 1 a0.size) (ζm (bt a0 0)) 0) else (none)) else (none))=some (r1,r2):=by rw [if_neg (show ¬ (φ=τ) by decide)] at H;exact H
    clear H
    have H:=H1
    clear H1
    obtain ⟨y350,hy350⟩ : ∃ y_:List ByteArray,y_=(([]:List ByteArray)):=⟨_,rfl⟩
    replace H:(if 1≤(a0.size:Int) then (if 0<(a0.size:Int) then (impl_readFields.l0 kj1 y350 (a0.extract 1 a0.size) (ζm (bt a0 0)) 0) else (none)) else (none))=some (r1,r2):=by (rw [hy350];with_reducible exact H)
    have Ny350:=ζa hy350
    clear hy350
    by_cases c7:1≤(a0.size:Int)
    ·
     rw [if_pos c7] at H
     have c7b0:=eq_true c7
     have c7b1:decide (1≤(a0.size:Int))=τ:=decide_eq_true c7
     clear c7
     by_cases c8:0<(a0.size:Int)
     ·
      rw [if_pos c8] at H
      have c8b0:decide (0<(a0.size:Int))=τ:=decide_eq_true c8
      have c8b1:decide (0<a0.size)=τ:=decide_eq_true (by omega)
      clear c8
      have H':=ζa H
      clear H
      try go_wp2
      have n0_:=ζa (δj HB.out)
      clear HB
      have HB:=n0_
      clear n0_
      refine start_ (n:=5) (S:=fun w'=>True) (ds:=[]) #[φ,φ,φ,φ,φ] (by kernel_rfl) rfl rfl trivial (fun hHeld => ?_)
      generalize wc.drew=w10 at HB hHeld ⊢
      refine ζk (i:=1) (N:=some 15) (v:=?_) (a':=?_) #[φ,τ,φ,φ,φ] rfl rfl (by kernel_rfl) (fun _ _ _ h=>h) (Or.inl ⟨by rfl,?_⟩) ?_ ?_
      rotate_left
      · intro w';go_simp;with_reducible rfl
      rotate_left
      · simp only [ζl,δa,δb,δc,i64_w,i32_w];rfl
      refine ζk (i:=2) (N:=some 16) (v:=?_) (a':=?_) #[φ,τ,τ,φ,φ] rfl rfl (by kernel_rfl) (fun _ _ _ h=>h) (Or.inl ⟨by rfl,?_⟩) ?_ ?_
      rotate_left
      · intro w';go_simp;with_reducible rfl
      rotate_left
      · simp only [ζl,δa,δb,δc,i64_w,i32_w];rfl
      refine one_ (i:=0) (N:=some 14) #[τ,τ,τ,φ,φ] rfl rfl (by kernel_rfl) (by decide) (fun K hK => ?_)
      refine Kd.R_lit_step Kd.string _ 9 ?hg (N:=14) ?hd (xs:=([]:List ByteArray)) (inner:=[]) (ok:=fun _=>True) (okp:=fun _=>True) ?hr ?hp (fun _ hk=>hk) trivial (Below.refl _ _) (Nat.le_refl _) (by simp) ?_;(case hd=>rfl);(case hg=>rfl);(case hr=>(go_simp;done));(case hp=>exact (Reps.none _ _))
      intro v351 w11 ho12 hb hg_ hnew_
      clear hg_ hnew_
      (rw [← Ny350.out] at ho12)
      have n0_:=ζa (Kd.R_lower ho12 (δs (by exact HB.out)))
      have n1_:=ζa (δr (by exact HB.out) hb)
      clear HB
      have HO352:=n0_
      have HB:=n1_
      clear n0_ n1_
      clear hb ho12
      refine hK.out _ _ trivial (fun hHeld => ?_)
      clear hK K
      refine norm_ (a':=?_) ?_ ?_
      rotate_left
      ·
       show ζl _ (some 14) _=_
       simp only [ζl,δa,δb,δc,i64_w,i32_w];rfl
      refine ζk (i:=3) (N:=some 4) (v:=?_) (a':=?_) #[τ,τ,τ,τ,φ] rfl rfl (by kernel_rfl) (fun _ _ _ h=>h) (Or.inl ⟨by rfl,?_⟩) ?_ ?_
      rotate_left
      · intro w';go_simp;with_reducible rfl
      rotate_left
      · simp only [ζl,δa,δb,δc,i64_w,i32_w];rfl
      refine ζk (i:=4) (N:=some 5) (v:=?_) (a':=?_) #[τ,τ,τ,τ,τ] rfl rfl (by kernel_rfl) (fun _ _ _ h=>h) (Or.inl ⟨by rfl,?_⟩) ?_ ?_
      rotate_left
      · intro w';go_simp;with_reducible rfl
      rotate_left
      · simp only [ζl,δa,δb,δc,i64_w,i32_w];rfl
      refine done_ (by kernel_rfl) ?_
      have p9:0≤(0:Int):=(by omega)
      have q9:0<a0.size:=(by have:(0:Int)<(a0.size:Int):=of_decide_eq_true (by (with_reducible assumption));omega)
      have hx9 : ∀ h:0<a0.size,((a0[0]'h).toNat:Int)=bt a0 0:=bt_at a0 0
      clear p9
      have qi9:(0<(a0.size:Int))=True:=eq_true (of_decide_eq_true (by (with_reducible assumption)))
      replace q9:=eq_true q9
      try go_wp2
      go_loopg [4,5,20] kj1 (fun kq v4 v5 v20 w' => ∃ (x4_2:List ByteArray) (x5_2:ByteArray) (x20_2:Int),v5 = .string x5_2∧v20 = .int .i64 x20_2∧Aside0 (impl_readFields.l0 kq x4_2 x5_2 (ζm (bt a0 0)) x20_2=some (r1,r2))∧Aside0 (kq≤kj1)∧Aside0 (Kd.R Kd.string 9 w' w.heap.size (fun _=>True) v4 x4_2)∧Aside0 (Below w.heap.size w w'))
      case atStart=>exact ⟨(y350),(a0.extract 1 a0.size),(0),(by rfl),(by rfl),H',⟨Nat.le_refl _⟩,⟨by exact HO352.out⟩,⟨by repeat ((with_reducible exact HB.out))⟩⟩
      case round =>
       clear H'
       try clear c1
       try clear p2
       try clear c3
       try clear c3b0
       try clear c3b1
       try clear c4
       try clear c4b0
       try clear c4b1
       try clear p5
       try clear q5
       try clear hx5
       try clear qi5
       try clear c6
       try clear p6
       try clear c7
       try clear c7b0
       try clear c7b1
       try clear c8
       try clear c8b0
       try clear c8b1
       try clear p9
       try clear q9
       try clear hx9
       try clear qi9
       try clear p2
       try clear p5
       try clear p9
       try clear q5
       try clear q9
       obtain ⟨x4_2,x5_2,x20_2,rfl,rfl,HA,HK2,HO_4,HB⟩:=hrel
       cases gk with
       | zero=>exact absurd HA.out (by simp [impl_readFields.l0])
       | succ k2 =>
        have H:=HA.out
        clear HA
        simp only [impl_readFields.l0] at H
        by_cases c13:x20_2<(ζm (bt a0 0))
        ·
         rw [if_pos c13] at H
         have c13b0:decide (x20_2<(ζm (bt a0 0)))=τ:=decide_eq_true c13
         clear c13
         by_cases c14:(x5_2.size:Int)<2
         ·
          rw [if_pos c14] at H
          have c14b0:decide ((x5_2.size:Int)<2)=τ:=decide_eq_true c14
          have c14b1:decide (x5_2.size<2)=τ:=decide_eq_true (by omega)
          clear c14
          simp only [Option.some.injEq,Prod.mk.injEq] at H
          obtain ⟨rfl,rfl⟩:=H
          go_wp2
          go_ret2
          exact ⟨_,by rfl,by exact Kd.R_nil _ _ _ _ _,by repeat ((with_reducible exact HB.out))⟩
         ·
          rw [if_neg c14] at H
          have c14b0:decide ((x5_2.size:Int)<2)=φ:=decide_eq_false c14
          have c14b1:decide (x5_2.size<2)=φ:=decide_eq_false (by omega)
          clear c14
          by_cases c15:0≤2
          ·
           rw [if_pos c15] at H
           have c15b0:=eq_true c15
           have c15b1:decide (0≤2)=τ:=decide_eq_true c15
           clear c15
           by_cases c16:2≤(x5_2.size:Int)
           ·
            rw [if_pos c16] at H
            have c16b0:=eq_true c16
            have c16b1:decide (2≤(x5_2.size:Int))=τ:=decide_eq_true c16
            clear c16
            replace H:=Option.bind_eq_some_iff.mp H
            obtain ⟨t353,A170,H⟩:=H
            replace H:(if t353 > 1000 then (some (([]:List ByteArray),φ)) else (if (x5_2.size:Int)<(ζm (2+t353)) then (some (([]:List ByteArray),φ)) else (if 2≤(ζm (2+t353)) then (if (ζm (2+t353))≤(x5_2.size:Int) then (if x4_2.length<8796093022208 then (if 0≤(ζm (2+t353)) then (impl_readFields.l0 k2 (x4_2 ++ [x5_2.extract 2 ((ζm (2+t353)):Int).toNat]) (x5_2.extract ((ζm (2+t353)):Int).toNat x5_2.size) (ζm (bt a0 0)) (ζm (x20_2+1))) else (none)) else (none)) else (none)) else (none))))=some (r1,r2):=H
            have A17:=ζa A170
            clear A170
            by_cases c18:t353 > 1000
            ·
             rw [if_pos c18] at H
             have c18b0:decide (1000<t353)=τ:=decide_eq_true c18
             clear c18
             simp only [Option.some.injEq,Prod.mk.injEq] at H
             obtain ⟨rfl,rfl⟩:=H
             go_wp2_with (((with_reducible refine δv (f:=191) rfl ?_);refine goesL_ (some 27) rfl rfl Tryz.func191 (by kernel_rfl) rfl #[.string (x5_2.extract 0 2)] rfl (by (try simp only [δd,δe,δf]);rfl) ?_;(with_reducible refine (impl_numberOf.calls k2 (x5_2.extract 0 2) t353 _ A17.out).mono ?_);rintro e w' ⟨rfl,⟨nd,rfl⟩⟩;refine ⟨_,rfl,?_⟩))
             go_ret2
             exact ⟨_,by rfl,by exact Kd.R_nil _ _ _ _ _,by repeat ((with_reducible first|exact HB.out|apply δi))⟩
            ·
             rw [if_neg c18] at H
             have c18b0:decide (1000<t353)=φ:=decide_eq_false c18
             clear c18
             by_cases c19:(x5_2.size:Int)<(ζm (2+t353))
             ·
              rw [if_pos c19] at H
              have c19b0:decide ((x5_2.size:Int)<(ζm (2+t353)))=τ:=decide_eq_true c19
              clear c19
              simp only [Option.some.injEq,Prod.mk.injEq] at H
              obtain ⟨rfl,rfl⟩:=H
              go_wp2_with (((with_reducible refine δv (f:=191) rfl ?_);refine goesL_ (some 27) rfl rfl Tryz.func191 (by kernel_rfl) rfl #[.string (x5_2.extract 0 2)] rfl (by (try simp only [δd,δe,δf]);rfl) ?_;(with_reducible refine (impl_numberOf.calls k2 (x5_2.extract 0 2) t353 _ A17.out).mono ?_);rintro e w' ⟨rfl,⟨nd,rfl⟩⟩;refine ⟨_,rfl,?_⟩))
              go_ret2
              exact ⟨_,by rfl,by exact Kd.R_nil _ _ _ _ _,by repeat ((with_reducible first|exact HB.out|apply δi))⟩
             ·
              rw [if_neg c19] at H
              have c19b0:decide ((x5_2.size:Int)<(ζm (2+t353)))=φ:=decide_eq_false c19
              clear c19
              by_cases c20:2≤(ζm (2+t353))
              ·
               rw [if_pos c20] at H
               have c20b0:=eq_true c20
               have c20b1:decide (2≤(ζm (2+t353)))=τ:=decide_eq_true c20
               by_cases c21:(ζm (2+t353))≤(x5_2.size:Int)
               ·
                rw [if_pos c21] at H
                have c21b0:=eq_true c21
                have c21b1:decide ((ζm (2+t353))≤(x5_2.size:Int))=τ:=decide_eq_true c21
                by_cases c22:x4_2.length<8796093022208
                ·
                 rw [if_pos c22] at H
                 have LMc22:=ζa c22
                 clear c22
                 obtain ⟨y354,hy354⟩ : ∃ y_:List ByteArray,y_=(x4_2 ++ [x5_2.extract 2 ((ζm (2+t353)):Int).toNat]):=⟨_,rfl⟩
                 replace H:(if 0≤(ζm (2+t353)) then (impl_readFields.l0 k2 y354 (x5_2.extract ((ζm (2+t353)):Int).toNat x5_2.size) (ζm (bt a0 0)) (ζm (x20_2+1))) else (none))=some (r1,r2):=by (rw [hy354];with_reducible exact H)
                 have Ny354:=ζa hy354
                 clear hy354
                 obtain ⟨ji23,hji23⟩ : ∃ j_:Int,(ζm (2+t353))=j_:=⟨_,rfl⟩
                 replace H:(if 0≤(ji23) then (impl_readFields.l0 k2 y354 (x5_2.extract ((ji23):Int).toNat x5_2.size) (ζm (bt a0 0)) (ζm (x20_2+1))) else (none))=some (r1,r2):=by (rw [hji23] at H;exact H)
                 (try rw [hji23] at c19b0)
                 (try rw [hji23] at c20b0)
                 (try rw [hji23] at c20b1)
                 (try rw [hji23] at c20)
                 (try rw [hji23] at c21b0)
                 (try rw [hji23] at c21b1)
                 (try rw [hji23] at c21)
                 (try rw [hji23] at A17)
                 (try rw [hji23] at Ny354)
                 have hji23w:(IntKind.i64.wrap (2+t353))=ji23:=(i64_w _).trans hji23
                 by_cases c24:0≤(ji23)
                 ·
                  rw [if_pos c24] at H
                  have c24b0:=eq_true c24
                  have c24b1:decide (0≤(ji23))=τ:=decide_eq_true c24
                  clear c24
                  have c25b0:=eq_true (of_decide_eq_true (by (with_reducible assumption)):(ji23)≤(x5_2.size:Int))
                  have H':=ζa H
                  clear H
                  try go_wp2_with (((with_reducible refine δv (f:=191) rfl ?_);refine goesL_ (some 27) rfl rfl Tryz.func191 (by kernel_rfl) rfl #[.string (x5_2.extract 0 2)] rfl (by (try simp only [δd,δe,δf]);rfl) ?_;(with_reducible refine (impl_numberOf.calls k2 (x5_2.extract 0 2) t353 _ A17.out).mono ?_);rintro e w' ⟨rfl,⟨nd,rfl⟩⟩;refine ⟨_,rfl,?_⟩))
                  (try (rw [drewN_self wr];generalize hq_:World.drewN wr _=wr;have n0_:Aside0 (Kd.R Kd.string 9 wr w.heap.size (fun _=>True) u4 x4_2):=⟨by rw [← hq_];exact (by (with_reducible repeat (apply ζc));exact HO_4.out)⟩;have n1_:Aside0 (Below w.heap.size w wr):=⟨by rw [← hq_];exact (by repeat ((with_reducible first|exact HB.out|apply δi)))⟩;clear HO_4 HB hq_;have HO_4:=n0_;have HB:=n1_;clear n0_ n1_))
                  have n0_:=ζa (ζe HO_4.out)
                  have n1_:=ζa (δj HB.out)
                  clear HO_4
                  clear HB
                  have HO_4:=n0_
                  have HB:=n1_
                  clear n0_ n1_
                  refine start_ (n:=13) (S:=fun w'=>True) (ds:=[]) #[φ,φ,φ,φ,φ,φ,φ,φ,φ,φ,φ,φ,φ] (by kernel_rfl) rfl rfl trivial (fun hHeld => ?_);refine with_tabW impl_readFields.tab11 impl_readFields.bits11 (fun HT_ HW_ => ?_)
                  generalize wr.drew=w26 at HO_4 HB hHeld ⊢
                  refine ζk (i:=0) (N:=some 37) (v:=?_) (a':=?_) #[τ,φ,φ,φ,φ,φ,φ,φ,φ,φ,φ,φ,φ] rfl rfl (ζj HT_.out (by kernel_rfl)) (fun _ _ _ h=>h) (Or.inl ⟨by rfl,?_⟩) ?_ ?_
                  rotate_left
                  · intro w';go_simp;with_reducible rfl
                  rotate_left
                  · simp only [ζl,δa,δb,δc,i64_w,i32_w];rfl
                  refine ζk (i:=1) (N:=some 38) (v:=?_) (a':=?_) #[τ,τ,φ,φ,φ,φ,φ,φ,φ,φ,φ,φ,φ] rfl rfl (ζj HT_.out (by kernel_rfl)) (fun _ _ _ h=>h) (Or.inl ⟨by rfl,?_⟩) ?_ ?_
                  rotate_left
                  · intro w';go_simp;with_reducible rfl
                  rotate_left
                  · simp only [ζl,δa,δb,δc,i64_w,i32_w];rfl
                  refine ζk (i:=2) (N:=some 39) (v:=?_) (a':=?_) #[τ,τ,τ,φ,φ,φ,φ,φ,φ,φ,φ,φ,φ] rfl rfl (ζj HT_.out (by kernel_rfl)) (fun _ _ _ h=>h) (Or.inl ⟨by rfl,?_⟩) ?_ ?_
                  rotate_left
                  · intro w';go_simp;with_reducible rfl
                  rotate_left
                  · simp only [ζl,δa,δb,δc,i64_w,i32_w];rfl
                  refine ζk (i:=3) (N:=some 40) (v:=?_) (a':=?_) #[τ,τ,τ,τ,φ,φ,φ,φ,φ,φ,φ,φ,φ] rfl rfl (ζj HT_.out (by kernel_rfl)) (fun _ _ _ h=>h) (Or.inl ⟨by rfl,?_⟩) ?_ ?_
                  rotate_left
                  · intro w';go_simp;with_reducible rfl
                  rotate_left
                  · simp only [ζl,δa,δb,δc,i64_w,i32_w];rfl
                  refine ζk (i:=4) (N:=some 41) (v:=?_) (a':=?_) #[τ,τ,τ,τ,τ,φ,φ,φ,φ,φ,φ,φ,φ] rfl rfl (ζj HT_.out (by kernel_rfl)) (fun _ _ _ h=>h) (Or.inl ⟨by rfl,?_⟩) ?_ ?_
                  rotate_left
                  · intro w';go_simp;with_reducible rfl
                  rotate_left
                  · simp only [ζl,δa,δb,δc,i64_w,i32_w];rfl
                  refine ζk (i:=7) (N:=some 44) (v:=?_) (a':=?_) #[τ,τ,τ,τ,τ,φ,φ,τ,φ,φ,φ,φ,φ] rfl rfl (ζj HT_.out (by kernel_rfl)) (fun _ _ _ h=>h) (Or.inl ⟨by rfl,?_⟩) ?_ ?_
                  rotate_left
                  · intro w';go_simp;with_reducible rfl
                  rotate_left
                  · simp only [ζl,δa,δb,δc,i64_w,i32_w];rfl
                  refine ζk (i:=8) (N:=some 45) (v:=?_) (a':=?_) #[τ,τ,τ,τ,τ,φ,φ,τ,τ,φ,φ,φ,φ] rfl rfl (ζj HT_.out (by kernel_rfl)) (fun _ _ _ h=>h) (Or.inl ⟨by rfl,?_⟩) ?_ ?_
                  rotate_left
                  · intro w';go_simp;with_reducible rfl
                  rotate_left
                  · simp only [ζl,δa,δb,δc,i64_w,i32_w];rfl
                  refine ζk (i:=9) (N:=some 46) (v:=?_) (a':=?_) #[τ,τ,τ,τ,τ,φ,φ,τ,τ,τ,φ,φ,φ] rfl rfl (ζj HT_.out (by kernel_rfl)) (fun _ _ _ h=>h) (Or.inl ⟨by rfl,?_⟩) ?_ ?_
                  rotate_left
                  · intro w';go_simp;with_reducible rfl
                  rotate_left
                  · simp only [ζl,δa,δb,δc,i64_w,i32_w];rfl
                  refine ζk (i:=10) (N:=some 47) (v:=?_) (a':=?_) #[τ,τ,τ,τ,τ,φ,φ,τ,τ,τ,τ,φ,φ] rfl rfl (ζj HT_.out (by kernel_rfl)) (fun _ _ _ h=>h) (Or.inl ⟨by rfl,?_⟩) ?_ ?_
                  rotate_left
                  · intro w';go_simp;with_reducible rfl
                  rotate_left
                  · simp only [ζl,δa,δb,δc,i64_w,i32_w];rfl
                  refine one_ (i:=5) (N:=some 42) #[τ,τ,τ,τ,τ,τ,φ,τ,τ,τ,τ,φ,φ] rfl rfl (one_of HT_.out (by kernel_rfl)) (by decide) (fun K hK => ?_)
                  refine value_ (w1:=?_) (v:=?_) (by rfl) rfl ?_ ?_
                  rotate_left 2
                  ·
                   go_simp
                   constructor
                   · rfl
                   ·
                    rfl
                  refine hK.out _ _ trivial (fun hHeld => ?_)
                  clear hK K
                  refine norm_ (a':=?_) ?_ ?_
                  rotate_left
                  ·
                   show ζl _ (some 42) _=_
                   simp only [ζl,δa,δb,δc,i64_w,i32_w];rfl
                  refine one_ (i:=6) (N:=some 43) #[τ,τ,τ,τ,τ,τ,τ,τ,τ,τ,τ,φ,φ] rfl rfl (one_of HT_.out (by kernel_rfl)) (by decide) (fun K hK => ?_)
                  refine Kd.R_append_step Kd.string (w0:=w) w.heap.size (by rfl) (.tmp 37) (.tmp 42) 75 9 (.string ⟨#[]⟩) 16 rfl Tryz.underlying75 info9 rfl (by decide) (by omega) u4 x4_2 (x5_2.extract 2 ((ji23):Int).toNat) [.string (x5_2.extract 2 ((ji23):Int).toNat)] (fun _=>True) (fun _=>False) rfl rfl ?aP (fun _ hk=>hk.elim) ?aF ?aO ?aB ?aS ?aL ?_
                  (case aP=>exact rfl)
                  (case aB=>exact (by exact HB.out))
                  (case aF=>exact (fun _ _=>trivial))
                  (case aO=>exact (by exact HO_4.out))
                  (case aS=>exact (δs (by exact HB.out)))
                  (case aL=>have:=LMc22.out;omega)
                  intro v355 w27 ho hb hg hat
                  rw [← Ny354.out] at ho
                  have n0_:=ζa (hb)
                  have n1_:=ζa (ho)
                  clear HB
                  clear HO_4
                  have HB:=n0_
                  have HO356:=n1_
                  clear n0_ n1_
                  clear ho hb hg hat
                  refine hK.out _ _ trivial (fun hHeld => ?_)
                  clear hK K
                  refine norm_ (a':=?_) ?_ ?_
                  rotate_left
                  ·
                   show ζl _ (some 43) _=_
                   simp only [ζl,δa,δb,δc,i64_w,i32_w];rfl
                  refine ζk (i:=11) (N:=some 4) (v:=?_) (a':=?_) #[τ,τ,τ,τ,τ,τ,τ,τ,τ,τ,τ,τ,φ] rfl rfl (ζj HT_.out (by kernel_rfl)) (fun _ _ _ h=>h) (Or.inl ⟨by rfl,?_⟩) ?_ ?_
                  rotate_left
                  · intro w';go_simp;with_reducible rfl
                  rotate_left
                  · simp only [ζl,δa,δb,δc,i64_w,i32_w];rfl
                  refine ζk (i:=12) (N:=some 5) (v:=?_) (a':=?_) #[τ,τ,τ,τ,τ,τ,τ,τ,τ,τ,τ,τ,τ] rfl rfl (ζj HT_.out (by kernel_rfl)) (fun _ _ _ h=>h) (Or.inl ⟨by rfl,?_⟩) ?_ ?_
                  rotate_left
                  · intro w';go_simp;with_reducible rfl
                  rotate_left
                  · simp only [ζl,δa,δb,δc,i64_w,i32_w];rfl
                  refine done_ (done_of HT_.out (by kernel_rfl)) ?_
                  try go_wp2
                  go_roundg k2
                  case measure=>have:=HJ1.out;have:=HK2.out;omega
                  case rel=>exact ⟨(y354),(x5_2.extract ((ji23):Int).toNat x5_2.size),(ζm (x20_2+1)),(by rfl),(by rfl),H',⟨by have:=HJ1.out;have:=HK2.out;omega⟩,⟨by exact HO356.out⟩,⟨by repeat ((with_reducible exact HB.out))⟩⟩
                 ·
                  rw [if_neg c24] at H
                  exact absurd H (by simp)
                ·
                 rw [if_neg c22] at H
                 exact absurd H (by simp)
               ·
                rw [if_neg c21] at H
                exact absurd H (by simp)
              ·
               rw [if_neg c20] at H
               exact absurd H (by simp)
           ·
            rw [if_neg c16] at H
            exact absurd H (by simp)
          ·
           rw [if_neg c15] at H
           exact absurd H (by simp)
        ·
         rw [if_neg c13] at H
         have c13b0:decide (x20_2<(ζm (bt a0 0)))=φ:=decide_eq_false c13
         clear c13
         simp only [Option.some.injEq,Prod.mk.injEq] at H
         obtain ⟨rfl,rfl⟩:=H
         go_wp2
         go_ret2
         exact ⟨_,by first|(simp [errW_none,errW_some] <;> rfl),by exact HO_4.out,by repeat ((with_reducible exact HB.out))⟩
     ·
      rw [if_neg c8] at H
      exact absurd H (by simp)
    ·
     rw [if_neg c7] at H
     exact absurd H (by simp)



/-! ### impl_isPeople: function 121 -/
def impl_isPeople.bad (t:ByteArray):Bool:=t.toList == ([101,115,99,114,111,119]:List UInt8) || (t.toList == ([111,114,100,101,114,115]:List UInt8) || (t.toList == ([116,97,107,101,115]:List UInt8) || t.toList == ([112,111,111,108]:List UInt8)))
def impl_isPeople.f (k:Nat) (l0:List ByteArray):Option Bool:=(impl_areNames.f k l0).bind fun t=>if t=τ then some (!(l0.any impl_isPeople.bad)) else some φ
theorem impl_isPeople.lit (a0:ByteArray) (w:World) :
  Calls Tryz.prog 175 #[.string a0] w fun e w'=>e = .returned (.bool (impl_isPeople.bad a0))∧Drawn0 w w':=by
 unfold impl_isPeople.bad
 cases h1:(a0.toList == ([101,115,99,114,111,119]:List UInt8)) <;> cases h2:(a0.toList == ([111,114,100,101,114,115]:List UInt8)) <;> cases h3:(a0.toList == ([116,97,107,101,115]:List UInt8)) <;>
 ·
  go_enter Tryz.func175,Tryz.ntmps175
  go_wp2
  go_ret
  exact ⟨by rfl,by repeat (exact Drawn0.refl _)⟩
theorem impl_isPeople.calls (k:Nat) (A0:Option Addr) (c0:Nat) (l0:List ByteArray) (r:Bool) (w:World) (hr0:Kd.C Kd.string w A0 l0.length l0) (hc0:l0.length≤c0) (h:impl_isPeople.f k l0=some r) :
  Calls Tryz.prog 121 #[.slice A0 l0.length c0] w fun e w'=>e = .returned (.bool r)∧Drawn0 w w':=by
 obtain ⟨t,ht,h⟩:=Option.bind_eq_some_iff.mp h
 have HA:=ζa ht
 clear ht
 cases t with
 | true =>
  rw [if_pos rfl] at h
  obtain rfl:=Option.some.inj h
  go_enter Tryz.func121,Tryz.ntmps121
  go_wp2_with (first
   | (go_at_call 63;refine (impl_areNames.calls k A0 c0 l0 _ _ hr0 hc0 HA.out).mono ?_;rintro e w' ⟨rfl,⟨q',rfl⟩⟩)
   | (go_at_call 112;refine (slices_ContainsFunc_string_string.at_ 175 (enters_of Tryz.func175 (by kernel_rfl) rfl) _ impl_isPeople.lit A0 c0 l0 _ (by exact Kd.C_drewN hr0 _)).mono ?_;rintro e w' ⟨rfl,⟨q',rfl⟩⟩))
  go_ret
  exact ⟨rfl,by repeat (first|exact Drawn0.refl _|apply Drawn0.step)⟩
 | false =>
  rw [if_neg (by decide)] at h
  obtain rfl:=Option.some.inj h
  go_enter Tryz.func121,Tryz.ntmps121
  go_wp2_with (first
   | (go_at_call 63;refine (impl_areNames.calls k A0 c0 l0 _ _ hr0 hc0 HA.out).mono ?_;rintro e w' ⟨rfl,⟨q',rfl⟩⟩))
  go_ret
  exact ⟨rfl,by repeat (first|exact Drawn0.refl _|apply Drawn0.step)⟩



/-! ### impl_isSome: function 122 -/
def impl_isSome.f (a0:Int):Option (Bool):=(impl_within.f a0 1 1000000000000000000).bind fun t165=>(some t165)
set_option maxHeartbeats 8000000 in
set_option maxRecDepth 100000 in
theorem impl_isSome.calls (a0:Int) (r:Bool) (w:World) (h:impl_isSome.f a0=some r) :
  Calls Tryz.prog 122 #[.int .i64 a0] w fun e w'=>e = .returned (.bool r)∧Drawn0 w w':=by
 have H:((impl_within.f a0 1 1000000000000000000).bind fun t165=>(some t165))=some r:=h
 clear h
 replace H:=Option.bind_eq_some_iff.mp H
 obtain ⟨t165,A20,H⟩:=H
 replace H:(some t165)=some r:=H
 have A2:=ζa A20
 clear A20
 obtain rfl:=Option.some.inj H
 go_enter Tryz.func122,Tryz.ntmps122
 go_wp2_with (((with_reducible refine δv (f:=161) rfl ?_);refine goesL_ (some 4) rfl rfl Tryz.func161 (by kernel_rfl) rfl #[.int .i64 a0,.int .i64 1,.int .i64 1000000000000000000] rfl (by (try simp only [δd,δe,δf]);rfl) ?_;(with_reducible refine (impl_within.calls a0 1 1000000000000000000 t165 _ A2.out).mono ?_);rintro e w' ⟨rfl,⟨nd,rfl⟩⟩;refine ⟨_,rfl,?_⟩))
 go_ret
 exact ⟨by rfl,by repeat (first|exact Drawn0.refl _|apply Drawn0.step)⟩


open Go.Proofs.YtabmfhnhmoiljaaGreatDoorW.PrintWords renaming gate_dst → δx, box_event → δz, below_step → δr, below_size → δs, blk_cell → δl, blk_frozen → δm, gate_callee → δv, pw_below_drewN → δi, blk_drewN → δn
open Go.Proofs.YtabmfhnhmoiljaaGreatDoorW.PrintWords.Kd renaming R_reads' → ζg, R_drewN → ζc

/-! ### impl_OrderOK: function 106 -/
def impl_OrderOK.f (k:Nat) (a0_0:ByteArray) (a0_1:ByteArray) (a0_2:Int) (a0_3:Int) (a0_4:Int) (a0_5:Bool):Option (Bool):=(impl_areNames.f k (([a0_0]:List ByteArray))).bind fun t630=>(if t630=τ then ((impl_isPeople.f k (([a0_1]:List ByteArray))).bind fun t634=>(if t634=τ then ((impl_isSome.f a0_2).bind fun t635=>(if t635=τ then ((impl_isSome.f a0_3).bind fun t636=>(if t636=τ then ((impl_within.f a0_4 0 a0_2).bind fun t637=>(if t637=τ then (some ((decide (a0_4 > 0)) == a0_5)) else (some φ))) else (some φ))) else (some φ))) else (some φ))) else (some φ))
set_option maxHeartbeats 8000000 in
set_option maxRecDepth 100000 in
theorem impl_OrderOK.calls (k:Nat) (a0_0:ByteArray) (a0_1:ByteArray) (a0_2:Int) (a0_3:Int) (a0_4:Int) (a0_5:Bool) (r:Bool) (w:World) (h:impl_OrderOK.f k a0_0 a0_1 a0_2 a0_3 a0_4 a0_5=some r) :
  Calls Tryz.prog 106 #[.agg #[.string a0_0,.string a0_1,.int .i64 a0_2,.int .i64 a0_3,.int .i64 a0_4,.bool a0_5]] w fun e w'=>e = .returned (.bool r)∧Below w.heap.size w w':=by
 have hu66:=Tryz.underlying66
 have HB:=ζa (Below.refl w.heap.size w)
 have H:((impl_areNames.f k (([a0_0]:List ByteArray))).bind fun t630=>(if t630=τ then ((impl_isPeople.f k (([a0_1]:List ByteArray))).bind fun t634=>(if t634=τ then ((impl_isSome.f a0_2).bind fun t635=>(if t635=τ then ((impl_isSome.f a0_3).bind fun t636=>(if t636=τ then ((impl_within.f a0_4 0 a0_2).bind fun t637=>(if t637=τ then (some ((decide (a0_4 > 0)) == a0_5)) else (some φ))) else (some φ))) else (some φ))) else (some φ))) else (some φ)))=some r:=h
 clear h
 obtain ⟨y627,hy627⟩ : ∃ y_:List ByteArray,y_=(([a0_0]:List ByteArray)):=⟨_,rfl⟩
 replace H:((impl_areNames.f k y627).bind fun t630=>(if t630=τ then ((impl_isPeople.f k (([a0_1]:List ByteArray))).bind fun t634=>(if t634=τ then ((impl_isSome.f a0_2).bind fun t635=>(if t635=τ then ((impl_isSome.f a0_3).bind fun t636=>(if t636=τ then ((impl_within.f a0_4 0 a0_2).bind fun t637=>(if t637=τ then (some ((decide (a0_4 > 0)) == a0_5)) else (some φ))) else (some φ))) else (some φ))) else (some φ))) else (some φ)))=some r:=by (rw [hy627];with_reducible exact H)
 have Ny627:=ζa hy627
 clear hy627
 replace H:=Option.bind_eq_some_iff.mp H
 obtain ⟨t630,A20,H⟩:=H
 replace H:(if t630=τ then ((impl_isPeople.f k (([a0_1]:List ByteArray))).bind fun t634=>(if t634=τ then ((impl_isSome.f a0_2).bind fun t635=>(if t635=τ then ((impl_isSome.f a0_3).bind fun t636=>(if t636=τ then ((impl_within.f a0_4 0 a0_2).bind fun t637=>(if t637=τ then (some ((decide (a0_4 > 0)) == a0_5)) else (some φ))) else (some φ))) else (some φ))) else (some φ))) else (some φ))=some r:=H
 have A2:=ζa A20
 clear A20
 by_cases c3:t630=τ
 ·
  subst c3
  have H1:((impl_isPeople.f k (([a0_1]:List ByteArray))).bind fun t634=>(if t634=τ then ((impl_isSome.f a0_2).bind fun t635=>(if t635=τ then ((impl_isSome.f a0_3).bind fun t636=>(if t636=τ then ((impl_within.f a0_4 0 a0_2).bind fun t637=>(if t637=τ then (some ((decide (a0_4 > 0)) == a0_5)) else (some φ))) else (some φ))) else (some φ))) else (some φ)))=some r:=by rw [if_pos rfl] at H;exact H
  clear H
  have H:=H1
  clear H1
  obtain ⟨y631,hy631⟩ : ∃ y_:List ByteArray,y_=(([a0_1]:List ByteArray)):=⟨_,rfl⟩
  replace H:((impl_isPeople.f k y631).bind fun t634=>(if t634=τ then ((impl_isSome.f a0_2).bind fun t635=>(if t635=τ then ((impl_isSome.f a0_3).bind fun t636=>(if t636=τ then ((impl_within.f a0_4 0 a0_2).bind fun t637=>(if t637=τ then (some ((decide (a0_4 > 0)) == a0_5)) else (some φ))) else (some φ))) else (some φ))) else (some φ)))=some r:=by (rw [hy631];with_reducible exact H)
  have Ny631:=ζa hy631
  clear hy631
  replace H:=Option.bind_eq_some_iff.mp H
  obtain ⟨t634,A40,H⟩:=H
  replace H:(if t634=τ then ((impl_isSome.f a0_2).bind fun t635=>(if t635=τ then ((impl_isSome.f a0_3).bind fun t636=>(if t636=τ then ((impl_within.f a0_4 0 a0_2).bind fun t637=>(if t637=τ then (some ((decide (a0_4 > 0)) == a0_5)) else (some φ))) else (some φ))) else (some φ))) else (some φ))=some r:=H
  have A4:=ζa A40
  clear A40
  by_cases c5:t634=τ
  ·
   subst c5
   have H1:((impl_isSome.f a0_2).bind fun t635=>(if t635=τ then ((impl_isSome.f a0_3).bind fun t636=>(if t636=τ then ((impl_within.f a0_4 0 a0_2).bind fun t637=>(if t637=τ then (some ((decide (a0_4 > 0)) == a0_5)) else (some φ))) else (some φ))) else (some φ)))=some r:=by rw [if_pos rfl] at H;exact H
   clear H
   have H:=H1
   clear H1
   replace H:=Option.bind_eq_some_iff.mp H
   obtain ⟨t635,A60,H⟩:=H
   replace H:(if t635=τ then ((impl_isSome.f a0_3).bind fun t636=>(if t636=τ then ((impl_within.f a0_4 0 a0_2).bind fun t637=>(if t637=τ then (some ((decide (a0_4 > 0)) == a0_5)) else (some φ))) else (some φ))) else (some φ))=some r:=H
   have A6:=ζa A60
   clear A60
   by_cases c7:t635=τ
   ·
    subst c7
    have H1:((impl_isSome.f a0_3).bind fun t636=>(if t636=τ then ((impl_within.f a0_4 0 a0_2).bind fun t637=>(if t637=τ then (some ((decide (a0_4 > 0)) == a0_5)) else (some φ))) else (some φ)))=some r:=by rw [if_pos rfl] at H;exact H
    clear H
    have H:=H1
    clear H1
    replace H:=Option.bind_eq_some_iff.mp H
    obtain ⟨t636,A80,H⟩:=H
    replace H:(if t636=τ then ((impl_within.f a0_4 0 a0_2).bind fun t637=>(if t637=τ then (some ((decide (a0_4 > 0)) == a0_5)) else (some φ))) else (some φ))=some r:=H
    have A8:=ζa A80
    clear A80
    by_cases c9:t636=τ
    ·
     subst c9
     have H1:((impl_within.f a0_4 0 a0_2).bind fun t637=>(if t637=τ then (some ((decide (a0_4 > 0)) == a0_5)) else (some φ)))=some r:=by rw [if_pos rfl] at H;exact H
     clear H
     have H:=H1
     clear H1
     replace H:=Option.bind_eq_some_iff.mp H
     obtain ⟨t637,A100,H⟩:=H
     replace H:(if t637=τ then (some ((decide (a0_4 > 0)) == a0_5)) else (some φ))=some r:=H
     have A10:=ζa A100
     clear A100
     by_cases c11:t637=τ
     ·
      subst c11
      have H1:(some ((decide (a0_4 > 0)) == a0_5))=some r:=by rw [if_pos rfl] at H;exact H
      clear H
      have H:=H1
      clear H1
      obtain rfl:=Option.some.inj H
      go_enter Tryz.func106,Tryz.ntmps106
      go_wp2_with (first|((with_reducible refine δx (N:=1) rfl ?_);(try (refine gate_guard (by rfl) ?_;dsimp only));refine δz ?hg (N:=1) ?hd (cs:=#[.string a0_0,.string a0_1,.int .i64 a0_2,.int .i64 a0_3,.int .i64 a0_4,.bool a0_5]) (t:=66) ?hr ?_;(case hd=>rfl);(case hg=>rfl);(case hr=>(go_simp;done));intro gb626 hg w12 hbox hb;have n0_:=ζa (δr (by exact HB.out) hb);have n1_:=ζa (hbox);have n2_:=ζa ((by rw [hg];exact (δs (by exact HB.out)):w.heap.size≤gb626));have n3_:=ζa ((by rw [hg];exact (δs (by exact HB.out)):w.heap.size≤gb626));clear HB;have HB:=n0_;have BK626:=n1_;have GW626:=n2_;have GE626:=n3_;clear n0_ n1_ n2_ n3_;clear hb hbox hg;have hcz13_0:w12.cell? ⟨gb626,0,none⟩=some (.string a0_0):=(δl BK626.out 0).trans rfl;have hcz13_1:w12.cell? ⟨gb626,1,none⟩=some (.string a0_1):=(δl BK626.out 1).trans rfl;have hcz13_2:w12.cell? ⟨gb626,2,none⟩=some (.int .i64 a0_2):=(δl BK626.out 2).trans rfl;have hcz13_3:w12.cell? ⟨gb626,3,none⟩=some (.int .i64 a0_3):=(δl BK626.out 3).trans rfl;have hcz13_4:w12.cell? ⟨gb626,4,none⟩=some (.int .i64 a0_4):=(δl BK626.out 4).trans rfl;have hcz13_5:w12.cell? ⟨gb626,5,none⟩=some (.bool a0_5):=(δl BK626.out 5).trans rfl;have hfz13_0:=δm BK626.out 0;have hfz13_1:=δm BK626.out 1;have hfz13_2:=δm BK626.out 2;have hfz13_3:=δm BK626.out 3;have hfz13_4:=δm BK626.out 4;have hfz13_5:=δm BK626.out 5)|((with_reducible refine δx (N:=5) rfl ?_);(try (refine gate_guard (by rfl) ?_;dsimp only));refine Kd.R_lit Kd.string _ 9 ?hg (N:=5) ?hd (xs:=([a0_0]:List ByteArray)) (inner:=[.string a0_0]) (ok:=fun _=>True) (okp:=fun _=>True) ?hr ?hp (fun _ hk=>hk) trivial (Below.refl _ _) (Nat.le_refl _) (by simp) ?_;(case hd=>rfl);(case hg=>rfl);(case hr=>(go_simp;done));(case hp=>exact (Reps.one (show Kd.M Kd.string _ _ _ a0_0 [.string a0_0] from rfl) (Reps.none _ _)));intro v628 w14 ho15 hb hg_ hnew_;clear hg_ hnew_;(rw [← Ny627.out] at ho15);have n0_:=ζa (Kd.R_lower ho15 (δs (by exact HB.out)));have n1_:=ζa (blk_below (g:=gb626) (o:=.cells #[.string a0_0,.string a0_1,.int .i64 a0_2,.int .i64 a0_3,.int .i64 a0_4,.bool a0_5] 66 (0,0)) (by exact BK626.out) hb);have n2_:=ζa (δr (by exact HB.out) hb);clear BK626;clear HB;have HO629:=n0_;have BK626:=n1_;have HB:=n2_;clear n0_ n1_ n2_;clear hb ho15;obtain ⟨Ao16,co16,eo16⟩:=Kd.R_slice HO629.out;subst eo16)|((with_reducible refine δv (f:=63) rfl ?_);refine goesL_ (some 6) rfl rfl Tryz.func63 (by kernel_rfl) rfl #[.slice Ao16 y627.length co16] rfl (by (try simp only [δd,δe,δf]);rfl) ?_;(with_reducible refine (impl_areNames.calls k _ _ y627 τ _ ?side1 ?side2 A2.out).mono ?_);(case side1=>repeat (exact (ζg HO629.out).2.2));(case side2=>exact (ζg HO629.out).2.1);rintro e w' ⟨rfl,⟨nd,rfl⟩⟩;refine ⟨_,rfl,?_⟩;have hcz17_0:w14.cell? ⟨gb626,0,none⟩=some (.string a0_0):=(δl BK626.out 0).trans rfl;have hcz17_1:w14.cell? ⟨gb626,1,none⟩=some (.string a0_1):=(δl BK626.out 1).trans rfl;have hcz17_2:w14.cell? ⟨gb626,2,none⟩=some (.int .i64 a0_2):=(δl BK626.out 2).trans rfl;have hcz17_3:w14.cell? ⟨gb626,3,none⟩=some (.int .i64 a0_3):=(δl BK626.out 3).trans rfl;have hcz17_4:w14.cell? ⟨gb626,4,none⟩=some (.int .i64 a0_4):=(δl BK626.out 4).trans rfl;have hcz17_5:w14.cell? ⟨gb626,5,none⟩=some (.bool a0_5):=(δl BK626.out 5).trans rfl;have hfz17_0:=δm BK626.out 0;have hfz17_1:=δm BK626.out 1;have hfz17_2:=δm BK626.out 2;have hfz17_3:=δm BK626.out 3;have hfz17_4:=δm BK626.out 4;have hfz17_5:=δm BK626.out 5)|((with_reducible refine δx (N:=10) rfl ?_);(try (refine gate_guard (by rfl) ?_;dsimp only));refine Kd.R_lit Kd.string _ 9 ?hg (N:=10) ?hd (xs:=([a0_1]:List ByteArray)) (inner:=[.string a0_1]) (ok:=fun _=>True) (okp:=fun _=>True) ?hr ?hp (fun _ hk=>hk) trivial (Below.refl _ _) (Nat.le_refl _) (by simp) ?_;(case hd=>rfl);(case hg=>rfl);(case hr=>(go_simp;done));(case hp=>exact (Reps.one (show Kd.M Kd.string _ _ _ a0_1 [.string a0_1] from rfl) (Reps.none _ _)));intro v632 w18 ho19 hb hg_ hnew_;clear hg_ hnew_;(rw [← Ny631.out] at ho19);have n0_:=ζa (Kd.R_elder' (by (with_reducible repeat (apply ζc));exact HO629.out) (Kd.R_base ho19) hb);have n1_:=ζa (Kd.R_lower (Kd.R_new' ho19 (Kd.R_lt (by (with_reducible repeat (apply ζc));exact HO629.out))) (δs (by repeat ((with_reducible first|exact HB.out|apply δi)))));have n2_:=ζa (blk_below (g:=gb626) (o:=.cells #[.string a0_0,.string a0_1,.int .i64 a0_2,.int .i64 a0_3,.int .i64 a0_4,.bool a0_5] 66 (0,0)) (by (with_reducible repeat (refine δn ?_ _));exact BK626.out) hb);have n3_:=ζa (δr (by repeat ((with_reducible first|exact HB.out|apply δi))) hb);clear HO629;clear BK626;clear HB;have HO629:=n0_;have HO633:=n1_;have BK626:=n2_;have HB:=n3_;clear n0_ n1_ n2_ n3_;clear hb ho19;obtain ⟨Ao20,co20,eo20⟩:=Kd.R_slice HO633.out;subst eo20)|(go_at_call 121;(with_reducible refine (impl_isPeople.calls k _ _ y631 τ _ ?side1 ?side2 A4.out).mono ?_);(case side1=>repeat (exact (ζg HO633.out).2.2));(case side2=>exact (ζg HO633.out).2.1);rintro e w' ⟨rfl,⟨nd,rfl⟩⟩;have hcz21_0:w18.cell? ⟨gb626,0,none⟩=some (.string a0_0):=(δl BK626.out 0).trans rfl;have hcz21_1:w18.cell? ⟨gb626,1,none⟩=some (.string a0_1):=(δl BK626.out 1).trans rfl;have hcz21_2:w18.cell? ⟨gb626,2,none⟩=some (.int .i64 a0_2):=(δl BK626.out 2).trans rfl;have hcz21_3:w18.cell? ⟨gb626,3,none⟩=some (.int .i64 a0_3):=(δl BK626.out 3).trans rfl;have hcz21_4:w18.cell? ⟨gb626,4,none⟩=some (.int .i64 a0_4):=(δl BK626.out 4).trans rfl;have hcz21_5:w18.cell? ⟨gb626,5,none⟩=some (.bool a0_5):=(δl BK626.out 5).trans rfl;have hfz21_0:=δm BK626.out 0;have hfz21_1:=δm BK626.out 1;have hfz21_2:=δm BK626.out 2;have hfz21_3:=δm BK626.out 3;have hfz21_4:=δm BK626.out 4;have hfz21_5:=δm BK626.out 5)|(go_at_call 122;(with_reducible refine (impl_isSome.calls a0_2 τ _ A6.out).mono ?_);rintro e w' ⟨rfl,⟨nd,rfl⟩⟩)|(go_at_call 122;(with_reducible refine (impl_isSome.calls a0_3 τ _ A8.out).mono ?_);rintro e w' ⟨rfl,⟨nd,rfl⟩⟩)|(go_at_call 161;(with_reducible refine (impl_within.calls a0_4 0 a0_2 τ _ A10.out).mono ?_);rintro e w' ⟨rfl,⟨nd,rfl⟩⟩))
      go_ret
      exact ⟨by rfl,by repeat ((with_reducible first|exact HB.out|apply δi))⟩
     ·
      replace c11:=Bool.eq_false_iff.mpr c11
      subst c11
      have H1:(some φ)=some r:=by rw [if_neg (show ¬ (φ=τ) by decide)] at H;exact H
      clear H
      have H:=H1
      clear H1
      obtain rfl:=Option.some.inj H
      go_enter Tryz.func106,Tryz.ntmps106
      go_wp2_with (first|((with_reducible refine δx (N:=1) rfl ?_);(try (refine gate_guard (by rfl) ?_;dsimp only));refine δz ?hg (N:=1) ?hd (cs:=#[.string a0_0,.string a0_1,.int .i64 a0_2,.int .i64 a0_3,.int .i64 a0_4,.bool a0_5]) (t:=66) ?hr ?_;(case hd=>rfl);(case hg=>rfl);(case hr=>(go_simp;done));intro gb626 hg w22 hbox hb;have n0_:=ζa (δr (by exact HB.out) hb);have n1_:=ζa (hbox);have n2_:=ζa ((by rw [hg];exact (δs (by exact HB.out)):w.heap.size≤gb626));have n3_:=ζa ((by rw [hg];exact (δs (by exact HB.out)):w.heap.size≤gb626));clear HB;have HB:=n0_;have BK626:=n1_;have GW626:=n2_;have GE626:=n3_;clear n0_ n1_ n2_ n3_;clear hb hbox hg;have hcz23_0:w22.cell? ⟨gb626,0,none⟩=some (.string a0_0):=(δl BK626.out 0).trans rfl;have hcz23_1:w22.cell? ⟨gb626,1,none⟩=some (.string a0_1):=(δl BK626.out 1).trans rfl;have hcz23_2:w22.cell? ⟨gb626,2,none⟩=some (.int .i64 a0_2):=(δl BK626.out 2).trans rfl;have hcz23_3:w22.cell? ⟨gb626,3,none⟩=some (.int .i64 a0_3):=(δl BK626.out 3).trans rfl;have hcz23_4:w22.cell? ⟨gb626,4,none⟩=some (.int .i64 a0_4):=(δl BK626.out 4).trans rfl;have hcz23_5:w22.cell? ⟨gb626,5,none⟩=some (.bool a0_5):=(δl BK626.out 5).trans rfl;have hfz23_0:=δm BK626.out 0;have hfz23_1:=δm BK626.out 1;have hfz23_2:=δm BK626.out 2;have hfz23_3:=δm BK626.out 3;have hfz23_4:=δm BK626.out 4;have hfz23_5:=δm BK626.out 5)|((with_reducible refine δx (N:=5) rfl ?_);(try (refine gate_guard (by rfl) ?_;dsimp only));refine Kd.R_lit Kd.string _ 9 ?hg (N:=5) ?hd (xs:=([a0_0]:List ByteArray)) (inner:=[.string a0_0]) (ok:=fun _=>True) (okp:=fun _=>True) ?hr ?hp (fun _ hk=>hk) trivial (Below.refl _ _) (Nat.le_refl _) (by simp) ?_;(case hd=>rfl);(case hg=>rfl);(case hr=>(go_simp;done));(case hp=>exact (Reps.one (show Kd.M Kd.string _ _ _ a0_0 [.string a0_0] from rfl) (Reps.none _ _)));intro v628 w24 ho25 hb hg_ hnew_;clear hg_ hnew_;(rw [← Ny627.out] at ho25);have n0_:=ζa (Kd.R_lower ho25 (δs (by exact HB.out)));have n1_:=ζa (blk_below (g:=gb626) (o:=.cells #[.string a0_0,.string a0_1,.int .i64 a0_2,.int .i64 a0_3,.int .i64 a0_4,.bool a0_5] 66 (0,0)) (by exact BK626.out) hb);have n2_:=ζa (δr (by exact HB.out) hb);clear BK626;clear HB;have HO629:=n0_;have BK626:=n1_;have HB:=n2_;clear n0_ n1_ n2_;clear hb ho25;obtain ⟨Ao26,co26,eo26⟩:=Kd.R_slice HO629.out;subst eo26)|((with_reducible refine δv (f:=63) rfl ?_);refine goesL_ (some 6) rfl rfl Tryz.func63 (by kernel_rfl) rfl #[.slice Ao26 y627.length co26] rfl (by (try simp only [δd,δe,δf]);rfl) ?_;(with_reducible refine (impl_areNames.calls k _ _ y627 τ _ ?side1 ?side2 A2.out).mono ?_);(case side1=>repeat (exact (ζg HO629.out).2.2));(case side2=>exact (ζg HO629.out).2.1);rintro e w' ⟨rfl,⟨nd,rfl⟩⟩;refine ⟨_,rfl,?_⟩;have hcz27_0:w24.cell? ⟨gb626,0,none⟩=some (.string a0_0):=(δl BK626.out 0).trans rfl;have hcz27_1:w24.cell? ⟨gb626,1,none⟩=some (.string a0_1):=(δl BK626.out 1).trans rfl;have hcz27_2:w24.cell? ⟨gb626,2,none⟩=some (.int .i64 a0_2):=(δl BK626.out 2).trans rfl;have hcz27_3:w24.cell? ⟨gb626,3,none⟩=some (.int .i64 a0_3):=(δl BK626.out 3).trans rfl;have hcz27_4:w24.cell? ⟨gb626,4,none⟩=some (.int .i64 a0_4):=(δl BK626.out 4).trans rfl;have hcz27_5:w24.cell? ⟨gb626,5,none⟩=some (.bool a0_5):=(δl BK626.out 5).trans rfl;have hfz27_0:=δm BK626.out 0;have hfz27_1:=δm BK626.out 1;have hfz27_2:=δm BK626.out 2;have hfz27_3:=δm BK626.out 3;have hfz27_4:=δm BK626.out 4;have hfz27_5:=δm BK626.out 5)|((with_reducible refine δx (N:=10) rfl ?_);(try (refine gate_guard (by rfl) ?_;dsimp only));refine Kd.R_lit Kd.string _ 9 ?hg (N:=10) ?hd (xs:=([a0_1]:List ByteArray)) (inner:=[.string a0_1]) (ok:=fun _=>True) (okp:=fun _=>True) ?hr ?hp (fun _ hk=>hk) trivial (Below.refl _ _) (Nat.le_refl _) (by simp) ?_;(case hd=>rfl);(case hg=>rfl);(case hr=>(go_simp;done));(case hp=>exact (Reps.one (show Kd.M Kd.string _ _ _ a0_1 [.string a0_1] from rfl) (Reps.none _ _)));intro v632 w28 ho29 hb hg_ hnew_;clear hg_ hnew_;(rw [← Ny631.out] at ho29);have n0_:=ζa (Kd.R_elder' (by (with_reducible repeat (apply ζc));exact HO629.out) (Kd.R_base ho29) hb);have n1_:=ζa (Kd.R_lower (Kd.R_new' ho29 (Kd.R_lt (by (with_reducible repeat (apply ζc));exact HO629.out))) (δs (by repeat ((with_reducible first|exact HB.out|apply δi)))));have n2_:=ζa (blk_below (g:=gb626) (o:=.cells #[.string a0_0,.string a0_1,.int .i64 a0_2,.int .i64 a0_3,.int .i64 a0_4,.bool a0_5] 66 (0,0)) (by (with_reducible repeat (refine δn ?_ _));exact BK626.out) hb);have n3_:=ζa (δr (by repeat ((with_reducible first|exact HB.out|apply δi))) hb);clear HO629;clear BK626;clear HB;have HO629:=n0_;have HO633:=n1_;have BK626:=n2_;have HB:=n3_;clear n0_ n1_ n2_ n3_;clear hb ho29;obtain ⟨Ao30,co30,eo30⟩:=Kd.R_slice HO633.out;subst eo30)|(go_at_call 121;(with_reducible refine (impl_isPeople.calls k _ _ y631 τ _ ?side1 ?side2 A4.out).mono ?_);(case side1=>repeat (exact (ζg HO633.out).2.2));(case side2=>exact (ζg HO633.out).2.1);rintro e w' ⟨rfl,⟨nd,rfl⟩⟩;have hcz31_0:w28.cell? ⟨gb626,0,none⟩=some (.string a0_0):=(δl BK626.out 0).trans rfl;have hcz31_1:w28.cell? ⟨gb626,1,none⟩=some (.string a0_1):=(δl BK626.out 1).trans rfl;have hcz31_2:w28.cell? ⟨gb626,2,none⟩=some (.int .i64 a0_2):=(δl BK626.out 2).trans rfl;have hcz31_3:w28.cell? ⟨gb626,3,none⟩=some (.int .i64 a0_3):=(δl BK626.out 3).trans rfl;have hcz31_4:w28.cell? ⟨gb626,4,none⟩=some (.int .i64 a0_4):=(δl BK626.out 4).trans rfl;have hcz31_5:w28.cell? ⟨gb626,5,none⟩=some (.bool a0_5):=(δl BK626.out 5).trans rfl;have hfz31_0:=δm BK626.out 0;have hfz31_1:=δm BK626.out 1;have hfz31_2:=δm BK626.out 2;have hfz31_3:=δm BK626.out 3;have hfz31_4:=δm BK626.out 4;have hfz31_5:=δm BK626.out 5)|(go_at_call 122;(with_reducible refine (impl_isSome.calls a0_2 τ _ A6.out).mono ?_);rintro e w' ⟨rfl,⟨nd,rfl⟩⟩)|(go_at_call 122;(with_reducible refine (impl_isSome.calls a0_3 τ _ A8.out).mono ?_);rintro e w' ⟨rfl,⟨nd,rfl⟩⟩)|(go_at_call 161;(with_reducible refine (impl_within.calls a0_4 0 a0_2 φ _ A10.out).mono ?_);rintro e w' ⟨rfl,⟨nd,rfl⟩⟩))
      go_ret
      exact ⟨by rfl,by repeat ((with_reducible first|exact HB.out|apply δi))⟩
    ·
     replace c9:=Bool.eq_false_iff.mpr c9
     subst c9
     have H1:(some φ)=some r:=by rw [if_neg (show ¬ (φ=τ) by decide)] at H;exact H
     clear H
     have H:=H1
     clear H1
     obtain rfl:=Option.some.inj H
     go_enter Tryz.func106,Tryz.ntmps106
     go_wp2_with (first|((with_reducible refine δx (N:=1) rfl ?_);(try (refine gate_guard (by rfl) ?_;dsimp only));refine δz ?hg (N:=1) ?hd (cs:=#[.string a0_0,.string a0_1,.int .i64 a0_2,.int .i64 a0_3,.int .i64 a0_4,.bool a0_5]) (t:=66) ?hr ?_;(case hd=>rfl);(case hg=>rfl);(case hr=>(go_simp;done));intro gb626 hg w32 hbox hb;have n0_:=ζa (δr (by exact HB.out) hb);have n1_:=ζa (hbox);have n2_:=ζa ((by rw [hg];exact (δs (by exact HB.out)):w.heap.size≤gb626));have n3_:=ζa ((by rw [hg];exact (δs (by exact HB.out)):w.heap.size≤gb626));clear HB;have HB:=n0_;have BK626:=n1_;have GW626:=n2_;have GE626:=n3_;clear n0_ n1_ n2_ n3_;clear hb hbox hg;have hcz33_0:w32.cell? ⟨gb626,0,none⟩=some (.string a0_0):=(δl BK626.out 0).trans rfl;have hcz33_1:w32.cell? ⟨gb626,1,none⟩=some (.string a0_1):=(δl BK626.out 1).trans rfl;have hcz33_2:w32.cell? ⟨gb626,2,none⟩=some (.int .i64 a0_2):=(δl BK626.out 2).trans rfl;have hcz33_3:w32.cell? ⟨gb626,3,none⟩=some (.int .i64 a0_3):=(δl BK626.out 3).trans rfl;have hcz33_4:w32.cell? ⟨gb626,4,none⟩=some (.int .i64 a0_4):=(δl BK626.out 4).trans rfl;have hcz33_5:w32.cell? ⟨gb626,5,none⟩=some (.bool a0_5):=(δl BK626.out 5).trans rfl;have hfz33_0:=δm BK626.out 0;have hfz33_1:=δm BK626.out 1;have hfz33_2:=δm BK626.out 2;have hfz33_3:=δm BK626.out 3;have hfz33_4:=δm BK626.out 4;have hfz33_5:=δm BK626.out 5)|((with_reducible refine δx (N:=5) rfl ?_);(try (refine gate_guard (by rfl) ?_;dsimp only));refine Kd.R_lit Kd.string _ 9 ?hg (N:=5) ?hd (xs:=([a0_0]:List ByteArray)) (inner:=[.string a0_0]) (ok:=fun _=>True) (okp:=fun _=>True) ?hr ?hp (fun _ hk=>hk) trivial (Below.refl _ _) (Nat.le_refl _) (by simp) ?_;(case hd=>rfl);(case hg=>rfl);(case hr=>(go_simp;done));(case hp=>exact (Reps.one (show Kd.M Kd.string _ _ _ a0_0 [.string a0_0] from rfl) (Reps.none _ _)));intro v628 w34 ho35 hb hg_ hnew_;clear hg_ hnew_;(rw [← Ny627.out] at ho35);have n0_:=ζa (Kd.R_lower ho35 (δs (by exact HB.out)));have n1_:=ζa (blk_below (g:=gb626) (o:=.cells #[.string a0_0,.string a0_1,.int .i64 a0_2,.int .i64 a0_3,.int .i64 a0_4,.bool a0_5] 66 (0,0)) (by exact BK626.out) hb);have n2_:=ζa (δr (by exact HB.out) hb);clear BK626;clear HB;have HO629:=n0_;have BK626:=n1_;have HB:=n2_;clear n0_ n1_ n2_;clear hb ho35;obtain ⟨Ao36,co36,eo36⟩:=Kd.R_slice HO629.out;subst eo36)|((with_reducible refine δv (f:=63) rfl ?_);refine goesL_ (some 6) rfl rfl Tryz.func63 (by kernel_rfl) rfl #[.slice Ao36 y627.length co36] rfl (by (try simp only [δd,δe,δf]);rfl) ?_;(with_reducible refine (impl_areNames.calls k _ _ y627 τ _ ?side1 ?side2 A2.out).mono ?_);(case side1=>repeat (exact (ζg HO629.out).2.2));(case side2=>exact (ζg HO629.out).2.1);rintro e w' ⟨rfl,⟨nd,rfl⟩⟩;refine ⟨_,rfl,?_⟩;have hcz37_0:w34.cell? ⟨gb626,0,none⟩=some (.string a0_0):=(δl BK626.out 0).trans rfl;have hcz37_1:w34.cell? ⟨gb626,1,none⟩=some (.string a0_1):=(δl BK626.out 1).trans rfl;have hcz37_2:w34.cell? ⟨gb626,2,none⟩=some (.int .i64 a0_2):=(δl BK626.out 2).trans rfl;have hcz37_3:w34.cell? ⟨gb626,3,none⟩=some (.int .i64 a0_3):=(δl BK626.out 3).trans rfl;have hcz37_4:w34.cell? ⟨gb626,4,none⟩=some (.int .i64 a0_4):=(δl BK626.out 4).trans rfl;have hcz37_5:w34.cell? ⟨gb626,5,none⟩=some (.bool a0_5):=(δl BK626.out 5).trans rfl;have hfz37_0:=δm BK626.out 0;have hfz37_1:=δm BK626.out 1;have hfz37_2:=δm BK626.out 2;have hfz37_3:=δm BK626.out 3;have hfz37_4:=δm BK626.out 4;have hfz37_5:=δm BK626.out 5)|((with_reducible refine δx (N:=10) rfl ?_);(try (refine gate_guard (by rfl) ?_;dsimp only));refine Kd.R_lit Kd.string _ 9 ?hg (N:=10) ?hd (xs:=([a0_1]:List ByteArray)) (inner:=[.string a0_1]) (ok:=fun _=>True) (okp:=fun _=>True) ?hr ?hp (fun _ hk=>hk) trivial (Below.refl _ _) (Nat.le_refl _) (by simp) ?_;(case hd=>rfl);(case hg=>rfl);(case hr=>(go_simp;done));(case hp=>exact (Reps.one (show Kd.M Kd.string _ _ _ a0_1 [.string a0_1] from rfl) (Reps.none _ _)));intro v632 w38 ho39 hb hg_ hnew_;clear hg_ hnew_;(rw [← Ny631.out] at ho39);have n0_:=ζa (Kd.R_elder' (by (with_reducible repeat (apply ζc));exact HO629.out) (Kd.R_base ho39) hb);have n1_:=ζa (Kd.R_lower (Kd.R_new' ho39 (Kd.R_lt (by (with_reducible repeat (apply ζc));exact HO629.out))) (δs (by repeat ((with_reducible first|exact HB.out|apply δi)))));have n2_:=ζa (blk_below (g:=gb626) (o:=.cells #[.string a0_0,.string a0_1,.int .i64 a0_2,.int .i64 a0_3,.int .i64 a0_4,.bool a0_5] 66 (0,0)) (by (with_reducible repeat (refine δn ?_ _));exact BK626.out) hb);have n3_:=ζa (δr (by repeat ((with_reducible first|exact HB.out|apply δi))) hb);clear HO629;clear BK626;clear HB;have HO629:=n0_;have HO633:=n1_;have BK626:=n2_;have HB:=n3_;clear n0_ n1_ n2_ n3_;clear hb ho39;obtain ⟨Ao40,co40,eo40⟩:=Kd.R_slice HO633.out;subst eo40)|(go_at_call 121;(with_reducible refine (impl_isPeople.calls k _ _ y631 τ _ ?side1 ?side2 A4.out).mono ?_);(case side1=>repeat (exact (ζg HO633.out).2.2));(case side2=>exact (ζg HO633.out).2.1);rintro e w' ⟨rfl,⟨nd,rfl⟩⟩;have hcz41_0:w38.cell? ⟨gb626,0,none⟩=some (.string a0_0):=(δl BK626.out 0).trans rfl;have hcz41_1:w38.cell? ⟨gb626,1,none⟩=some (.string a0_1):=(δl BK626.out 1).trans rfl;have hcz41_2:w38.cell? ⟨gb626,2,none⟩=some (.int .i64 a0_2):=(δl BK626.out 2).trans rfl;have hcz41_3:w38.cell? ⟨gb626,3,none⟩=some (.int .i64 a0_3):=(δl BK626.out 3).trans rfl;have hcz41_4:w38.cell? ⟨gb626,4,none⟩=some (.int .i64 a0_4):=(δl BK626.out 4).trans rfl;have hcz41_5:w38.cell? ⟨gb626,5,none⟩=some (.bool a0_5):=(δl BK626.out 5).trans rfl;have hfz41_0:=δm BK626.out 0;have hfz41_1:=δm BK626.out 1;have hfz41_2:=δm BK626.out 2;have hfz41_3:=δm BK626.out 3;have hfz41_4:=δm BK626.out 4;have hfz41_5:=δm BK626.out 5)|(go_at_call 122;(with_reducible refine (impl_isSome.calls a0_2 τ _ A6.out).mono ?_);rintro e w' ⟨rfl,⟨nd,rfl⟩⟩)|(go_at_call 122;(with_reducible refine (impl_isSome.calls a0_3 φ _ A8.out).mono ?_);rintro e w' ⟨rfl,⟨nd,rfl⟩⟩))
     go_ret
     exact ⟨by rfl,by repeat ((with_reducible first|exact HB.out|apply δi))⟩
   ·
    replace c7:=Bool.eq_false_iff.mpr c7
    subst c7
    have H1:(some φ)=some r:=by rw [if_neg (show ¬ (φ=τ) by decide)] at H;exact H
    clear H
    have H:=H1
    clear H1
    obtain rfl:=Option.some.inj H
    go_enter Tryz.func106,Tryz.ntmps106
    go_wp2_with (first|((with_reducible refine δx (N:=1) rfl ?_);(try (refine gate_guard (by rfl) ?_;dsimp only));refine δz ?hg (N:=1) ?hd (cs:=#[.string a0_0,.string a0_1,.int .i64 a0_2,.int .i64 a0_3,.int .i64 a0_4,.bool a0_5]) (t:=66) ?hr ?_;(case hd=>rfl);(case hg=>rfl);(case hr=>(go_simp;done));intro gb626 hg w42 hbox hb;have n0_:=ζa (δr (by exact HB.out) hb);have n1_:=ζa (hbox);have n2_:=ζa ((by rw [hg];exact (δs (by exact HB.out)):w.heap.size≤gb626));have n3_:=ζa ((by rw [hg];exact (δs (by exact HB.out)):w.heap.size≤gb626));clear HB;have HB:=n0_;have BK626:=n1_;have GW626:=n2_;have GE626:=n3_;clear n0_ n1_ n2_ n3_;clear hb hbox hg;have hcz43_0:w42.cell? ⟨gb626,0,none⟩=some (.string a0_0):=(δl BK626.out 0).trans rfl;have hcz43_1:w42.cell? ⟨gb626,1,none⟩=some (.string a0_1):=(δl BK626.out 1).trans rfl;have hcz43_2:w42.cell? ⟨gb626,2,none⟩=some (.int .i64 a0_2):=(δl BK626.out 2).trans rfl;have hcz43_3:w42.cell? ⟨gb626,3,none⟩=some (.int .i64 a0_3):=(δl BK626.out 3).trans rfl;have hcz43_4:w42.cell? ⟨gb626,4,none⟩=some (.int .i64 a0_4):=(δl BK626.out 4).trans rfl;have hcz43_5:w42.cell? ⟨gb626,5,none⟩=some (.bool a0_5):=(δl BK626.out 5).trans rfl;have hfz43_0:=δm BK626.out 0;have hfz43_1:=δm BK626.out 1;have hfz43_2:=δm BK626.out 2;have hfz43_3:=δm BK626.out 3;have hfz43_4:=δm BK626.out 4;have hfz43_5:=δm BK626.out 5)|((with_reducible refine δx (N:=5) rfl ?_);(try (refine gate_guard (by rfl) ?_;dsimp only));refine Kd.R_lit Kd.string _ 9 ?hg (N:=5) ?hd (xs:=([a0_0]:List ByteArray)) (inner:=[.string a0_0]) (ok:=fun _=>True) (okp:=fun _=>True) ?hr ?hp (fun _ hk=>hk) trivial (Below.refl _ _) (Nat.le_refl _) (by simp) ?_;(case hd=>rfl);(case hg=>rfl);(case hr=>(go_simp;done));(case hp=>exact (Reps.one (show Kd.M Kd.string _ _ _ a0_0 [.string a0_0] from rfl) (Reps.none _ _)));intro v628 w44 ho45 hb hg_ hnew_;clear hg_ hnew_;(rw [← Ny627.out] at ho45);have n0_:=ζa (Kd.R_lower ho45 (δs (by exact HB.out)));have n1_:=ζa (blk_below (g:=gb626) (o:=.cells #[.string a0_0,.string a0_1,.int .i64 a0_2,.int .i64 a0_3,.int .i64 a0_4,.bool a0_5] 66 (0,0)) (by exact BK626.out) hb);have n2_:=ζa (δr (by exact HB.out) hb);clear BK626;clear HB;have HO629:=n0_;have BK626:=n1_;have HB:=n2_;clear n0_ n1_ n2_;clear hb ho45;obtain ⟨Ao46,co46,eo46⟩:=Kd.R_slice HO629.out;subst eo46)|((with_reducible refine δv (f:=63) rfl ?_);refine goesL_ (some 6) rfl rfl Tryz.func63 (by kernel_rfl) rfl #[.slice Ao46 y627.length co46] rfl (by (try simp only [δd,δe,δf]);rfl) ?_;(with_reducible refine (impl_areNames.calls k _ _ y627 τ _ ?side1 ?side2 A2.out).mono ?_);(case side1=>repeat (exact (ζg HO629.out).2.2));(case side2=>exact (ζg HO629.out).2.1);rintro e w' ⟨rfl,⟨nd,rfl⟩⟩;refine ⟨_,rfl,?_⟩;have hcz47_0:w44.cell? ⟨gb626,0,none⟩=some (.string a0_0):=(δl BK626.out 0).trans rfl;have hcz47_1:w44.cell? ⟨gb626,1,none⟩=some (.string a0_1):=(δl BK626.out 1).trans rfl;have hcz47_2:w44.cell? ⟨gb626,2,none⟩=some (.int .i64 a0_2):=(δl BK626.out 2).trans rfl;have hcz47_3:w44.cell? ⟨gb626,3,none⟩=some (.int .i64 a0_3):=(δl BK626.out 3).trans rfl;have hcz47_4:w44.cell? ⟨gb626,4,none⟩=some (.int .i64 a0_4):=(δl BK626.out 4).trans rfl;have hcz47_5:w44.cell? ⟨gb626,5,none⟩=some (.bool a0_5):=(δl BK626.out 5).trans rfl;have hfz47_0:=δm BK626.out 0;have hfz47_1:=δm BK626.out 1;have hfz47_2:=δm BK626.out 2;have hfz47_3:=δm BK626.out 3;have hfz47_4:=δm BK626.out 4;have hfz47_5:=δm BK626.out 5)|((with_reducible refine δx (N:=10) rfl ?_);(try (refine gate_guard (by rfl) ?_;dsimp only));refine Kd.R_lit Kd.string _ 9 ?hg (N:=10) ?hd (xs:=([a0_1]:List ByteArray)) (inner:=[.string a0_1]) (ok:=fun _=>True) (okp:=fun _=>True) ?hr ?hp (fun _ hk=>hk) trivial (Below.refl _ _) (Nat.le_refl _) (by simp) ?_;(case hd=>rfl);(case hg=>rfl);(case hr=>(go_simp;done));(case hp=>exact (Reps.one (show Kd.M Kd.string _ _ _ a0_1 [.string a0_1] from rfl) (Reps.none _ _)));intro v632 w48 ho49 hb hg_ hnew_;clear hg_ hnew_;(rw [← Ny631.out] at ho49);have n0_:=ζa (Kd.R_elder' (by (with_reducible repeat (apply ζc));exact HO629.out) (Kd.R_base ho49) hb);have n1_:=ζa (Kd.R_lower (Kd.R_new' ho49 (Kd.R_lt (by (with_reducible repeat (apply ζc));exact HO629.out))) (δs (by repeat ((with_reducible first|exact HB.out|apply δi)))));have n2_:=ζa (blk_below (g:=gb626) (o:=.cells #[.string a0_0,.string a0_1,.int .i64 a0_2,.int .i64 a0_3,.int .i64 a0_4,.bool a0_5] 66 (0,0)) (by (with_reducible repeat (refine δn ?_ _));exact BK626.out) hb);have n3_:=ζa (δr (by repeat ((with_reducible first|exact HB.out|apply δi))) hb);clear HO629;clear BK626;clear HB;have HO629:=n0_;have HO633:=n1_;have BK626:=n2_;have HB:=n3_;clear n0_ n1_ n2_ n3_;clear hb ho49;obtain ⟨Ao50,co50,eo50⟩:=Kd.R_slice HO633.out;subst eo50)|(go_at_call 121;(with_reducible refine (impl_isPeople.calls k _ _ y631 τ _ ?side1 ?side2 A4.out).mono ?_);(case side1=>repeat (exact (ζg HO633.out).2.2));(case side2=>exact (ζg HO633.out).2.1);rintro e w' ⟨rfl,⟨nd,rfl⟩⟩;have hcz51_0:w48.cell? ⟨gb626,0,none⟩=some (.string a0_0):=(δl BK626.out 0).trans rfl;have hcz51_1:w48.cell? ⟨gb626,1,none⟩=some (.string a0_1):=(δl BK626.out 1).trans rfl;have hcz51_2:w48.cell? ⟨gb626,2,none⟩=some (.int .i64 a0_2):=(δl BK626.out 2).trans rfl;have hcz51_3:w48.cell? ⟨gb626,3,none⟩=some (.int .i64 a0_3):=(δl BK626.out 3).trans rfl;have hcz51_4:w48.cell? ⟨gb626,4,none⟩=some (.int .i64 a0_4):=(δl BK626.out 4).trans rfl;have hcz51_5:w48.cell? ⟨gb626,5,none⟩=some (.bool a0_5):=(δl BK626.out 5).trans rfl;have hfz51_0:=δm BK626.out 0;have hfz51_1:=δm BK626.out 1;have hfz51_2:=δm BK626.out 2;have hfz51_3:=δm BK626.out 3;have hfz51_4:=δm BK626.out 4;have hfz51_5:=δm BK626.out 5)|(go_at_call 122;(with_reducible refine (impl_isSome.calls a0_2 φ _ A6.out).mono ?_);rintro e w' ⟨rfl,⟨nd,rfl⟩⟩))
    go_ret
    exact ⟨by rfl,by repeat ((with_reducible first|exact HB.out|apply δi))⟩
  ·
   replace c5:=Bool.eq_false_iff.mpr c5
   subst c5
   have H1:(some φ)=some r:=by rw [if_neg (show ¬ (φ=τ) by decide)] at H;exact H
   clear H
   have H:=H1
   clear H1
   obtain rfl:=Option.some.inj H
   go_enter Tryz.func106,Tryz.ntmps106
   go_wp2_with (first|((with_reducible refine δx (N:=1) rfl ?_);(try (refine gate_guard (by rfl) ?_;dsimp only));refine δz ?hg (N:=1) ?hd (cs:=#[.string a0_0,.string a0_1,.int .i64 a0_2,.int .i64 a0_3,.int .i64 a0_4,.bool a0_5]) (t:=66) ?hr ?_;(case hd=>rfl);(case hg=>rfl);(case hr=>(go_simp;done));intro gb626 hg w52 hbox hb;have n0_:=ζa (δr (by exact HB.out) hb);have n1_:=ζa (hbox);have n2_:=ζa ((by rw [hg];exact (δs (by exact HB.out)):w.heap.size≤gb626));have n3_:=ζa ((by rw [hg];exact (δs (by exact HB.out)):w.heap.size≤gb626));clear HB;have HB:=n0_;have BK626:=n1_;have GW626:=n2_;have GE626:=n3_;clear n0_ n1_ n2_ n3_;clear hb hbox hg;have hcz53_0:w52.cell? ⟨gb626,0,none⟩=some (.string a0_0):=(δl BK626.out 0).trans rfl;have hcz53_1:w52.cell? ⟨gb626,1,none⟩=some (.string a0_1):=(δl BK626.out 1).trans rfl;have hcz53_2:w52.cell? ⟨gb626,2,none⟩=some (.int .i64 a0_2):=(δl BK626.out 2).trans rfl;have hcz53_3:w52.cell? ⟨gb626,3,none⟩=some (.int .i64 a0_3):=(δl BK626.out 3).trans rfl;have hcz53_4:w52.cell? ⟨gb626,4,none⟩=some (.int .i64 a0_4):=(δl BK626.out 4).trans rfl;have hcz53_5:w52.cell? ⟨gb626,5,none⟩=some (.bool a0_5):=(δl BK626.out 5).trans rfl;have hfz53_0:=δm BK626.out 0;have hfz53_1:=δm BK626.out 1;have hfz53_2:=δm BK626.out 2;have hfz53_3:=δm BK626.out 3;have hfz53_4:=δm BK626.out 4;have hfz53_5:=δm BK626.out 5)|((with_reducible refine δx (N:=5) rfl ?_);(try (refine gate_guard (by rfl) ?_;dsimp only));refine Kd.R_lit Kd.string _ 9 ?hg (N:=5) ?hd (xs:=([a0_0]:List ByteArray)) (inner:=[.string a0_0]) (ok:=fun _=>True) (okp:=fun _=>True) ?hr ?hp (fun _ hk=>hk) trivial (Below.refl _ _) (Nat.le_refl _) (by simp) ?_;(case hd=>rfl);(case hg=>rfl);(case hr=>(go_simp;done));(case hp=>exact (Reps.one (show Kd.M Kd.string _ _ _ a0_0 [.string a0_0] from rfl) (Reps.none _ _)));intro v628 w54 ho55 hb hg_ hnew_;clear hg_ hnew_;(rw [← Ny627.out] at ho55);have n0_:=ζa (Kd.R_lower ho55 (δs (by exact HB.out)));have n1_:=ζa (blk_below (g:=gb626) (o:=.cells #[.string a0_0,.string a0_1,.int .i64 a0_2,.int .i64 a0_3,.int .i64 a0_4,.bool a0_5] 66 (0,0)) (by exact BK626.out) hb);have n2_:=ζa (δr (by exact HB.out) hb);clear BK626;clear HB;have HO629:=n0_;have BK626:=n1_;have HB:=n2_;clear n0_ n1_ n2_;clear hb ho55;obtain ⟨Ao56,co56,eo56⟩:=Kd.R_slice HO629.out;subst eo56)|((with_reducible refine δv (f:=63) rfl ?_);refine goesL_ (some 6) rfl rfl Tryz.func63 (by kernel_rfl) rfl #[.slice Ao56 y627.length co56] rfl (by (try simp only [δd,δe,δf]);rfl) ?_;(with_reducible refine (impl_areNames.calls k _ _ y627 τ _ ?side1 ?side2 A2.out).mono ?_);(case side1=>repeat (exact (ζg HO629.out).2.2));(case side2=>exact (ζg HO629.out).2.1);rintro e w' ⟨rfl,⟨nd,rfl⟩⟩;refine ⟨_,rfl,?_⟩;have hcz57_0:w54.cell? ⟨gb626,0,none⟩=some (.string a0_0):=(δl BK626.out 0).trans rfl;have hcz57_1:w54.cell? ⟨gb626,1,none⟩=some (.string a0_1):=(δl BK626.out 1).trans rfl;have hcz57_2:w54.cell? ⟨gb626,2,none⟩=some (.int .i64 a0_2):=(δl BK626.out 2).trans rfl;have hcz57_3:w54.cell? ⟨gb626,3,none⟩=some (.int .i64 a0_3):=(δl BK626.out 3).trans rfl;have hcz57_4:w54.cell? ⟨gb626,4,none⟩=some (.int .i64 a0_4):=(δl BK626.out 4).trans rfl;have hcz57_5:w54.cell? ⟨gb626,5,none⟩=some (.bool a0_5):=(δl BK626.out 5).trans rfl;have hfz57_0:=δm BK626.out 0;have hfz57_1:=δm BK626.out 1;have hfz57_2:=δm BK626.out 2;have hfz57_3:=δm BK626.out 3;have hfz57_4:=δm BK626.out 4;have hfz57_5:=δm BK626.out 5)|((with_reducible refine δx (N:=10) rfl ?_);(try (refine gate_guard (by rfl) ?_;dsimp only));refine Kd.R_lit Kd.string _ 9 ?hg (N:=10) ?hd (xs:=([a0_1]:List ByteArray)) (inner:=[.string a0_1]) (ok:=fun _=>True) (okp:=fun _=>True) ?hr ?hp (fun _ hk=>hk) trivial (Below.refl _ _) (Nat.le_refl _) (by simp) ?_;(case hd=>rfl);(case hg=>rfl);(case hr=>(go_simp;done));(case hp=>exact (Reps.one (show Kd.M Kd.string _ _ _ a0_1 [.string a0_1] from rfl) (Reps.none _ _)));intro v632 w58 ho59 hb hg_ hnew_;clear hg_ hnew_;(rw [← Ny631.out] at ho59);have n0_:=ζa (Kd.R_elder' (by (with_reducible repeat (apply ζc));exact HO629.out) (Kd.R_base ho59) hb);have n1_:=ζa (Kd.R_lower (Kd.R_new' ho59 (Kd.R_lt (by (with_reducible repeat (apply ζc));exact HO629.out))) (δs (by repeat ((with_reducible first|exact HB.out|apply δi)))));have n2_:=ζa (blk_below (g:=gb626) (o:=.cells #[.string a0_0,.string a0_1,.int .i64 a0_2,.int .i64 a0_3,.int .i64 a0_4,.bool a0_5] 66 (0,0)) (by (with_reducible repeat (refine δn ?_ _));exact BK626.out) hb);have n3_:=ζa (δr (by repeat ((with_reducible first|exact HB.out|apply δi))) hb);clear HO629;clear BK626;clear HB;have HO629:=n0_;have HO633:=n1_;have BK626:=n2_;have HB:=n3_;clear n0_ n1_ n2_ n3_;clear hb ho59;obtain ⟨Ao60,co60,eo60⟩:=Kd.R_slice HO633.out;subst eo60)|(go_at_call 121;(with_reducible refine (impl_isPeople.calls k _ _ y631 φ _ ?side1 ?side2 A4.out).mono ?_);(case side1=>repeat (exact (ζg HO633.out).2.2));(case side2=>exact (ζg HO633.out).2.1);rintro e w' ⟨rfl,⟨nd,rfl⟩⟩))
   go_ret
   exact ⟨by rfl,by repeat ((with_reducible first|exact HB.out|apply δi))⟩
 ·
  replace c3:=Bool.eq_false_iff.mpr c3
  subst c3
  have H1:(some φ)=some r:=by rw [if_neg (show ¬ (φ=τ) by decide)] at H;exact H
  clear H
  have H:=H1
  clear H1
  obtain rfl:=Option.some.inj H
  go_enter Tryz.func106,Tryz.ntmps106
  go_wp2_with (first|((with_reducible refine δx (N:=1) rfl ?_);(try (refine gate_guard (by rfl) ?_;dsimp only));refine δz ?hg (N:=1) ?hd (cs:=#[.string a0_0,.string a0_1,.int .i64 a0_2,.int .i64 a0_3,.int .i64 a0_4,.bool a0_5]) (t:=66) ?hr ?_;(case hd=>rfl);(case hg=>rfl);(case hr=>(go_simp;done));intro gb626 hg w61 hbox hb;have n0_:=ζa (δr (by exact HB.out) hb);have n1_:=ζa (hbox);have n2_:=ζa ((by rw [hg];exact (δs (by exact HB.out)):w.heap.size≤gb626));have n3_:=ζa ((by rw [hg];exact (δs (by exact HB.out)):w.heap.size≤gb626));clear HB;have HB:=n0_;have BK626:=n1_;have GW626:=n2_;have GE626:=n3_;clear n0_ n1_ n2_ n3_;clear hb hbox hg;have hcz62_0:w61.cell? ⟨gb626,0,none⟩=some (.string a0_0):=(δl BK626.out 0).trans rfl;have hcz62_1:w61.cell? ⟨gb626,1,none⟩=some (.string a0_1):=(δl BK626.out 1).trans rfl;have hcz62_2:w61.cell? ⟨gb626,2,none⟩=some (.int .i64 a0_2):=(δl BK626.out 2).trans rfl;have hcz62_3:w61.cell? ⟨gb626,3,none⟩=some (.int .i64 a0_3):=(δl BK626.out 3).trans rfl;have hcz62_4:w61.cell? ⟨gb626,4,none⟩=some (.int .i64 a0_4):=(δl BK626.out 4).trans rfl;have hcz62_5:w61.cell? ⟨gb626,5,none⟩=some (.bool a0_5):=(δl BK626.out 5).trans rfl;have hfz62_0:=δm BK626.out 0;have hfz62_1:=δm BK626.out 1;have hfz62_2:=δm BK626.out 2;have hfz62_3:=δm BK626.out 3;have hfz62_4:=δm BK626.out 4;have hfz62_5:=δm BK626.out 5)|((with_reducible refine δx (N:=5) rfl ?_);(try (refine gate_guard (by rfl) ?_;dsimp only));refine Kd.R_lit Kd.string _ 9 ?hg (N:=5) ?hd (xs:=([a0_0]:List ByteArray)) (inner:=[.string a0_0]) (ok:=fun _=>True) (okp:=fun _=>True) ?hr ?hp (fun _ hk=>hk) trivial (Below.refl _ _) (Nat.le_refl _) (by simp) ?_;(case hd=>rfl);(case hg=>rfl);(case hr=>(go_simp;done));(case hp=>exact (Reps.one (show Kd.M Kd.string _ _ _ a0_0 [.string a0_0] from rfl) (Reps.none _ _)));intro v628 w63 ho64 hb hg_ hnew_;clear hg_ hnew_;(rw [← Ny627.out] at ho64);have n0_:=ζa (Kd.R_lower ho64 (δs (by exact HB.out)));have n1_:=ζa (blk_below (g:=gb626) (o:=.cells #[.string a0_0,.string a0_1,.int .i64 a0_2,.int .i64 a0_3,.int .i64 a0_4,.bool a0_5] 66 (0,0)) (by exact BK626.out) hb);have n2_:=ζa (δr (by exact HB.out) hb);clear BK626;clear HB;have HO629:=n0_;have BK626:=n1_;have HB:=n2_;clear n0_ n1_ n2_;clear hb ho64;obtain ⟨Ao65,co65,eo65⟩:=Kd.R_slice HO629.out;subst eo65)|((with_reducible refine δv (f:=63) rfl ?_);refine goesL_ (some 6) rfl rfl Tryz.func63 (by kernel_rfl) rfl #[.slice Ao65 y627.length co65] rfl (by (try simp only [δd,δe,δf]);rfl) ?_;(with_reducible refine (impl_areNames.calls k _ _ y627 φ _ ?side1 ?side2 A2.out).mono ?_);(case side1=>repeat (exact (ζg HO629.out).2.2));(case side2=>exact (ζg HO629.out).2.1);rintro e w' ⟨rfl,⟨nd,rfl⟩⟩;refine ⟨_,rfl,?_⟩))
  go_ret
  exact ⟨by rfl,by repeat ((with_reducible first|exact HB.out|apply δi))⟩

end Go.Proofs.YtabmfhnhmoiljaaGreatDoor.Q
