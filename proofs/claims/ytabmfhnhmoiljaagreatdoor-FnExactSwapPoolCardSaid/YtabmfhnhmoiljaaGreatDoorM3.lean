/- Parts of the proof: what single Go functions compute, each with its walk, and plain laws over these. -/
import Derived.Test.YtabmfhnhmoiljaaGreatDoorM0
import Derived.Test.YtabmfhnhmoiljaaGreatDoorM2
namespace Go.Proofs.YtabmfhnhmoiljaaGreatDoor.Q
open Go.RowKit Go.Proofs.YtabmfhnhmoiljaaGreatDoorW.PrintWords Go.Proofs.YtabmfhnhmoiljaaGreatDoorW.PrintLast Go.Proofs.YtabmfhnhmoiljaaGreatDoorW.PrintMore
open Go.RowKit renaming wrap64 → ζm
open Go.Proofs.YtabmfhnhmoiljaaGreatDoorW.PrintWords.Aside0 renaming mk → ζa
open Go.Proofs.YtabmfhnhmoiljaaGreatDoorW.PrintWords renaming gate_callee → δv
open List renaming map_toArray → δd, map_cons → δe, map_nil → δf
open Bool renaming true → τ, false → φ
attribute [local go_sem] max2_int min2_int max_two min_two max_three min_three max_four min_four   -- for this text's walks alone
set_option linter.unusedVariables false
set_option linter.unusedSimpArgs false

/-! ### impl_AddAmount: function 188 -/
def impl_AddAmount.j0:Nat→Int→Int→Bool→Option (Int × Int)
 | 0,_,_,_=>none
 | k+1,x0,x1,x6=>if x6=τ then (some (0,4)) else (if (ζm (x0+x1)) > 1000000000000000000 then (some (0,13)) else (some (ζm (x0+x1),0)))
def impl_AddAmount.f (k:Nat) (a0:Int) (a1:Int):Option (Int × Int):=(impl_isAmount.f a0).bind fun t238=>(if t238=τ then ((impl_isAmount.f a1).bind fun t239=>(impl_AddAmount.j0 k a0 a1 (!t239))) else (impl_AddAmount.j0 k a0 a1 τ))
set_option maxHeartbeats 8000000 in
set_option maxRecDepth 100000 in
theorem impl_AddAmount.calls (k:Nat) (a0:Int) (a1:Int) (r1:Int) (r2:Int) (w:World) (h:impl_AddAmount.f k a0 a1=some (r1,r2)) :
  Calls Tryz.prog 188 #[.int .i64 a0,.int .i64 a1] w fun e w'=>e = .returned (.tuple #[.int .i64 r1,.int .i64 r2])∧Drawn0 w w':=by
 have H:((impl_isAmount.f a0).bind fun t238=>(if t238=τ then ((impl_isAmount.f a1).bind fun t239=>(impl_AddAmount.j0 k a0 a1 (!t239))) else (impl_AddAmount.j0 k a0 a1 τ)))=some (r1,r2):=h
 clear h
 have HC3:=ζa H
 clear H
 go_enter Tryz.func188,Tryz.ntmps188
 go_upto_region 1 with (fail)
 go_cut [6] (fun v6 wc => ∃ (kq:Nat) (x6_2:Bool),v6 = .bool x6_2∧Aside0 (impl_AddAmount.j0 kq a0 a1 x6_2=some (r1,r2))∧Aside0 (kq≤k)∧Drawn0 w wc)
 case first =>
  have H:=HC3.out
  clear HC3
  replace H:=Option.bind_eq_some_iff.mp H
  obtain ⟨t238,A40,H⟩:=H
  replace H:(if t238=τ then ((impl_isAmount.f a1).bind fun t239=>(impl_AddAmount.j0 k a0 a1 (!t239))) else (impl_AddAmount.j0 k a0 a1 τ))=some (r1,r2):=H
  have A4:=ζa A40
  clear A40
  by_cases c5:t238=τ
  ·
   subst c5
   have H1:((impl_isAmount.f a1).bind fun t239=>(impl_AddAmount.j0 k a0 a1 (!t239)))=some (r1,r2):=by rw [if_pos rfl] at H;exact H
   clear H
   have H:=H1
   clear H1
   replace H:=Option.bind_eq_some_iff.mp H
   obtain ⟨t239,A60,H⟩:=H
   replace H:(impl_AddAmount.j0 k a0 a1 (!t239))=some (r1,r2):=H
   have A6:=ζa A60
   clear A60
   have H':=ζa H
   clear H
   go_wp2_with (first|((with_reducible refine δv (f:=128) rfl ?_);refine goesL_ (some 8) rfl rfl Tryz.func128 (by kernel_rfl) rfl #[.int .i64 a0] rfl (by (try simp only [δd,δe,δf]);rfl) ?_;(with_reducible refine (impl_isAmount.calls a0 τ _ A4.out).mono ?_);rintro e w' ⟨rfl,⟨nd,rfl⟩⟩;refine ⟨_,rfl,?_⟩)|(go_at_call 128;(with_reducible refine (impl_isAmount.calls a1 t239 _ A6.out).mono ?_);rintro e w' ⟨rfl,⟨nd,rfl⟩⟩))
   go_meet
   case rel=>exact ⟨_,(!t239),(by rfl),H',⟨by omega⟩,by repeat (first|exact Drawn0.refl _|apply Drawn0.step)⟩
  ·
   replace c5:=Bool.eq_false_iff.mpr c5
   subst c5
   have H1:(impl_AddAmount.j0 k a0 a1 τ)=some (r1,r2):=by rw [if_neg (show ¬ (φ=τ) by decide)] at H;exact H
   clear H
   have H:=H1
   clear H1
   have H':=ζa H
   clear H
   go_wp2_with (((with_reducible refine δv (f:=128) rfl ?_);refine goesL_ (some 8) rfl rfl Tryz.func128 (by kernel_rfl) rfl #[.int .i64 a0] rfl (by (try simp only [δd,δe,δf]);rfl) ?_;(with_reducible refine (impl_isAmount.calls a0 φ _ A4.out).mono ?_);rintro e w' ⟨rfl,⟨nd,rfl⟩⟩;refine ⟨_,rfl,?_⟩))
   go_meet
   case rel=>exact ⟨_,(τ),(by rfl),H',⟨by omega⟩,by repeat (first|exact Drawn0.refl _|apply Drawn0.step)⟩
 case rest =>
  clear HC3
  try clear c1
  try clear p2
  try clear c5
  obtain ⟨kq,x6_2,rfl,HA,HJ2,⟨mc2,rfl⟩⟩:=hcut
  cases kq with
  | zero=>exact absurd HA.out (by simp [impl_AddAmount.j0])
  | succ kj2 =>
   have H:=HA.out
   clear HA
   simp only [impl_AddAmount.j0] at H
   by_cases c7:x6_2=τ
   ·
    subst c7
    have H1:(some (0,4))=some (r1,r2):=by rw [if_pos rfl] at H;exact H
    clear H
    have H:=H1
    clear H1
    simp only [Option.some.injEq,Prod.mk.injEq] at H
    obtain ⟨rfl,rfl⟩:=H
    go_wp2
    go_ret2
    exact ⟨by rfl,by repeat (first|exact Drawn0.refl _|apply Drawn0.step)⟩
   ·
    replace c7:=Bool.eq_false_iff.mpr c7
    subst c7
    have H1:(if (ζm (a0+a1)) > 1000000000000000000 then (some (0,13)) else (some (ζm (a0+a1),0)))=some (r1,r2):=by rw [if_neg (show ¬ (φ=τ) by decide)] at H;exact H
    clear H
    have H:=H1
    clear H1
    by_cases c8:(ζm (a0+a1)) > 1000000000000000000
    ·
     rw [if_pos c8] at H
     have c8b0:decide (1000000000000000000<(ζm (a0+a1)))=τ:=decide_eq_true c8
     clear c8
     simp only [Option.some.injEq,Prod.mk.injEq] at H
     obtain ⟨rfl,rfl⟩:=H
     go_wp2
     go_ret2
     exact ⟨by rfl,by repeat (first|exact Drawn0.refl _|apply Drawn0.step)⟩
    ·
     rw [if_neg c8] at H
     have c8b0:decide (1000000000000000000<(ζm (a0+a1)))=φ:=decide_eq_false c8
     clear c8
     simp only [Option.some.injEq,Prod.mk.injEq] at H
     obtain ⟨rfl,rfl⟩:=H
     go_wp2
     go_ret2
     exact ⟨by rfl,by repeat (first|exact Drawn0.refl _|apply Drawn0.step)⟩


open Go.Proofs.YtabmfhnhmoiljaaGreatDoorW.PrintWords renaming below_step → δr
open Bool renaming true → τ

/-! ### impl_more: function 145 -/
def impl_more.f (k:Nat) (l0:List S51) (a1:ByteArray) (a2:Int):Option (List S51 × Int) :=
 (impl_amountAt.f k l0 a1).bind fun a=>(impl_AddAmount.f k a a2).bind fun s=>if s.2=0 then impl_putAmount.f k l0 a1 s.1 else some (l0,s.2)
set_option maxHeartbeats 2000000 in
set_option maxRecDepth 100000 in
theorem impl_more.calls (k:Nat) (A0:Option Addr) (c0:Nat) (l0:List S51) (a1:ByteArray) (a2:Int) (r1:List S51) (r2:Int) (w:World) (hr0:Kd.C k51 w A0 l0.length l0) (hc0:l0.length≤c0) (hT0:TabsOK w) (h:impl_more.f k l0 a1 a2=some (r1,r2)) :
  Calls Tryz.prog 145 #[.slice A0 l0.length c0,.string a1,.int .i64 a2] w fun e w' => ∃ v0_:Value,e = .returned (.tuple #[v0_,.int .i64 r2])∧(r2=0→Kd.R k51 51 w' w.heap.size (fun _=>True) v0_ r1)∧Below w.heap.size w w':=by
 obtain ⟨a,h1,h⟩:=Option.bind_eq_some_iff.mp h
 obtain ⟨⟨s1,s2⟩,h2,h⟩:=Option.bind_eq_some_iff.mp h
 have H1:=ζa h1
 have H2:=ζa h2
 have HR0:=ζa hr0
 have HC0:=ζa hc0
 have HT0:=ζa hT0
 clear h1 h2 hr0 hc0 hT0
 go_enter Tryz.func145,Tryz.ntmps145
 go_wp2_with fail
 refine (impl_amountAt.calls k A0 c0 l0 a1 a _ HR0.out HC0.out HT0.out H1.out).mono ?_
 rintro e w1 ⟨rfl,hb⟩
 have HB1:=ζa hb
 clear hb
 go_wp2_with fail
 refine (impl_AddAmount.calls k a a2 s1 s2 _ H2.out).mono ?_
 rintro e w2 ⟨rfl,hd⟩
 have HB2:=ζa (δr HB1.out hd.below)
 clear hd
 by_cases c2:s2=0
 ·
  subst c2
  rw [if_pos rfl] at h
  have H3:=ζa h
  clear h
  go_wp2_with fail
  refine (impl_putAmount.calls k A0 c0 l0 a1 s1 r1 r2 _ (Kd.C_below HR0.out HB2.out) HC0.out (HT0.out.below HB2.out) H3.out).mono ?_
  rintro e w3 ⟨v3,rfl,ho,hb⟩
  have HO3:=ζa (Kd.R_lower ho HB2.out.size)
  have HB3:=ζa (δr HB2.out hb)
  clear ho hb
  go_wp2
  go_ret2
  exact ⟨_,rfl,fun _=>HO3.out,HB3.out⟩
 ·
  rw [if_neg c2] at h
  simp only [Option.some.injEq,Prod.mk.injEq] at h
  obtain ⟨rfl,rfl⟩:=h
  have C2:=ζa c2
  have c2b:(s2 != 0)=τ:=bne_iff_ne.mpr c2
  clear c2
  go_wp2
  go_ret2
  exact ⟨_,rfl,fun h0=>absurd h0 C2.out,HB2.out⟩


open Go.Proofs.YtabmfhnhmoiljaaGreatDoorW.PrintWords renaming below_drew1 → δj, pw_below_drewN → δi, below_step → δr

/-! ### impl_move_1_2: function 144 -/
set_option maxHeartbeats 2000000 in
set_option maxRecDepth 100000 in
theorem impl_move_1_2.calls (k:Nat) (A0:Option Addr) (c0:Nat) (l0:List S51) (pd pf pn_:Addr) (d f:ByteArray) (n_:Int) (r1:List S51) (r2:Int) (w:World) (hr0:Kd.C k51 w A0 l0.length l0) (hc0:l0.length≤c0) (hT0:TabsOK w) (hd:w.cell? pd=some (.string d)) (hf:w.cell? pf=some (.string f)) (hn_:w.cell? pn_=some (.int .i64 n_))
  (h:((impl_balanceKey.f d f).bind fun key=>impl_more.f k l0 key n_)=some (r1,r2)) :
  Calls Tryz.prog 144 #[.slice A0 l0.length c0,.pointer (some pd),.pointer (some pf),.pointer (some pn_)] w fun e w' => ∃ v0_:Value,e = .returned (.tuple #[v0_,.int .i64 r2])∧(r2=0→Kd.R k51 51 w' w.heap.size (fun _=>True) v0_ r1)∧Below w.heap.size w w':=by
 obtain ⟨key,hk,h⟩:=Option.bind_eq_some_iff.mp h
 have HK:=ζa hk
 have HF:=ζa h
 have HR0:=ζa hr0
 have HC0:=ζa hc0
 have HT0:=ζa hT0
 have HB0:=ζa (Below.refl w.heap.size w)
 have Hd:=ζa hd
 have Hf:=ζa hf
 have Hn_:=ζa hn_
 clear hk h hr0 hc0 hT0
 go_enter Tryz.func144,Tryz.ntmps144
 go_wp2_with fail
 go_region_held3 (fun w'=>w'.cell? pd=some (.string d)∧w'.cell? pf=some (.string f)∧w'.cell? pn_=some (.int .i64 n_)) (first|go_keep|exact ⟨cell_keep HB3.out Hd.out,cell_keep HB3.out Hf.out,cell_keep HB3.out Hn_.out⟩)
  (first
   | (go_at_call 143;refine (impl_balanceKey.calls d f key _ HK.out).mono ?_;rintro e w' ⟨rfl,⟨q',rfl⟩⟩)
   | (go_at_call 145;refine (impl_more.calls k A0 c0 l0 key n_ r1 r2 _ (by repeat (first|exact HR0.out|apply Kd.C_drew|apply Kd.C_drewN)) HC0.out (by first|exact HT0.out|exact HT0.out.below (by repeat (first|exact HB0.out|apply δj|apply δi))) HF.out).mono ?_;rintro e w3 ⟨v3,rfl,ho,hb⟩;have HO3:=ζa ho;have HB3:Aside0 (Below w.heap.size w w3):=⟨δr (by repeat (first|exact HB0.out|apply δj|apply δi)) hb⟩;clear ho hb))
 all_goals go_wp2
 all_goals (go_ret2;exact ⟨_,rfl,fun h0=>HO3.out h0,HB3.out⟩)


open Go.Proofs.YtabmfhnhmoiljaaGreatDoorW.PrintWords renaming below_alloc → δk, below_step → δr

/-! ### impl_move_1: function 140 -/
theorem rowF {w:World} {g:Nat} {t:TypeId} (xs:List FV) (hm:xs.length≤1000) (h:w.heap[g]? = some (.cells (xs.map encF).toArray t (0,0))):kF.C w (some ⟨g,0,none⟩) xs.length xs:=by
 refine ⟨rfl,by omega,fun _=>⟨_,rfl,fun j p hp=>⟨[encF p],rfl,rfl,fun t u hu => ?_⟩⟩⟩
 obtain ⟨rfl,rfl⟩:t=0∧u=encF p:=by
  rcases t with _|t
  · simpa using hu.symm
  ·
   simp at hu
 rw [Addr.add_lit,cell_of_row w g _ _ _ (0,0) h]
 have:kF.sz=1:=rfl
 simp [this,hp]
def impl_move.F (k:Nat) (f t d:ByteArray) (n_:Int):List S51→Option (List S51 × Int):=fun l0=>impl_all.f k l0 [(fun l=>(impl_balanceKey.f d f).bind fun key=>impl_fewer.f k l key n_),(fun l=>(impl_balanceKey.f d t).bind fun key=>impl_more.f k l key n_)]
set_option maxHeartbeats 2000000 in
set_option maxRecDepth 100000 in
theorem impl_move_1.calls (k:Nat) (A0:Option Addr) (c0:Nat) (l0:List S51) (pf pt pd pn_:Addr) (f t d:ByteArray) (n_:Int) (r1:List S51) (r2:Int) (w:World) (hr0:Kd.C k51 w A0 l0.length l0) (hc0:l0.length≤c0) (hT0:TabsOK w) (hf:w.cell? pf=some (.string f)) (ht:w.cell? pt=some (.string t)) (hd:w.cell? pd=some (.string d)) (hn_:w.cell? pn_=some (.int .i64 n_)) (h:impl_move.F k f t d n_ l0=some (r1,r2)) :
  Calls Tryz.prog 140 #[.slice A0 l0.length c0,.pointer (some pd),.pointer (some pf),.pointer (some pn_),.pointer (some pt)] w fun e w' => ∃ v0_:Value,e = .returned (.tuple #[v0_,.int .i64 r2])∧Kd.R k51 51 w' w.heap.size (fun _=>True) v0_ r1∧Below w.heap.size w w':=by
 have HH:=ζa h
 have HR0:=ζa hr0
 have HC0:=ζa hc0
 have HT0:=ζa hT0
 have Hf:=ζa hf
 have Ht:=ζa ht
 have Hd:=ζa hd
 have Hn_:=ζa hn_
 have HB:=ζa (Below.refl w.heap.size w)
 clear h hr0 hc0 hT0 hf ht hd hn_
 go_enter Tryz.func140,Tryz.ntmps140
 go_wp2_with fail
 have HB1:Aside0 (Below w.heap.size w (w.alloc (.cells ([((141,#[.pointer (some pd),.pointer (some pf),.pointer (some pn_)]):FV),(144,#[.pointer (some pd),.pointer (some pt),.pointer (some pn_)])].map encF).toArray 79))):=⟨δk HB.out _⟩
 refine (impl_all.calls k A0 c0 l0 _ _ [(141,#[.pointer (some pd),.pointer (some pf),.pointer (some pn_)]),(144,#[.pointer (some pd),.pointer (some pt),.pointer (some pn_)])] [(fun l=>(impl_balanceKey.f d f).bind fun key=>impl_fewer.f k l key n_),(fun l=>(impl_balanceKey.f d t).bind fun key=>impl_more.f k l key n_)] r1 r2 _ (Kd.C_alloc HR0.out _) HC0.out (rowF _ (show 2≤1000 by decide) (heap_alloc_new _ _)) rfl ?_ HH.out).mono ?_
 ·
  intro i x F hx hF
  rcases i with _|_|i
  ·
   simp only [List.getElem?_cons_zero,Option.some.injEq] at hx hF
   subst hx hF
   exact ⟨enters_of Tryz.func141 (by kernel_rfl) rfl,fun W A c l r code hb hr hc hF=>impl_move_1_1.calls k A c l pd pf pn_ d f n_ r code W hr hc ((HT0.out.below HB1.out).below hb) (cell_keep hb (cell_keep HB1.out Hd.out)) (cell_keep hb (cell_keep HB1.out Hf.out)) (cell_keep hb (cell_keep HB1.out Hn_.out)) hF⟩
  ·
   simp only [List.getElem?_cons_succ,List.getElem?_cons_zero,Option.some.injEq] at hx hF
   subst hx hF
   exact ⟨enters_of Tryz.func144 (by kernel_rfl) rfl,fun W A c l r code hb hr hc hF=>impl_move_1_2.calls k A c l pd pt pn_ d t n_ r code W hr hc ((HT0.out.below HB1.out).below hb) (cell_keep hb (cell_keep HB1.out Hd.out)) (cell_keep hb (cell_keep HB1.out Ht.out)) (cell_keep hb (cell_keep HB1.out Hn_.out)) hF⟩
  · simp at hx
 rintro e w3 ⟨v3,rfl,ho,hb⟩
 have HO3:=ζa (Kd.R_lower ho HB1.out.size)
 have HB3:=ζa (δr HB1.out hb)
 clear ho hb
 go_wp2
 go_ret2
 exact ⟨_,rfl,HO3.out,HB3.out⟩


open Go.Proofs.YtabmfhnhmoiljaaGreatDoorW.PrintWords renaming gate_dst → δx, box_event → δz, below_step → δr, below_alloc → δk, pw_below_drewN → δi, below_drew1 → δj, blk_cell → δl

/-! ### impl_move: function 84 -/
set_option maxHeartbeats 2000000 in
set_option maxRecDepth 100000 in
theorem impl_move.calls (k:Nat) (f t d:ByteArray) (n_:Int) (w:World) (hT0:TabsOK w) :
  Calls Tryz.prog 84 #[.string f,.string t,.string d,.int .i64 n_] w fun e w' => ∃ (g:Nat) (lb:Array Value),e = .returned (.func (.func g) #[] lb)∧ChgR w' (g,lb) (impl_move.F k f t d n_)∧Below w.heap.size w w':=by
 have HT0:=ζa hT0
 have HB:=ζa (Below.refl w.heap.size w)
 clear hT0
 go_enter Tryz.func84,Tryz.ntmps84
 go_wp2_with (first
  | ((with_reducible refine δx (N:=4) rfl ?_);refine δz ?hg (N:=4) ?hd (cs:=#[(.string f)]) (t:=9) ?hr ?_;(case hd=>rfl);(case hg=>rfl);(case hr=>first|(go_simp;done)|(go_simp;rfl));intro gbf hg wf hbox hb;replace HB:=ζa (δr (by repeat (first|exact HB.out|apply δk|apply δi|apply δj)) hb);have BKf:=ζa hbox;clear hb hbox hg)
  | ((with_reducible refine δx (N:=5) rfl ?_);refine δz ?hg (N:=5) ?hd (cs:=#[(.string t)]) (t:=9) ?hr ?_;(case hd=>rfl);(case hg=>rfl);(case hr=>first|(go_simp;done)|(go_simp;rfl));intro gbt hg wt hbox hb;replace HB:=ζa (δr (by repeat (first|exact HB.out|apply δk|apply δi|apply δj)) hb);have BKt:=ζa hbox;have mf:=ζa (blk_below BKf.out hb);clear BKf;have BKf:=mf;clear mf;clear hb hbox hg)
  | ((with_reducible refine δx (N:=6) rfl ?_);refine δz ?hg (N:=6) ?hd (cs:=#[(.string d)]) (t:=9) ?hr ?_;(case hd=>rfl);(case hg=>rfl);(case hr=>first|(go_simp;done)|(go_simp;rfl));intro gbd hg wd hbox hb;replace HB:=ζa (δr (by repeat (first|exact HB.out|apply δk|apply δi|apply δj)) hb);have BKd:=ζa hbox;have mf:=ζa (blk_below BKf.out hb);clear BKf;have BKf:=mf;clear mf;have mt:=ζa (blk_below BKt.out hb);clear BKt;have BKt:=mt;clear mt;clear hb hbox hg)
  | ((with_reducible refine δx (N:=7) rfl ?_);refine δz ?hg (N:=7) ?hd (cs:=#[(.int .i64 n_)]) (t:=3) ?hr ?_;(case hd=>rfl);(case hg=>rfl);(case hr=>first|(go_simp;done)|(go_simp;rfl));intro gbn_ hg wn_ hbox hb;replace HB:=ζa (δr (by repeat (first|exact HB.out|apply δk|apply δi|apply δj)) hb);have BKn_:=ζa hbox;have mf:=ζa (blk_below BKf.out hb);clear BKf;have BKf:=mf;clear mf;have mt:=ζa (blk_below BKt.out hb);clear BKt;have BKt:=mt;clear mt;have md:=ζa (blk_below BKd.out hb);clear BKd;have BKd:=md;clear md;clear hb hbox hg))
 go_ret
 refine ⟨_,_,rfl,⟨enters_of Tryz.func140 (by kernel_rfl) rfl,fun W A c l r code hb hr hc hF => ?_⟩,HB.out⟩
 exact (impl_move_1.calls k A c l _ _ _ _ f t d n_ r code W hr hc ((HT0.out.below HB.out).below hb) ((δl (blk_below BKf.out hb) 0).trans rfl) ((δl (blk_below BKt.out hb) 0).trans rfl) ((δl (blk_below BKd.out hb) 0).trans rfl) ((δl (blk_below BKn_.out hb) 0).trans rfl) hF)



/-! ### impl_voucherOf: function 93 -/
def impl_voucherOf.f (a0:ByteArray):Option (ByteArray):=if 1+a0.size≤9223372036854775807 then (some ((⟨#[118]⟩:ByteArray) ++ a0)) else (none)
set_option maxHeartbeats 8000000 in
set_option maxRecDepth 100000 in
theorem impl_voucherOf.calls (a0:ByteArray) (r:ByteArray) (w:World) (h:impl_voucherOf.f a0=some r) :
  Calls Tryz.prog 93 #[.string a0] w fun e w'=>e = .returned (.string r)∧Drawn0 w w':=by
 have H:(if 1+a0.size≤9223372036854775807 then (some ((⟨#[118]⟩:ByteArray) ++ a0)) else (none))=some r:=h
 clear h
 by_cases c2:1+a0.size≤9223372036854775807
 ·
  rw [if_pos c2] at H
  have c2b0:=eq_true c2
  have c2b1:decide (1+a0.size≤9223372036854775807)=τ:=decide_eq_true c2
  try have c2b2:(9223372036854775807<1+a0.size)=False:=eq_false (Nat.not_lt.2 c2)
  obtain rfl:=Option.some.inj H
  go_enter Tryz.func93,Tryz.ntmps93
  go_wp2
  go_ret
  exact ⟨by rfl,by repeat (exact Drawn0.refl _)⟩
 ·
  rw [if_neg c2] at H
  exact absurd H (by simp)



/-! ### impl_otherName: function 94 -/
def impl_otherName.f (a0:ByteArray):Option (ByteArray):=if a0.toList=([120]:List UInt8) then (some (⟨#[121]⟩:ByteArray)) else (some (⟨#[120]⟩:ByteArray))
set_option maxHeartbeats 8000000 in
set_option maxRecDepth 100000 in
theorem impl_otherName.calls (a0:ByteArray) (r:ByteArray) (w:World) (h:impl_otherName.f a0=some r) :
  Calls Tryz.prog 94 #[.string a0] w fun e w'=>e = .returned (.string r)∧Drawn0 w w':=by
 have H:(if a0.toList=([120]:List UInt8) then (some (⟨#[121]⟩:ByteArray)) else (some (⟨#[120]⟩:ByteArray)))=some r:=h
 clear h
 by_cases c2:a0.toList=([120]:List UInt8)
 ·
  rw [if_pos c2] at H
  have c2b0:(a0.toList == ([120]:List UInt8))=τ:=beq_iff_eq.mpr c2
  have c2b1:(a0.toList != ([120]:List UInt8))=φ:=bne_eq_false_iff_eq.mpr c2
  clear c2
  obtain rfl:=Option.some.inj H
  go_enter Tryz.func94,Tryz.ntmps94
  go_wp2
  go_ret
  exact ⟨by rfl,by repeat (exact Drawn0.refl _)⟩
 ·
  rw [if_neg c2] at H
  have c2b0:(a0.toList == ([120]:List UInt8))=φ:=beq_eq_false_iff_ne.mpr c2
  have c2b1:(a0.toList != ([120]:List UInt8))=τ:=bne_iff_ne.mpr c2
  obtain rfl:=Option.some.inj H
  go_enter Tryz.func94,Tryz.ntmps94
  go_wp2
  go_ret
  exact ⟨by rfl,by repeat (exact Drawn0.refl _)⟩



/-! ### impl_numberOf: function 191 -/
def impl_numberOf.l0:Nat→ByteArray→Int→Int→Int→Option (Int)
 | 0,_,_,_,_=>none
 | k+1,x0,x3,x6,x7=>if x7<x6 then (if 0≤x7 then (if x7<(x0.size:Int) then (impl_numberOf.l0 k x0 (ζm ((ζm (x3 * 256))+(ζm (bt x0 x7)))) x6 (ζm (x7+1))) else (none)) else (none)) else (some x3)
def impl_numberOf.f (k:Nat) (a0:ByteArray):Option (Int):=impl_numberOf.l0 k a0 0 (a0.size:Int) 0
set_option maxHeartbeats 8000000 in
set_option maxRecDepth 100000 in
theorem impl_numberOf.calls (k:Nat) (a0:ByteArray) (r:Int) (w:World) (h:impl_numberOf.f k a0=some r) :
  Calls Tryz.prog 191 #[.string a0] w fun e w'=>e = .returned (.int .i64 r)∧Drawn0 w w':=by
 have H:(impl_numberOf.l0 k a0 0 (a0.size:Int) 0)=some r:=h
 clear h
 have H':=ζa H
 clear H
 go_enter Tryz.func191,Tryz.ntmps191
 go_wp2
 go_loopg [3,7] k (fun kq v3 v7 w' => ∃ (x3_1:Int) (x7_1:Int),v3 = .int .i64 x3_1∧v7 = .int .i64 x7_1∧Aside0 (impl_numberOf.l0 kq a0 x3_1 (a0.size:Int) x7_1=some r)∧Aside0 (kq≤k)∧Drawn0 w w')
 case atStart=>exact ⟨(0),(0),(by rfl),(by rfl),H',⟨Nat.le_refl _⟩,by repeat (exact Drawn0.refl _)⟩
 case round =>
  clear H'
  try clear c1
  obtain ⟨x3_1,x7_1,rfl,rfl,HA,HK1,⟨m1,rfl⟩⟩:=hrel
  cases gk with
  | zero=>exact absurd HA.out (by simp [impl_numberOf.l0])
  | succ k1 =>
   have H:=HA.out
   clear HA
   simp only [impl_numberOf.l0] at H
   by_cases c2:x7_1<(a0.size:Int)
   ·
    rw [if_pos c2] at H
    have c2b0:decide (x7_1<(a0.size:Int))=τ:=decide_eq_true c2
    clear c2
    by_cases c3:0≤x7_1
    ·
     rw [if_pos c3] at H
     have c3b0:decide (0≤x7_1)=τ:=decide_eq_true c3
     clear c3
     by_cases c4:x7_1<(a0.size:Int)
     ·
      rw [if_pos c4] at H
      have c4b0:decide (x7_1<(a0.size:Int))=τ:=decide_eq_true c4
      clear c4
      have H':=ζa H
      clear H
      have p5:0≤(x7_1:Int):=of_decide_eq_true (by (with_reducible assumption))
      have q5:x7_1<(a0.size:Int):=of_decide_eq_true (by (with_reducible assumption))
      have hx5:=bt_at a0 x7_1
      replace p5:=eq_true p5
      replace q5:=eq_true q5
      go_wp2
      go_roundg k1
      case measure=>have:=HK1.out;omega
      case rel=>exact ⟨(ζm ((ζm (x3_1 * 256))+(ζm (bt a0 x7_1)))),(ζm (x7_1+1)),(by rfl),(by rfl),H',⟨by have:=HK1.out;omega⟩,by repeat (first|exact Drawn0.refl _|apply Drawn0.step)⟩
     ·
      rw [if_neg c4] at H
      exact absurd H (by simp)
    ·
     rw [if_neg c3] at H
     exact absurd H (by simp)
   ·
    rw [if_neg c2] at H
    have c2b0:decide (x7_1<(a0.size:Int))=φ:=decide_eq_false c2
    clear c2
    obtain rfl:=Option.some.inj H
    go_wp2
    go_ret
    exact ⟨by rfl,by repeat (first|exact Drawn0.refl _|apply Drawn0.step)⟩


open Go.Proofs.YtabmfhnhmoiljaaGreatDoorW.PrintWords renaming below_drew1 → δj, below_size → δs, below_step → δr, gate_callee → δv, pw_below_drewN → δi
open Go.Proofs.YtabmfhnhmoiljaaGreatDoorW.PrintLast renaming pure_ → ζk, any_of → ζj
open Go.Act renaming put → ζl
open List renaming setIfInBounds_toArray → δa, set_cons_zero → δb, set_cons_succ → δc, map_toArray → δd, map_cons → δe, map_nil → δf
open Go.Proofs.YtabmfhnhmoiljaaGreatDoorW.PrintWords.Kd renaming R_drewN → ζc, R_drew → ζe

/-! ### impl_readFields: function 150 -/
mutual
def impl_readFields.j0:Nat→ByteArray→Bool→Option (List ByteArray × Bool)
 | 0,_,_=>none
 | k+1,x0,x13=>if x13=τ then (some (([]:List ByteArray),φ)) else (if 1≤(x0.size:Int) then (if 0<(x0.size:Int) then (impl_readFields.l0 k (([]:List ByteArray)) (x0.extract 1 x0.size) (ζm (bt x0 0)) 0) else (none)) else (none))
def impl_readFields.l0:Nat→List ByteArray→ByteArray→Int→Int→Option (List ByteArray × Bool)
 | 0,_,_,_,_=>none
 | k+1,x4,x5,x19,x20=>if x20<x19 then (if (x5.size:Int)<2 then (some (([]:List ByteArray),φ)) else (if 0≤2 then (if 2≤(x5.size:Int) then ((impl_numberOf.f k (x5.extract 0 2)).bind fun t353=>(if t353 > 1000 then (some (([]:List ByteArray),φ)) else (if (x5.size:Int)<(ζm (2+t353)) then (some (([]:List ByteArray),φ)) else (if 2≤(ζm (2+t353)) then (if (ζm (2+t353))≤(x5.size:Int) then (if x4.length<8796093022208 then (if 0≤(ζm (2+t353)) then (impl_readFields.l0 k (x4 ++ [x5.extract 2 ((ζm (2+t353)):Int).toNat]) (x5.extract ((ζm (2+t353)):Int).toNat x5.size) x19 (ζm (x20+1))) else (none)) else (none)) else (none)) else (none))))) else (none)) else (none))) else (some (x4,(x5.toList == ([]:List UInt8))))
end
def impl_readFields.f (k:Nat) (a0:ByteArray):Option (List ByteArray × Bool):=if a0.toList=([]:List UInt8) then (impl_readFields.j0 k a0 τ) else (if 0<(a0.size:Int) then (impl_readFields.j0 k a0 (decide ((bt a0 0) > 40))) else (none))
def impl_readFields.T11:Bool × List (List Nat × List Nat):=(τ,[([],[]),([],[]),([],[]),([2],[2]),([1,3],[1,3]),([4],[4]),([0,5],[0,5]),([],[]),([],[]),([8],[8]),([7,9],[7,9]),([6,6,0,1,2,3,4,5,6],[0,6]),([10,11,0,1,2,3,4,5,6,7,8,9,10,11],[1,7,10])])
def impl_readFields.B11:List Nat:=[0,0,0,4,14,30,63,0,0,256,896,127,4095]
theorem impl_readFields.tab11:rtab .any (opsOf Tryz.f150 11)=impl_readFields.T11:=by kernel_rfl
theorem impl_readFields.bits11:waitsOk impl_readFields.T11.2 impl_readFields.B11=τ:=by kernel_rfl
set_option maxHeartbeats 8000000 in
set_option maxRecDepth 100000 in
theorem impl_readFields.calls (k:Nat) (a0:ByteArray) (r1:List ByteArray) (r2:Bool) (w:World) (h:impl_readFields.f k a0=some (r1,r2)) :
  Calls Tryz.prog 150 #[.string a0] w fun e w' => ∃ v0_:Value,e = .returned (.tuple #[v0_,.bool r2])∧Kd.R Kd.string 9 w' w.heap.size (fun _=>True) v0_ r1∧Below w.heap.size w w':=by
 have HB:=ζa (Below.refl w.heap.size w)
 have H:(if a0.toList=([]:List UInt8) then (impl_readFields.j0 k a0 τ) else (if 0<(a0.size:Int) then (impl_readFields.j0 k a0 (decide ((bt a0 0) > 40))) else (none)))=some (r1,r2):=h
 clear h
 have HC2:=ζa H
 clear H
 go_enter Tryz.func150,Tryz.ntmps150
 go_upto_region 1 with (fail)
 go_cut [13] (fun v13 wc => ∃ (kq:Nat) (x13_1:Bool),v13 = .bool x13_1∧Aside0 (impl_readFields.j0 kq a0 x13_1=some (r1,r2))∧Aside0 (kq≤k)∧Aside0 (Below w.heap.size w wc))
 case first =>
  have H:=HC2.out
  clear HC2
  by_cases c3:a0.toList=([]:List UInt8)
  ·
   rw [if_pos c3] at H
   have c3b0:(a0.toList == ([]:List UInt8))=τ:=beq_iff_eq.mpr c3
   have c3b1:(a0.toList != ([]:List UInt8))=φ:=bne_eq_false_iff_eq.mpr c3
   clear c3
   (skip)
   have H':=ζa H
   clear H
   go_wp2
   go_meet
   case rel=>exact ⟨_,(τ),(by rfl),H',⟨by omega⟩,⟨by repeat ((with_reducible exact HB.out))⟩⟩
  ·
   rw [if_neg c3] at H
   have c3b0:(a0.toList == ([]:List UInt8))=φ:=beq_eq_false_iff_ne.mpr c3
   have c3b1:(a0.toList != ([]:List UInt8))=τ:=bne_iff_ne.mpr c3
   (skip)
   by_cases c4:0<(a0.size:Int)
   ·
    rw [if_pos c4] at H
    have c4b0:decide (0<(a0.size:Int))=τ:=decide_eq_true c4
    have c4b1:decide (0<a0.size)=τ:=decide_eq_true (by omega)
    clear c4
    have H':=ζa H
    clear H
    have p5:0≤(0:Int):=(by omega)
    have q5:0<a0.size:=(by have:(0:Int)<(a0.size:Int):=of_decide_eq_true (by (with_reducible assumption));omega)
    have hx5 : ∀ h:0<a0.size,((a0[0]'h).toNat:Int)=bt a0 0:=bt_at a0 0
    clear p5
    have qi5:(0<(a0.size:Int))=True:=eq_true (of_decide_eq_true (by (with_reducible assumption)))
    replace q5:=eq_true q5
    go_wp2
    go_meet
    case rel=>exact ⟨_,(decide ((bt a0 0) > 40)),(by rfl),H',⟨by omega⟩,⟨by repeat ((with_reducible exact HB.out))⟩⟩
   ·
    rw [if_neg c4] at H
    exact absurd H (by simp)
 case rest =>
  clear HC2
  try clear c1
  try clear p2
  try clear c3
  try clear c3b0
  try clear c3b1
  try clear c4
  try clear c4b0
  try clear c4b1
  try clear p5
  try clear q5
  try clear hx5
  try clear qi5
  try clear p5
  try clear q5
  obtain ⟨kq,x13_1,rfl,HA,HJ1,HB⟩:=hcut
  cases kq with
  | zero=>exact absurd HA.out (by simp [impl_readFields.j0])
  | succ kj1 =>
   have H:=HA.out
   clear HA
   simp only [impl_readFields.j0] at H
   by_cases c6:x13_1=τ
   ·
    subst c6
    have H1:(some (([]:List ByteArray),φ))=some (r1,r2):=by rw [if_pos rfl] at H;exact H
    clear H
    have H:=H1
    clear H1
    simp only [Option.some.injEq,Prod.mk.injEq] at H
    obtain ⟨rfl,rfl⟩:=H
    go_wp2
    go_ret2
    exact ⟨_,by rfl,by exact Kd.R_nil _ _ _ _ _,by repeat ((with_reducible exact HB.out))⟩
   ·
    replace c6:=Bool.eq_false_iff.mpr c6
    subst c6
    have H1:(if 1≤(a0.size:Int) then (if 0<(a0.size:Int) then (impl_readFields.l0 kj1 (([]:List ByteArray)) (a0.extract 1 a0.size) (ζm (bt a0 0)) 0) else (none)) else (none))=some (r1,r2):=by rw [if_neg (show ¬ (φ=τ) by decide)] at H;exact H
    clear H
    have H:=H1
    clear H1
    obtain ⟨y350,hy350⟩ : ∃ y_:List ByteArray,y_=(([]:List ByteArray)):=⟨_,rfl⟩
    replace H:(if 1≤(a0.size:Int) then (if 0<(a0.size:Int) then (impl_readFields.l0 kj1 y350 (a0.extract 1 a0.size) (ζm (bt a0 0)) 0) else (none)) else (none))=some (r1,r2):=by (rw [hy350];with_reducible exact H)
    have Ny350:=ζa hy350
    clear hy350
    by_cases c7:1≤(a0.size:Int)
    ·
     rw [if_pos c7] at H
     have c7b0:=eq_true c7
     have c7b1:decide (1≤(a0.size:Int))=τ:=decide_eq_true c7
     clear c7
     by_cases c8:0<(a0.size:Int)
     ·
      rw [if_pos c8] at H
      have c8b0:decide (0<(a0.size:Int))=τ:=decide_eq_true c8
      have c8b1:decide (0<a0.size)=τ:=decide_eq_true (by omega)
      clear c8
      have H':=ζa H
      clear H
      try go_wp2
      replace HB:=ζa (δj HB.out)
      refine start_ (n:=5) (S:=fun w'=>True) (ds:=[]) #[φ,φ,φ,φ,φ] (by kernel_rfl) rfl rfl trivial (fun hHeld => ?_)
      generalize wc.drew=w10 at HB hHeld ⊢
      refine ζk (i:=1) (N:=some 15) (v:=?_) (a':=?_) #[φ,τ,φ,φ,φ] rfl rfl (by kernel_rfl) (fun _ _ _ h=>h) (Or.inl ⟨by rfl,?_⟩) ?_ ?_
      rotate_left
      · intro w';go_simp;with_reducible rfl
      rotate_left
      · simp only [ζl,δa,δb,δc,i64_w,i32_w];rfl
      refine ζk (i:=2) (N:=some 16) (v:=?_) (a':=?_) #[φ,τ,τ,φ,φ] rfl rfl (by kernel_rfl) (fun _ _ _ h=>h) (Or.inl ⟨by rfl,?_⟩) ?_ ?_
      rotate_left
      · intro w';go_simp;with_reducible rfl
      rotate_left
      · simp only [ζl,δa,δb,δc,i64_w,i32_w];rfl
      refine one_ (i:=0) (N:=some 14) #[τ,τ,τ,φ,φ] rfl rfl (by kernel_rfl) (by decide) (fun K hK => ?_)
      refine Kd.R_lit_step Kd.string _ 9 ?hg (N:=14) ?hd (xs:=([]:List ByteArray)) (inner:=[]) (ok:=fun _=>True) (okp:=fun _=>True) ?hr ?hp (fun _ hk=>hk) trivial (Below.refl _ _) (Nat.le_refl _) (by simp) ?_;(case hd=>rfl);(case hg=>rfl);(case hr=>(go_simp;done));(case hp=>exact (Reps.none _ _))
      intro v351 w11 ho12 hb hg_ hnew_
      clear hg_ hnew_
      (rw [← Ny350.out] at ho12)
      have HO352:=ζa (Kd.R_lower ho12 (δs (by exact HB.out)))
      replace HB:=ζa (δr (by exact HB.out) hb)
      clear hb ho12
      refine hK.out _ _ trivial (fun hHeld => ?_)
      clear hK K
      refine norm_ (a':=?_) ?_ ?_
      rotate_left
      ·
       show ζl _ (some 14) _=_
       simp only [ζl,δa,δb,δc,i64_w,i32_w];rfl
      refine ζk (i:=3) (N:=some 4) (v:=?_) (a':=?_) #[τ,τ,τ,τ,φ] rfl rfl (by kernel_rfl) (fun _ _ _ h=>h) (Or.inl ⟨by rfl,?_⟩) ?_ ?_
      rotate_left
      · intro w';go_simp;with_reducible rfl
      rotate_left
      · simp only [ζl,δa,δb,δc,i64_w,i32_w];rfl
      refine ζk (i:=4) (N:=some 5) (v:=?_) (a':=?_) #[τ,τ,τ,τ,τ] rfl rfl (by kernel_rfl) (fun _ _ _ h=>h) (Or.inl ⟨by rfl,?_⟩) ?_ ?_
      rotate_left
      · intro w';go_simp;with_reducible rfl
      rotate_left
      · simp only [ζl,δa,δb,δc,i64_w,i32_w];rfl
      refine done_ (by kernel_rfl) ?_
      have p9:0≤(0:Int):=(by omega)
      have q9:0<a0.size:=(by have:(0:Int)<(a0.size:Int):=of_decide_eq_true (by (with_reducible assumption));omega)
      have hx9 : ∀ h:0<a0.size,((a0[0]'h).toNat:Int)=bt a0 0:=bt_at a0 0
      clear p9
      have qi9:(0<(a0.size:Int))=True:=eq_true (of_decide_eq_true (by (with_reducible assumption)))
      replace q9:=eq_true q9
      try go_wp2
      go_loopg [4,5,20] kj1 (fun kq v4 v5 v20 w' => ∃ (x4_2:List ByteArray) (x5_2:ByteArray) (x20_2:Int),v5 = .string x5_2∧v20 = .int .i64 x20_2∧Aside0 (impl_readFields.l0 kq x4_2 x5_2 (ζm (bt a0 0)) x20_2=some (r1,r2))∧Aside0 (kq≤kj1)∧Aside0 (Kd.R Kd.string 9 w' w.heap.size (fun _=>True) v4 x4_2)∧Aside0 (Below w.heap.size w w'))
      case atStart=>exact ⟨(y350),(a0.extract 1 a0.size),(0),(by rfl),(by rfl),H',⟨Nat.le_refl _⟩,⟨by exact HO352.out⟩,⟨by repeat ((with_reducible exact HB.out))⟩⟩
      case round =>
       clear H'
       try clear c1
       try clear p2
       try clear c3
       try clear c3b0
       try clear c3b1
       try clear c4
       try clear c4b0
       try clear c4b1
       try clear p5
       try clear q5
       try clear hx5
       try clear qi5
       try clear c6
       try clear p6
       try clear c7
       try clear c7b0
       try clear c7b1
       try clear c8
       try clear c8b0
       try clear c8b1
       try clear p9
       try clear q9
       try clear hx9
       try clear qi9
       try clear p2
       try clear p5
       try clear p9
       try clear q5
       try clear q9
       obtain ⟨x4_2,x5_2,x20_2,rfl,rfl,HA,HK2,HO_4,HB⟩:=hrel
       cases gk with
       | zero=>exact absurd HA.out (by simp [impl_readFields.l0])
       | succ k2 =>
        have H:=HA.out
        clear HA
        simp only [impl_readFields.l0] at H
        by_cases c13:x20_2<(ζm (bt a0 0))
        ·
         rw [if_pos c13] at H
         have c13b0:decide (x20_2<(ζm (bt a0 0)))=τ:=decide_eq_true c13
         clear c13
         by_cases c14:(x5_2.size:Int)<2
         ·
          rw [if_pos c14] at H
          have c14b0:decide ((x5_2.size:Int)<2)=τ:=decide_eq_true c14
          have c14b1:decide (x5_2.size<2)=τ:=decide_eq_true (by omega)
          clear c14
          simp only [Option.some.injEq,Prod.mk.injEq] at H
          obtain ⟨rfl,rfl⟩:=H
          go_wp2
          go_ret2
          exact ⟨_,by rfl,by exact Kd.R_nil _ _ _ _ _,by repeat ((with_reducible exact HB.out))⟩
         ·
          rw [if_neg c14] at H
          have c14b0:decide ((x5_2.size:Int)<2)=φ:=decide_eq_false c14
          have c14b1:decide (x5_2.size<2)=φ:=decide_eq_false (by omega)
          clear c14
          by_cases c15:0≤2
          ·
           rw [if_pos c15] at H
           have c15b0:=eq_true c15
           have c15b1:decide (0≤2)=τ:=decide_eq_true c15
           clear c15
           by_cases c16:2≤(x5_2.size:Int)
           ·
            rw [if_pos c16] at H
            have c16b0:=eq_true c16
            have c16b1:decide (2≤(x5_2.size:Int))=τ:=decide_eq_true c16
            clear c16
            replace H:=Option.bind_eq_some_iff.mp H
            obtain ⟨t353,A170,H⟩:=H
            replace H:(if t353 > 1000 then (some (([]:List ByteArray),φ)) else (if (x5_2.size:Int)<(ζm (2+t353)) then (some (([]:List ByteArray),φ)) else (if 2≤(ζm (2+t353)) then (if (ζm (2+t353))≤(x5_2.size:Int) then (if x4_2.length<8796093022208 then (if 0≤(ζm (2+t353)) then (impl_readFields.l0 k2 (x4_2 ++ [x5_2.extract 2 ((ζm (2+t353)):Int).toNat]) (x5_2.extract ((ζm (2+t353)):Int).toNat x5_2.size) (ζm (bt a0 0)) (ζm (x20_2+1))) else (none)) else (none)) else (none)) else (none))))=some (r1,r2):=H
            have A17:=ζa A170
            clear A170
            by_cases c18:t353 > 1000
            ·
             rw [if_pos c18] at H
             have c18b0:decide (1000<t353)=τ:=decide_eq_true c18
             clear c18
             simp only [Option.some.injEq,Prod.mk.injEq] at H
             obtain ⟨rfl,rfl⟩:=H
             go_wp2_with (((with_reducible refine δv (f:=191) rfl ?_);refine goesL_ (some 27) rfl rfl Tryz.func191 (by kernel_rfl) rfl #[.string (x5_2.extract 0 2)] rfl (by (try simp only [δd,δe,δf]);rfl) ?_;(with_reducible refine (impl_numberOf.calls k2 (x5_2.extract 0 2) t353 _ A17.out).mono ?_);rintro e w' ⟨rfl,⟨nd,rfl⟩⟩;refine ⟨_,rfl,?_⟩))
             go_ret2
             exact ⟨_,by rfl,by exact Kd.R_nil _ _ _ _ _,by repeat ((with_reducible first|exact HB.out|apply δi))⟩
            ·
             rw [if_neg c18] at H
             have c18b0:decide (1000<t353)=φ:=decide_eq_false c18
             clear c18
             by_cases c19:(x5_2.size:Int)<(ζm (2+t353))
             ·
              rw [if_pos c19] at H
              have c19b0:decide ((x5_2.size:Int)<(ζm (2+t353)))=τ:=decide_eq_true c19
              clear c19
              simp only [Option.some.injEq,Prod.mk.injEq] at H
              obtain ⟨rfl,rfl⟩:=H
              go_wp2_with (((with_reducible refine δv (f:=191) rfl ?_);refine goesL_ (some 27) rfl rfl Tryz.func191 (by kernel_rfl) rfl #[.string (x5_2.extract 0 2)] rfl (by (try simp only [δd,δe,δf]);rfl) ?_;(with_reducible refine (impl_numberOf.calls k2 (x5_2.extract 0 2) t353 _ A17.out).mono ?_);rintro e w' ⟨rfl,⟨nd,rfl⟩⟩;refine ⟨_,rfl,?_⟩))
              go_ret2
              exact ⟨_,by rfl,by exact Kd.R_nil _ _ _ _ _,by repeat ((with_reducible first|exact HB.out|apply δi))⟩
             ·
              rw [if_neg c19] at H
              have c19b0:decide ((x5_2.size:Int)<(ζm (2+t353)))=φ:=decide_eq_false c19
              clear c19
              by_cases c20:2≤(ζm (2+t353))
              ·
               rw [if_pos c20] at H
               have c20b0:=eq_true c20
               have c20b1:decide (2≤(ζm (2+t353)))=τ:=decide_eq_true c20
               by_cases c21:(ζm (2+t353))≤(x5_2.size:Int)
               ·
                rw [if_pos c21] at H
                have c21b0:=eq_true c21
                have c21b1:decide ((ζm (2+t353))≤(x5_2.size:Int))=τ:=decide_eq_true c21
                by_cases c22:x4_2.length<8796093022208
                ·
                 rw [if_pos c22] at H
                 have LMc22:=ζa c22
                 clear c22
                 obtain ⟨y354,hy354⟩ : ∃ y_:List ByteArray,y_=(x4_2 ++ [x5_2.extract 2 ((ζm (2+t353)):Int).toNat]):=⟨_,rfl⟩
                 replace H:(if 0≤(ζm (2+t353)) then (impl_readFields.l0 k2 y354 (x5_2.extract ((ζm (2+t353)):Int).toNat x5_2.size) (ζm (bt a0 0)) (ζm (x20_2+1))) else (none))=some (r1,r2):=by (rw [hy354];with_reducible exact H)
                 have Ny354:=ζa hy354
                 clear hy354
                 obtain ⟨ji23,hji23⟩ : ∃ j_:Int,(ζm (2+t353))=j_:=⟨_,rfl⟩
                 replace H:(if 0≤(ji23) then (impl_readFields.l0 k2 y354 (x5_2.extract ((ji23):Int).toNat x5_2.size) (ζm (bt a0 0)) (ζm (x20_2+1))) else (none))=some (r1,r2):=by (rw [hji23] at H;exact H)
                 (try rw [hji23] at c19b0)
                 (try rw [hji23] at c20b0)
                 (try rw [hji23] at c20b1)
                 (try rw [hji23] at c20)
                 (try rw [hji23] at c21b0)
                 (try rw [hji23] at c21b1)
                 (try rw [hji23] at c21)
                 (try rw [hji23] at A17)
                 (try rw [hji23] at Ny354)
                 have hji23w:(IntKind.i64.wrap (2+t353))=ji23:=(i64_w _).trans hji23
                 by_cases c24:0≤(ji23)
                 ·
                  rw [if_pos c24] at H
                  have c24b0:=eq_true c24
                  have c24b1:decide (0≤(ji23))=τ:=decide_eq_true c24
                  clear c24
                  have c25b0:=eq_true (of_decide_eq_true (by (with_reducible assumption)):(ji23)≤(x5_2.size:Int))
                  have H':=ζa H
                  clear H
                  try go_wp2_with (((with_reducible refine δv (f:=191) rfl ?_);refine goesL_ (some 27) rfl rfl Tryz.func191 (by kernel_rfl) rfl #[.string (x5_2.extract 0 2)] rfl (by (try simp only [δd,δe,δf]);rfl) ?_;(with_reducible refine (impl_numberOf.calls k2 (x5_2.extract 0 2) t353 _ A17.out).mono ?_);rintro e w' ⟨rfl,⟨nd,rfl⟩⟩;refine ⟨_,rfl,?_⟩))
                  (try (rw [drewN_self wr];generalize hq_:World.drewN wr _=wr;have n0_:Aside0 (Kd.R Kd.string 9 wr w.heap.size (fun _=>True) u4 x4_2):=⟨by rw [← hq_];exact (by (with_reducible repeat (apply ζc));exact HO_4.out)⟩;have n1_:Aside0 (Below w.heap.size w wr):=⟨by rw [← hq_];exact (by repeat ((with_reducible first|exact HB.out|apply δi)))⟩;clear HO_4 HB hq_;have HO_4:=n0_;have HB:=n1_;clear n0_ n1_))
                  replace HO_4:=ζa (ζe HO_4.out)
                  replace HB:=ζa (δj HB.out)
                  refine start_ (n:=13) (S:=fun w'=>True) (ds:=[]) #[φ,φ,φ,φ,φ,φ,φ,φ,φ,φ,φ,φ,φ] (by kernel_rfl) rfl rfl trivial (fun hHeld => ?_);refine with_tabW impl_readFields.tab11 impl_readFields.bits11 (fun HT_ HW_ => ?_)
                  generalize wr.drew=w26 at HO_4 HB hHeld ⊢
                  refine ζk (i:=0) (N:=some 37) (v:=?_) (a':=?_) #[τ,φ,φ,φ,φ,φ,φ,φ,φ,φ,φ,φ,φ] rfl rfl (ζj HT_.out (by kernel_rfl)) (fun _ _ _ h=>h) (Or.inl ⟨by rfl,?_⟩) ?_ ?_
                  rotate_left
                  · intro w';go_simp;with_reducible rfl
                  rotate_left
                  · simp only [ζl,δa,δb,δc,i64_w,i32_w];rfl
                  refine ζk (i:=1) (N:=some 38) (v:=?_) (a':=?_) #[τ,τ,φ,φ,φ,φ,φ,φ,φ,φ,φ,φ,φ] rfl rfl (ζj HT_.out (by kernel_rfl)) (fun _ _ _ h=>h) (Or.inl ⟨by rfl,?_⟩) ?_ ?_
                  rotate_left
                  · intro w';go_simp;with_reducible rfl
                  rotate_left
                  · simp only [ζl,δa,δb,δc,i64_w,i32_w];rfl
                  refine ζk (i:=2) (N:=some 39) (v:=?_) (a':=?_) #[τ,τ,τ,φ,φ,φ,φ,φ,φ,φ,φ,φ,φ] rfl rfl (ζj HT_.out (by kernel_rfl)) (fun _ _ _ h=>h) (Or.inl ⟨by rfl,?_⟩) ?_ ?_
                  rotate_left
                  · intro w';go_simp;with_reducible rfl
                  rotate_left
                  · simp only [ζl,δa,δb,δc,i64_w,i32_w];rfl
                  refine ζk (i:=3) (N:=some 40) (v:=?_) (a':=?_) #[τ,τ,τ,τ,φ,φ,φ,φ,φ,φ,φ,φ,φ] rfl rfl (ζj HT_.out (by kernel_rfl)) (fun _ _ _ h=>h) (Or.inl ⟨by rfl,?_⟩) ?_ ?_
                  rotate_left
                  · intro w';go_simp;with_reducible rfl
                  rotate_left
                  · simp only [ζl,δa,δb,δc,i64_w,i32_w];rfl
                  refine ζk (i:=4) (N:=some 41) (v:=?_) (a':=?_) #[τ,τ,τ,τ,τ,φ,φ,φ,φ,φ,φ,φ,φ] rfl rfl (ζj HT_.out (by kernel_rfl)) (fun _ _ _ h=>h) (Or.inl ⟨by rfl,?_⟩) ?_ ?_
                  rotate_left
                  · intro w';go_simp;with_reducible rfl
                  rotate_left
                  · simp only [ζl,δa,δb,δc,i64_w,i32_w];rfl
                  refine ζk (i:=7) (N:=some 44) (v:=?_) (a':=?_) #[τ,τ,τ,τ,τ,φ,φ,τ,φ,φ,φ,φ,φ] rfl rfl (ζj HT_.out (by kernel_rfl)) (fun _ _ _ h=>h) (Or.inl ⟨by rfl,?_⟩) ?_ ?_
                  rotate_left
                  · intro w';go_simp;with_reducible rfl
                  rotate_left
                  · simp only [ζl,δa,δb,δc,i64_w,i32_w];rfl
                  refine ζk (i:=8) (N:=some 45) (v:=?_) (a':=?_) #[τ,τ,τ,τ,τ,φ,φ,τ,τ,φ,φ,φ,φ] rfl rfl (ζj HT_.out (by kernel_rfl)) (fun _ _ _ h=>h) (Or.inl ⟨by rfl,?_⟩) ?_ ?_
                  rotate_left
                  · intro w';go_simp;with_reducible rfl
                  rotate_left
                  · simp only [ζl,δa,δb,δc,i64_w,i32_w];rfl
                  refine ζk (i:=9) (N:=some 46) (v:=?_) (a':=?_) #[τ,τ,τ,τ,τ,φ,φ,τ,τ,τ,φ,φ,φ] rfl rfl (ζj HT_.out (by kernel_rfl)) (fun _ _ _ h=>h) (Or.inl ⟨by rfl,?_⟩) ?_ ?_
                  rotate_left
                  · intro w';go_simp;with_reducible rfl
                  rotate_left
                  · simp only [ζl,δa,δb,δc,i64_w,i32_w];rfl
                  refine ζk (i:=10) (N:=some 47) (v:=?_) (a':=?_) #[τ,τ,τ,τ,τ,φ,φ,τ,τ,τ,τ,φ,φ] rfl rfl (ζj HT_.out (by kernel_rfl)) (fun _ _ _ h=>h) (Or.inl ⟨by rfl,?_⟩) ?_ ?_
                  rotate_left
                  · intro w';go_simp;with_reducible rfl
                  rotate_left
                  · simp only [ζl,δa,δb,δc,i64_w,i32_w];rfl
                  refine one_ (i:=5) (N:=some 42) #[τ,τ,τ,τ,τ,τ,φ,τ,τ,τ,τ,φ,φ] rfl rfl (one_of HT_.out (by kernel_rfl)) (by decide) (fun K hK => ?_)
                  refine value_ (w1:=?_) (v:=?_) (by rfl) rfl ?_ ?_
                  rotate_left 2
                  ·
                   go_simp
                   constructor
                   · rfl
                   ·
                    rfl
                  refine hK.out _ _ trivial (fun hHeld => ?_)
                  clear hK K
                  refine norm_ (a':=?_) ?_ ?_
                  rotate_left
                  ·
                   show ζl _ (some 42) _=_
                   simp only [ζl,δa,δb,δc,i64_w,i32_w];rfl
                  refine one_ (i:=6) (N:=some 43) #[τ,τ,τ,τ,τ,τ,τ,τ,τ,τ,τ,φ,φ] rfl rfl (one_of HT_.out (by kernel_rfl)) (by decide) (fun K hK => ?_)
                  refine Kd.R_append_step Kd.string (w0:=w) w.heap.size (by rfl) (.tmp 37) (.tmp 42) 75 9 (.string ⟨#[]⟩) 16 rfl Tryz.underlying75 info9 rfl (by decide) (by omega) u4 x4_2 (x5_2.extract 2 ((ji23):Int).toNat) [.string (x5_2.extract 2 ((ji23):Int).toNat)] (fun _=>True) (fun _=>False) rfl rfl ?aP (fun _ hk=>hk.elim) ?aF ?aO ?aB ?aS ?aL ?_
                  (case aP=>exact rfl)
                  (case aB=>exact (by exact HB.out))
                  (case aF=>exact (fun _ _=>trivial))
                  (case aO=>exact (by exact HO_4.out))
                  (case aS=>exact (δs (by exact HB.out)))
                  (case aL=>have:=LMc22.out;omega)
                  intro v355 w27 ho hb hg hat
                  rw [← Ny354.out] at ho
                  have n0_:=ζa (hb)
                  have n1_:=ζa (ho)
                  clear HB
                  clear HO_4
                  have HB:=n0_
                  have HO356:=n1_
                  clear n0_ n1_
                  clear ho hb hg hat
                  refine hK.out _ _ trivial (fun hHeld => ?_)
                  clear hK K
                  refine norm_ (a':=?_) ?_ ?_
                  rotate_left
                  ·
                   show ζl _ (some 43) _=_
                   simp only [ζl,δa,δb,δc,i64_w,i32_w];rfl
                  refine ζk (i:=11) (N:=some 4) (v:=?_) (a':=?_) #[τ,τ,τ,τ,τ,τ,τ,τ,τ,τ,τ,τ,φ] rfl rfl (ζj HT_.out (by kernel_rfl)) (fun _ _ _ h=>h) (Or.inl ⟨by rfl,?_⟩) ?_ ?_
                  rotate_left
                  · intro w';go_simp;with_reducible rfl
                  rotate_left
                  · simp only [ζl,δa,δb,δc,i64_w,i32_w];rfl
                  refine ζk (i:=12) (N:=some 5) (v:=?_) (a':=?_) #[τ,τ,τ,τ,τ,τ,τ,τ,τ,τ,τ,τ,τ] rfl rfl (ζj HT_.out (by kernel_rfl)) (fun _ _ _ h=>h) (Or.inl ⟨by rfl,?_⟩) ?_ ?_
                  rotate_left
                  · intro w';go_simp;with_reducible rfl
                  rotate_left
                  · simp only [ζl,δa,δb,δc,i64_w,i32_w];rfl
                  refine done_ (done_of HT_.out (by kernel_rfl)) ?_
                  try go_wp2
                  go_roundg k2
                  case measure=>have:=HJ1.out;have:=HK2.out;omega
                  case rel=>exact ⟨(y354),(x5_2.extract ((ji23):Int).toNat x5_2.size),(ζm (x20_2+1)),(by rfl),(by rfl),H',⟨by have:=HJ1.out;have:=HK2.out;omega⟩,⟨by exact HO356.out⟩,⟨by repeat ((with_reducible exact HB.out))⟩⟩
                 ·
                  rw [if_neg c24] at H
                  exact absurd H (by simp)
                ·
                 rw [if_neg c22] at H
                 exact absurd H (by simp)
               ·
                rw [if_neg c21] at H
                exact absurd H (by simp)
              ·
               rw [if_neg c20] at H
               exact absurd H (by simp)
           ·
            rw [if_neg c16] at H
            exact absurd H (by simp)
          ·
           rw [if_neg c15] at H
           exact absurd H (by simp)
        ·
         rw [if_neg c13] at H
         have c13b0:decide (x20_2<(ζm (bt a0 0)))=φ:=decide_eq_false c13
         clear c13
         simp only [Option.some.injEq,Prod.mk.injEq] at H
         obtain ⟨rfl,rfl⟩:=H
         go_wp2
         go_ret2
         exact ⟨_,by first|(simp [errW_none,errW_some] <;> rfl),by exact HO_4.out,by repeat ((with_reducible exact HB.out))⟩
     ·
      rw [if_neg c8] at H
      exact absurd H (by simp)
    ·
     rw [if_neg c7] at H
     exact absurd H (by simp)



theorem eqA109 (d : Nat) (w : World) (x0 y0 : Int) (x1 y1 : Int) (x2 y2 : Int) :
    (Op.equalIn (d + 2) 109 (.agg #[.int .i64 x0, .int .i64 x1, .int .i64 x2]) (.agg #[.int .i64 y0, .int .i64 y1, .int .i64 y2])).run Tryz.prog w = .ok (x0 == y0 && (x1 == y1 && (x2 == y2))) w := by
  refine eqA_of Tryz.underlying109 (by kernel_rfl) ?_
  refine eqf_cons (by rfl) (by go_simp; rfl) (by go_simp; rfl) (by go_simp) ?_
  refine eqf_cons (by rfl) (by go_simp; rfl) (by go_simp; rfl) (by go_simp) ?_
  exact eqf_last (by rfl) (by go_simp; rfl) (by go_simp; rfl) (by go_simp)

open Go.Proofs.YtabmfhnhmoiljaaGreatDoorW.PrintWords renaming gate_dst → δx, box_event → δz, below_size → δs, below_step → δr, blk_cell → δl, blk_frozen → δm, pw_below_drewN → δi

attribute [local go_sem high] eqA109
/-! ### impl_PoolOK: function 176 -/
def impl_PoolOK.f (a0_0:Int) (a0_1:Int) (a0_2:Int):Option (Bool):=if (a0_0 == 0 && (a0_1 == 0 && (a0_2 == 0)))=τ then (some τ) else ((impl_isSome.f a0_0).bind fun t896=>(if t896=τ then ((impl_isSome.f a0_1).bind fun t897=>(if t897=τ then ((impl_isSome.f a0_2).bind fun t898=>(some t898)) else (some φ))) else (some φ)))
set_option maxHeartbeats 8000000 in
set_option maxRecDepth 100000 in
theorem impl_PoolOK.calls (a0_0:Int) (a0_1:Int) (a0_2:Int) (r:Bool) (w:World) (h:impl_PoolOK.f a0_0 a0_1 a0_2=some r) :
  Calls Tryz.prog 176 #[.agg #[.int .i64 a0_0,.int .i64 a0_1,.int .i64 a0_2]] w fun e w'=>e = .returned (.bool r)∧Below w.heap.size w w':=by
 have hu109:=Tryz.underlying109
 have HB:=ζa (Below.refl w.heap.size w)
 have H:(if (a0_0 == 0 && (a0_1 == 0 && (a0_2 == 0)))=τ then (some τ) else ((impl_isSome.f a0_0).bind fun t896=>(if t896=τ then ((impl_isSome.f a0_1).bind fun t897=>(if t897=τ then ((impl_isSome.f a0_2).bind fun t898=>(some t898)) else (some φ))) else (some φ))))=some r:=h
 clear h
 by_cases c2:(a0_0 == 0 && (a0_1 == 0 && (a0_2 == 0)))=τ
 ·
  rw [if_pos c2] at H
  have c2b0:(a0_0 == 0 && (a0_1 == 0 && (a0_2 == 0)))=τ:=c2
  (try (have c2b1:decide (a0_0=0 && (a0_1 == 0 && (a0_2 == 0)))=τ:=by simpa using c2))
  (try (have c2b2:(a0_0 == 0 && (a0_1 == 0 && (a0_2 == 0)))=τ:=by simpa using c2))
  clear c2
  obtain rfl:=Option.some.inj H
  go_enter Tryz.func176,Tryz.ntmps176
  go_wp2_with (((with_reducible refine δx (N:=1) rfl ?_);refine δz ?hg (N:=1) ?hd (cs:=#[.int .i64 a0_0,.int .i64 a0_1,.int .i64 a0_2]) (t:=109) ?hr ?_;(case hd=>rfl);(case hg=>rfl);(case hr=>(go_simp;done));intro gb895 hg w3 hbox hb;have BK895:=ζa (hbox);have GW895:=ζa ((by rw [hg];exact (δs (by exact HB.out)):w.heap.size≤gb895));have GE895:=ζa ((by rw [hg];exact (δs (by exact HB.out)):w.heap.size≤gb895));replace HB:=ζa (δr (by exact HB.out) hb);clear hb hbox hg;have hcz4_0:w3.cell? ⟨gb895,0,none⟩=some (.int .i64 a0_0):=(δl BK895.out 0).trans rfl;have hcz4_1:w3.cell? ⟨gb895,1,none⟩=some (.int .i64 a0_1):=(δl BK895.out 1).trans rfl;have hcz4_2:w3.cell? ⟨gb895,2,none⟩=some (.int .i64 a0_2):=(δl BK895.out 2).trans rfl;have hfz4_0:=δm BK895.out 0;have hfz4_1:=δm BK895.out 1;have hfz4_2:=δm BK895.out 2))
  go_ret
  exact ⟨by rfl,by repeat ((with_reducible exact HB.out))⟩
 ·
  rw [if_neg c2] at H
  have c2b0:(a0_0 == 0 && (a0_1 == 0 && (a0_2 == 0)))=φ:=by simpa using c2
  (try (have c2b1:decide (a0_0=0 && (a0_1 == 0 && (a0_2 == 0)))=φ:=by simpa using c2))
  (try (have c2b2:(a0_0 == 0 && (a0_1 == 0 && (a0_2 == 0)))=φ:=by simpa using c2))
  (try (have c2b3 : ¬ (a0_0=0 && (a0_1 == 0 && (a0_2 == 0))):=by simpa using c2))
  clear c2
  replace H:=Option.bind_eq_some_iff.mp H
  obtain ⟨t896,A50,H⟩:=H
  replace H:(if t896=τ then ((impl_isSome.f a0_1).bind fun t897=>(if t897=τ then ((impl_isSome.f a0_2).bind fun t898=>(some t898)) else (some φ))) else (some φ))=some r:=H
  have A5:=ζa A50
  clear A50
  by_cases c6:t896=τ
  ·
   subst c6
   have H1:((impl_isSome.f a0_1).bind fun t897=>(if t897=τ then ((impl_isSome.f a0_2).bind fun t898=>(some t898)) else (some φ)))=some r:=by rw [if_pos rfl] at H;exact H
   clear H
   have H:=H1
   clear H1
   replace H:=Option.bind_eq_some_iff.mp H
   obtain ⟨t897,A70,H⟩:=H
   replace H:(if t897=τ then ((impl_isSome.f a0_2).bind fun t898=>(some t898)) else (some φ))=some r:=H
   have A7:=ζa A70
   clear A70
   by_cases c8:t897=τ
   ·
    subst c8
    have H1:((impl_isSome.f a0_2).bind fun t898=>(some t898))=some r:=by rw [if_pos rfl] at H;exact H
    clear H
    have H:=H1
    clear H1
    replace H:=Option.bind_eq_some_iff.mp H
    obtain ⟨t898,A90,H⟩:=H
    replace H:(some t898)=some r:=H
    have A9:=ζa A90
    clear A90
    obtain rfl:=Option.some.inj H
    go_enter Tryz.func176,Tryz.ntmps176
    go_wp2_with (first|((with_reducible refine δx (N:=1) rfl ?_);refine δz ?hg (N:=1) ?hd (cs:=#[.int .i64 a0_0,.int .i64 a0_1,.int .i64 a0_2]) (t:=109) ?hr ?_;(case hd=>rfl);(case hg=>rfl);(case hr=>(go_simp;done));intro gb895 hg w10 hbox hb;have BK895:=ζa (hbox);have GW895:=ζa ((by rw [hg];exact (δs (by exact HB.out)):w.heap.size≤gb895));have GE895:=ζa ((by rw [hg];exact (δs (by exact HB.out)):w.heap.size≤gb895));replace HB:=ζa (δr (by exact HB.out) hb);clear hb hbox hg;have hcz11_0:w10.cell? ⟨gb895,0,none⟩=some (.int .i64 a0_0):=(δl BK895.out 0).trans rfl;have hcz11_1:w10.cell? ⟨gb895,1,none⟩=some (.int .i64 a0_1):=(δl BK895.out 1).trans rfl;have hcz11_2:w10.cell? ⟨gb895,2,none⟩=some (.int .i64 a0_2):=(δl BK895.out 2).trans rfl;have hfz11_0:=δm BK895.out 0;have hfz11_1:=δm BK895.out 1;have hfz11_2:=δm BK895.out 2)|(go_at_call 122;(with_reducible refine (impl_isSome.calls a0_0 τ _ A5.out).mono ?_);rintro e w' ⟨rfl,⟨nd,rfl⟩⟩)|(go_at_call 122;(with_reducible refine (impl_isSome.calls a0_1 τ _ A7.out).mono ?_);rintro e w' ⟨rfl,⟨nd,rfl⟩⟩)|(go_at_call 122;(with_reducible refine (impl_isSome.calls a0_2 t898 _ A9.out).mono ?_);rintro e w' ⟨rfl,⟨nd,rfl⟩⟩))
    go_ret
    exact ⟨by rfl,by repeat ((with_reducible first|exact HB.out|apply δi))⟩
   ·
    replace c8:=Bool.eq_false_iff.mpr c8
    subst c8
    have H1:(some φ)=some r:=by rw [if_neg (show ¬ (φ=τ) by decide)] at H;exact H
    clear H
    have H:=H1
    clear H1
    obtain rfl:=Option.some.inj H
    go_enter Tryz.func176,Tryz.ntmps176
    go_wp2_with (first|((with_reducible refine δx (N:=1) rfl ?_);refine δz ?hg (N:=1) ?hd (cs:=#[.int .i64 a0_0,.int .i64 a0_1,.int .i64 a0_2]) (t:=109) ?hr ?_;(case hd=>rfl);(case hg=>rfl);(case hr=>(go_simp;done));intro gb895 hg w12 hbox hb;have BK895:=ζa (hbox);have GW895:=ζa ((by rw [hg];exact (δs (by exact HB.out)):w.heap.size≤gb895));have GE895:=ζa ((by rw [hg];exact (δs (by exact HB.out)):w.heap.size≤gb895));replace HB:=ζa (δr (by exact HB.out) hb);clear hb hbox hg;have hcz13_0:w12.cell? ⟨gb895,0,none⟩=some (.int .i64 a0_0):=(δl BK895.out 0).trans rfl;have hcz13_1:w12.cell? ⟨gb895,1,none⟩=some (.int .i64 a0_1):=(δl BK895.out 1).trans rfl;have hcz13_2:w12.cell? ⟨gb895,2,none⟩=some (.int .i64 a0_2):=(δl BK895.out 2).trans rfl;have hfz13_0:=δm BK895.out 0;have hfz13_1:=δm BK895.out 1;have hfz13_2:=δm BK895.out 2)|(go_at_call 122;(with_reducible refine (impl_isSome.calls a0_0 τ _ A5.out).mono ?_);rintro e w' ⟨rfl,⟨nd,rfl⟩⟩)|(go_at_call 122;(with_reducible refine (impl_isSome.calls a0_1 φ _ A7.out).mono ?_);rintro e w' ⟨rfl,⟨nd,rfl⟩⟩))
    go_ret
    exact ⟨by rfl,by repeat ((with_reducible first|exact HB.out|apply δi))⟩
  ·
   replace c6:=Bool.eq_false_iff.mpr c6
   subst c6
   have H1:(some φ)=some r:=by rw [if_neg (show ¬ (φ=τ) by decide)] at H;exact H
   clear H
   have H:=H1
   clear H1
   obtain rfl:=Option.some.inj H
   go_enter Tryz.func176,Tryz.ntmps176
   go_wp2_with (first|((with_reducible refine δx (N:=1) rfl ?_);refine δz ?hg (N:=1) ?hd (cs:=#[.int .i64 a0_0,.int .i64 a0_1,.int .i64 a0_2]) (t:=109) ?hr ?_;(case hd=>rfl);(case hg=>rfl);(case hr=>(go_simp;done));intro gb895 hg w14 hbox hb;have BK895:=ζa (hbox);have GW895:=ζa ((by rw [hg];exact (δs (by exact HB.out)):w.heap.size≤gb895));have GE895:=ζa ((by rw [hg];exact (δs (by exact HB.out)):w.heap.size≤gb895));replace HB:=ζa (δr (by exact HB.out) hb);clear hb hbox hg;have hcz15_0:w14.cell? ⟨gb895,0,none⟩=some (.int .i64 a0_0):=(δl BK895.out 0).trans rfl;have hcz15_1:w14.cell? ⟨gb895,1,none⟩=some (.int .i64 a0_1):=(δl BK895.out 1).trans rfl;have hcz15_2:w14.cell? ⟨gb895,2,none⟩=some (.int .i64 a0_2):=(δl BK895.out 2).trans rfl;have hfz15_0:=δm BK895.out 0;have hfz15_1:=δm BK895.out 1;have hfz15_2:=δm BK895.out 2)|(go_at_call 122;(with_reducible refine (impl_isSome.calls a0_0 φ _ A5.out).mono ?_);rintro e w' ⟨rfl,⟨nd,rfl⟩⟩))
   go_ret
   exact ⟨by rfl,by repeat ((with_reducible first|exact HB.out|apply δi))⟩


open Go.Proofs.YtabmfhnhmoiljaaGreatDoorW.PrintWords renaming gate_dst → δx, below_size → δs, below_step → δr, below_set → δq

/-! ### impl_number: function 189 -/
def impl_number.l0:Nat→Int→List Int→Int→Option (ByteArray)
 | 0,_,_,_=>none
 | k+1,x0,x5,x6=>if x6 ≥ 0 then (if 0≤x6 then (if x6<(x5.length:Int) then (impl_number.l0 k (x0 / 256) (x5.set (x6:Int).toNat ((x0) % 256)) (ζm (x6 - 1))) else (none)) else (none)) else (some (strOfNums x5))
def impl_number.f (k:Nat) (a0:Int) (a1:Int):Option (ByteArray):=if 0≤a1 then (if (a1:Int).toNat≤281474976710656 then (impl_number.l0 k a0 (List.replicate (a1:Int).toNat 0) (ζm (a1 - 1))) else (none)) else (none)
set_option maxHeartbeats 8000000 in
set_option maxRecDepth 100000 in
theorem impl_number.calls (k:Nat) (a0:Int) (a1:Int) (r:ByteArray) (w:World) (h:impl_number.f k a0 a1=some r) :
  Calls Tryz.prog 189 #[.int .i64 a0,.int .i64 a1] w fun e w'=>e = .returned (.string r)∧Below w.heap.size w w':=by
 have HB:=ζa (Below.refl w.heap.size w)
 have H:(if 0≤a1 then (if (a1:Int).toNat≤281474976710656 then (impl_number.l0 k a0 (List.replicate (a1:Int).toNat 0) (ζm (a1 - 1))) else (none)) else (none))=some r:=h
 clear h
 by_cases c3:0≤a1
 ·
  rw [if_pos c3] at H
  have c3b0:=eq_true c3
  have c3b1:decide (0≤a1)=τ:=decide_eq_true c3
  clear c3
  by_cases c4:(a1:Int).toNat≤281474976710656
  ·
   rw [if_pos c4] at H
   have c4b0:=eq_true c4
   have c4b1:decide ((a1:Int).toNat≤281474976710656)=τ:=decide_eq_true c4
   clear c4
   obtain ⟨y240,hy240⟩ : ∃ y_:List Int,y_=(List.replicate (a1:Int).toNat 0):=⟨_,rfl⟩
   replace H:(impl_number.l0 k a0 y240 (ζm (a1 - 1)))=some r:=by (rw [hy240];with_reducible exact H)
   have Ny240:=ζa hy240
   clear hy240
   have H':=ζa H
   clear H
   go_enter Tryz.func189,Tryz.ntmps189
   go_wp2_with (((with_reducible refine δx (N:=8) rfl ?_);refine Kd.R_make (Kd.int .u8) _ 5 rfl (N:=8) rfl 82 _ _ rfl a1 rfl rfl Tryz.underlying82 (.int .u8 0) 1 info5 rfl (by decide) (by omega) 0 (ok:=fun _=>True) (okp:=fun _=>True) rfl (fun _ hk=>hk) trivial (of_decide_eq_true (by (with_reducible assumption))) (Nat.le_trans (Nat.mul_le_mul_right _ (of_decide_eq_true (by (with_reducible assumption)):a1.toNat≤281474976710656)) (by omega)) (Below.refl _ _) (Nat.le_refl _) ?_;intro v241 w5 ho6 hb hg_ hnew_;clear hg_ hnew_;(rw [← Ny240.out] at ho6);have HO242:=ζa (Kd.R_lower ho6 (δs (by exact HB.out)));replace HB:=ζa (δr (by exact HB.out) hb);clear hb ho6))
   go_loopg [0,6] k (fun kq v0 v6 w' => ∃ (x0_1:Int) (x5_1:List Int) (x6_1:Int),v0 = .int .i64 x0_1∧v6 = .int .i64 x6_1∧Aside0 (impl_number.l0 kq x0_1 x5_1 x6_1=some r)∧Aside0 (kq≤k)∧Aside0 (Kd.R (Kd.int .u8) 5 w' w.heap.size (fun _=>True) v241 x5_1)∧Aside0 (Below w.heap.size w w'))
   case atStart=>exact ⟨(a0),(y240),(ζm (a1 - 1)),(by rfl),(by rfl),H',⟨Nat.le_refl _⟩,⟨by exact HO242.out⟩,⟨by repeat ((with_reducible exact HB.out))⟩⟩
   case round =>
    clear H'
    try clear c1
    try clear p2
    try clear c3
    try clear c3b0
    try clear c3b1
    try clear c4
    try clear c4b0
    try clear c4b1
    try clear p6
    obtain ⟨x0_1,x5_1,x6_1,rfl,rfl,HA,HK1,HO_5,HB⟩:=hrel
    cases gk with
    | zero=>exact absurd HA.out (by simp [impl_number.l0])
    | succ k1 =>
     have H:=HA.out
     clear HA
     simp only [impl_number.l0] at H
     by_cases c7:x6_1 ≥ 0
     ·
      rw [if_pos c7] at H
      have c7b0:decide (0≤x6_1)=τ:=decide_eq_true c7
      clear c7
      by_cases c8:0≤x6_1
      ·
       rw [if_pos c8] at H
       have c8b0:decide (0≤x6_1)=τ:=decide_eq_true c8
       clear c8
       by_cases c9:x6_1<(x5_1.length:Int)
       ·
        rw [if_pos c9] at H
        have c9b0:decide (x6_1<(x5_1.length:Int))=τ:=decide_eq_true c9
        clear c9
        obtain ⟨y243,hy243⟩ : ∃ y_:List Int,y_=(x5_1.set (x6_1:Int).toNat ((x0_1) % 256)):=⟨_,rfl⟩
        replace H:(impl_number.l0 k1 (x0_1 / 256) y243 (ζm (x6_1 - 1)))=some r:=by (rw [hy243];with_reducible exact H)
        have Ny243:=ζa hy243
        clear hy243
        have H':=ζa H
        clear H
        have p10:0≤(x6_1:Int):=of_decide_eq_true (by (with_reducible assumption))
        have q10:(x6_1:Int)<((x5_1.length:Int):Int):=of_decide_eq_true (by (with_reducible assumption))
        obtain ⟨go10,co10,eo10,gb10,gl10,cl10,HG10⟩:=Kd.R_form HO_5.out (by omega)
        (cases eo10)
        have GB10:=ζa gb10
        have GG10:=ζa HG10
        clear gb10 gl10 HG10
        obtain ⟨hx10_0,hf10_0⟩:=Kd.R_celln 0 HO_5.out (x6_1:Int) p10 q10
        replace p10:=eq_true p10
        replace q10:=eq_true q10
        have HP11:=Kd.R_putg HO_5.out (x6_1:Int) ((x0_1) % 256)
        go_wp2_with (((with_reducible refine gate_store (t:=5) (p:=19) rfl ?_);refine store_event (t:=5) (p:=19) (v:=?vo_w12) (w1:=(wr.setCell ⟨go10,(x6_1:Int).toNat,none⟩ (.int .u8 ((x0_1) % 256)))) ?hg ?ho ?hn ?hr ?_;(case ho=>rfl);(case hg=>rfl);(case hn=>rfl);(case hr=>(go_simp;done));intro w12 hw;have hg:wr.grownBy w12 (some go10):=(by rw [hw];exact HP11.2);have hp_:Kd.R (Kd.int .u8) 5 w12 w.heap.size (fun _=>True) (.slice (some ⟨go10,0,none⟩) x5_1.length co10) y243:=(by rw [hw,Ny243.out];exact HP11.1);clear HP11;replace HO_5:=ζa (hp_);replace HB:=ζa ((by rw [hw];exact δq (HB.out) GB10.out:Below w.heap.size w w12));clear hg hw hp_))
        go_roundg k1
        case measure=>have:=HK1.out;omega
        case rel=>exact ⟨(x0_1 / 256),(y243),(ζm (x6_1 - 1)),(by rfl),(by rfl),H',⟨by have:=HK1.out;omega⟩,⟨by exact HO_5.out⟩,⟨by repeat ((with_reducible exact HB.out))⟩⟩
       ·
        rw [if_neg c9] at H
        exact absurd H (by simp)
      ·
       rw [if_neg c8] at H
       exact absurd H (by simp)
     ·
      rw [if_neg c7] at H
      have c7b0:decide (0≤x6_1)=φ:=decide_eq_false c7
      clear c7
      obtain rfl:=Option.some.inj H
      have hcv13:=own_string (P:=Tryz.prog) Tryz.underlying82 Tryz.underlying5 Tryz.underlying9 (Kd.own_of_R HO_5.out)
      go_wp2
      go_ret
      exact ⟨by rfl,by repeat ((with_reducible exact HB.out))⟩
  ·
   rw [if_neg c4] at H
   exact absurd H (by simp)
 ·
  rw [if_neg c3] at H
  exact absurd H (by simp)


open Go.Proofs.YtabmfhnhmoiljaaGreatDoorW.PrintWords renaming gate_callee → δv, below_step → δr

/-! ### impl_fields: function 146 -/
def impl_fields.l0:Nat→ByteArray→List ByteArray→Int→Int→Option (ByteArray)
 | 0,_,_,_,_=>none
 | k+1,x3,x9,x10,x11=>if x11<x10 then (if 0≤x11 then (if x11<(x9.length:Int) then ((impl_number.f k ((rdOf ByteArray.empty x9 x11).size:Int) 2).bind fun t246=>(if t246.size+(rdOf ByteArray.empty x9 x11).size≤9223372036854775807 then (if x3.size+(t246 ++ (rdOf ByteArray.empty x9 x11)).size≤9223372036854775807 then (impl_fields.l0 k (x3 ++ (t246 ++ (rdOf ByteArray.empty x9 x11))) x9 x10 (ζm (x11+1))) else (none)) else (none))) else (none)) else (none)) else (some x3)
def impl_fields.f (k:Nat) (l0:List ByteArray):Option (ByteArray):=(impl_number.f k (l0.length:Int) 1).bind fun t244=>(impl_fields.l0 k t244 l0 (l0.length:Int) 0)
set_option maxHeartbeats 8000000 in
set_option maxRecDepth 100000 in
theorem impl_fields.calls (k:Nat) (A0:Option Addr) (c0:Nat) (l0:List ByteArray) (r:ByteArray) (w:World) (hr0:Kd.C Kd.string w A0 l0.length l0) (hc0:l0.length≤c0) (h:impl_fields.f k l0=some r) :
  Calls Tryz.prog 146 #[.slice A0 l0.length c0] w fun e w'=>e = .returned (.string r)∧Below w.heap.size w w':=by
 have HR0:=ζa hr0
 have HC0:=ζa hc0
 clear hr0 hc0
 have HB:=ζa (Below.refl w.heap.size w)
 have H:((impl_number.f k (l0.length:Int) 1).bind fun t244=>(impl_fields.l0 k t244 l0 (l0.length:Int) 0))=some r:=h
 clear h
 replace H:=Option.bind_eq_some_iff.mp H
 obtain ⟨t244,A20,H⟩:=H
 replace H:(impl_fields.l0 k t244 l0 (l0.length:Int) 0)=some r:=H
 have A2:=ζa A20
 clear A20
 have H':=ζa H
 clear H
 go_enter Tryz.func146,Tryz.ntmps146
 go_wp2_with (((with_reducible refine δv (f:=189) rfl ?_);refine goesL_ (some 8) rfl rfl Tryz.func189 (by kernel_rfl) rfl #[.int .i64 (l0.length:Int),.int .i64 1] rfl (by (try simp only [δd,δe,δf]);rfl) ?_;(with_reducible refine (impl_number.calls k (l0.length:Int) 1 t244 _ A2.out).mono ?_);rintro e w3 ⟨rfl,hb⟩;refine ⟨_,rfl,?_⟩;replace HB:=ζa (δr (by exact HB.out) hb);(try clear hb);(try clear hb2);(try clear hk);(try clear hi)))
 go_loopg [3,11] k (fun kq v3 v11 w' => ∃ (x3_1:ByteArray) (x11_1:Int),v3 = .string x3_1∧v11 = .int .i64 x11_1∧Aside0 (impl_fields.l0 kq x3_1 l0 (l0.length:Int) x11_1=some r)∧Aside0 (kq≤k)∧Aside0 (Below w.heap.size w w'))
 case atStart=>exact ⟨(t244),(0),(by rfl),(by rfl),H',⟨Nat.le_refl _⟩,⟨by repeat ((with_reducible exact HB.out))⟩⟩
 case round =>
  clear H'
  try clear c1
  try clear p2
  obtain ⟨x3_1,x11_1,rfl,rfl,HA,HK1,HB⟩:=hrel
  cases gk with
  | zero=>exact absurd HA.out (by simp [impl_fields.l0])
  | succ k1 =>
   have H:=HA.out
   clear HA
   simp only [impl_fields.l0] at H
   by_cases c4:x11_1<(l0.length:Int)
   ·
    rw [if_pos c4] at H
    have c4b0:decide (x11_1<(l0.length:Int))=τ:=decide_eq_true c4
    clear c4
    by_cases c5:0≤x11_1
    ·
     rw [if_pos c5] at H
     have c5b0:decide (0≤x11_1)=τ:=decide_eq_true c5
     clear c5
     by_cases c6:x11_1<(l0.length:Int)
     ·
      rw [if_pos c6] at H
      have c6b0:decide (x11_1<(l0.length:Int))=τ:=decide_eq_true c6
      clear c6
      replace H:=Option.bind_eq_some_iff.mp H
      obtain ⟨t246,A70,H⟩:=H
      replace H:(if t246.size+(rdOf ByteArray.empty l0 x11_1).size≤9223372036854775807 then (if x3_1.size+(t246 ++ (rdOf ByteArray.empty l0 x11_1)).size≤9223372036854775807 then (impl_fields.l0 k1 (x3_1 ++ (t246 ++ (rdOf ByteArray.empty l0 x11_1))) l0 (l0.length:Int) (ζm (x11_1+1))) else (none)) else (none))=some r:=H
      have A7:=ζa A70
      clear A70
      by_cases c8:t246.size+(rdOf ByteArray.empty l0 x11_1).size≤9223372036854775807
      ·
       rw [if_pos c8] at H
       have c8b0:=eq_true c8
       have c8b1:decide (t246.size+(rdOf ByteArray.empty l0 x11_1).size≤9223372036854775807)=τ:=decide_eq_true c8
       try have c8b2:(9223372036854775807<t246.size+(rdOf ByteArray.empty l0 x11_1).size)=False:=eq_false (Nat.not_lt.2 c8)
       by_cases c9:x3_1.size+(t246 ++ (rdOf ByteArray.empty l0 x11_1)).size≤9223372036854775807
       ·
        rw [if_pos c9] at H
        have c9b0:=eq_true c9
        have c9b1:decide (x3_1.size+(t246 ++ (rdOf ByteArray.empty l0 x11_1)).size≤9223372036854775807)=τ:=decide_eq_true c9
        try have c9b2:(9223372036854775807<x3_1.size+(t246 ++ (rdOf ByteArray.empty l0 x11_1)).size)=False:=eq_false (Nat.not_lt.2 c9)
        have H':=ζa H
        clear H
        have p245:0≤(x11_1:Int):=of_decide_eq_true (by (with_reducible assumption))
        have q245:x11_1<(l0.length:Int):=of_decide_eq_true (by (with_reducible assumption))
        obtain ⟨ad245,e245,hx245_0⟩:=Kd.at_string HR0.out x11_1 p245 q245
        cases e245
        replace hx245_0:=(HB.out.cell (World.block_lt_of_cell? w _ hx245_0)).trans hx245_0
        replace p245:=eq_true p245
        replace q245:=eq_true q245
        go_wp2_with (((with_reducible refine δv (f:=189) rfl ?_);refine goesL_ (some 18) rfl rfl Tryz.func189 (by kernel_rfl) rfl #[.int .i64 ((rdOf ByteArray.empty l0 x11_1).size:Int),.int .i64 2] rfl (by (try simp only [δd,δe,δf]);rfl) ?_;(with_reducible refine (impl_number.calls k1 ((rdOf ByteArray.empty l0 x11_1).size:Int) 2 t246 _ A7.out).mono ?_);rintro e w10 ⟨rfl,hb⟩;refine ⟨_,rfl,?_⟩;replace HB:=ζa (δr (by exact HB.out) hb);(try clear hb);(try clear hb2);(try clear hk);(try clear hi)))
        go_roundg k1
        case measure=>have:=HK1.out;omega
        case rel=>exact ⟨(x3_1 ++ (t246 ++ (rdOf ByteArray.empty l0 x11_1))),(ζm (x11_1+1)),(by rfl),(by rfl),H',⟨by have:=HK1.out;omega⟩,⟨by repeat ((with_reducible exact HB.out))⟩⟩
       ·
        rw [if_neg c9] at H
        exact absurd H (by simp)
      ·
       rw [if_neg c8] at H
       exact absurd H (by simp)
     ·
      rw [if_neg c6] at H
      exact absurd H (by simp)
    ·
     rw [if_neg c5] at H
     exact absurd H (by simp)
   ·
    rw [if_neg c4] at H
    have c4b0:decide (x11_1<(l0.length:Int))=φ:=decide_eq_false c4
    clear c4
    obtain rfl:=Option.some.inj H
    go_wp2
    go_ret
    exact ⟨by rfl,by repeat ((with_reducible exact HB.out))⟩


open Go.Proofs.YtabmfhnhmoiljaaGreatDoorW.PrintWords renaming gate_dst → δx, box_event → δz, below_size → δs, below_step → δr, blk_drew → δp, below_drew1 → δj, blk_cell → δl
open Go.Proofs.YtabmfhnhmoiljaaGreatDoorW.PrintWords.Kd renaming R_reads' → ζg, R_below → ζh

/-! ### impl_Pool_value: function 177 -/
def impl_Pool_value.f (k:Nat) (a0_0:Int) (a0_1:Int) (a0_2:Int):Option (ByteArray):=(impl_amountText.f a0_0).bind fun t900=>((impl_amountText.f a0_1).bind fun t901=>((impl_amountText.f a0_2).bind fun t902=>((impl_fields.f k (([t900,t901,t902]:List ByteArray))).bind fun t906=>(some t906))))
def impl_Pool_value.T1:Bool × List (List Nat × List Nat):=(τ,[([],[]),([0],[0]),([1],[1]),([],[]),([3],[3]),([4,2],[4]),([],[]),([6],[6]),([7,5],[7]),([2,5,8],[2,5,8]),([9,8],[9]),([10,10,0,1,2,3,4,5,6,7,8,9,10],[10])])
def impl_Pool_value.B1:List Nat:=[0,1,3,0,8,31,0,64,255,511,1023,2047]
theorem impl_Pool_value.tab1:rtab .any (opsOf Tryz.f177 1)=impl_Pool_value.T1:=by kernel_rfl
theorem impl_Pool_value.bits1:waitsOk impl_Pool_value.T1.2 impl_Pool_value.B1=τ:=by kernel_rfl
set_option maxHeartbeats 8000000 in
set_option maxRecDepth 100000 in
theorem impl_Pool_value.calls (k:Nat) (a0_0:Int) (a0_1:Int) (a0_2:Int) (r:ByteArray) (w:World) (hT0:TabsOK w) (h:impl_Pool_value.f k a0_0 a0_1 a0_2=some r) :
  Calls Tryz.prog 177 #[.agg #[.int .i64 a0_0,.int .i64 a0_1,.int .i64 a0_2]] w fun e w'=>e = .returned (.string r)∧Below w.heap.size w w':=by
 have HT0:=ζa hT0
 clear hT0
 have hu109:=Tryz.underlying109
 have HB:=ζa (Below.refl w.heap.size w)
 have H:((impl_amountText.f a0_0).bind fun t900=>((impl_amountText.f a0_1).bind fun t901=>((impl_amountText.f a0_2).bind fun t902=>((impl_fields.f k (([t900,t901,t902]:List ByteArray))).bind fun t906=>(some t906)))))=some r:=h
 clear h
 replace H:=Option.bind_eq_some_iff.mp H
 obtain ⟨t900,A20,H⟩:=H
 replace H:((impl_amountText.f a0_1).bind fun t901=>((impl_amountText.f a0_2).bind fun t902=>((impl_fields.f k (([t900,t901,t902]:List ByteArray))).bind fun t906=>(some t906))))=some r:=H
 have A2:=ζa A20
 clear A20
 replace H:=Option.bind_eq_some_iff.mp H
 obtain ⟨t901,A30,H⟩:=H
 replace H:((impl_amountText.f a0_2).bind fun t902=>((impl_fields.f k (([t900,t901,t902]:List ByteArray))).bind fun t906=>(some t906)))=some r:=H
 have A3:=ζa A30
 clear A30
 replace H:=Option.bind_eq_some_iff.mp H
 obtain ⟨t902,A40,H⟩:=H
 replace H:((impl_fields.f k (([t900,t901,t902]:List ByteArray))).bind fun t906=>(some t906))=some r:=H
 have A4:=ζa A40
 clear A40
 obtain ⟨y903,hy903⟩ : ∃ y_:List ByteArray,y_=(([t900,t901,t902]:List ByteArray)):=⟨_,rfl⟩
 replace H:((impl_fields.f k y903).bind fun t906=>(some t906))=some r:=by (rw [hy903];with_reducible exact H)
 have Ny903:=ζa hy903
 clear hy903
 replace H:=Option.bind_eq_some_iff.mp H
 obtain ⟨t906,A50,H⟩:=H
 replace H:(some t906)=some r:=H
 have A5:=ζa A50
 clear A50
 obtain rfl:=Option.some.inj H
 go_enter Tryz.func177,Tryz.ntmps177
 try go_wp2_with (((with_reducible refine δx (N:=1) rfl ?_);refine δz ?hg (N:=1) ?hd (cs:=#[.int .i64 a0_0,.int .i64 a0_1,.int .i64 a0_2]) (t:=109) ?hr ?_;(case hd=>rfl);(case hg=>rfl);(case hr=>(go_simp;done));intro gb899 hg w6 hbox hb;have BK899:=ζa (hbox);have GW899:=ζa ((by rw [hg];exact (δs (by exact HB.out)):w.heap.size≤gb899));have GE899:=ζa ((by rw [hg];exact (δs (by exact HB.out)):w.heap.size≤gb899));replace HB:=ζa (δr (by exact HB.out) hb);clear hb hbox hg))
 replace BK899:=ζa (δp BK899.out)
 replace HB:=ζa (δj HB.out)
 refine start_ (n:=12) (S:=fun w'=>w'.cell? ⟨gb899,0,none⟩=some (.int .i64 a0_0)∧w'.cell? ⟨gb899,1,none⟩=some (.int .i64 a0_1)∧w'.cell? ⟨gb899,2,none⟩=some (.int .i64 a0_2)) (ds:=[]) #[φ,φ,φ,φ,φ,φ,φ,φ,φ,φ,φ,φ] (by kernel_rfl) rfl rfl ⟨(δl BK899.out 0).trans rfl,(δl BK899.out 1).trans rfl,(δl BK899.out 2).trans rfl⟩ (fun hHeld => ?_);refine with_tabW impl_Pool_value.tab1 impl_Pool_value.bits1 (fun HT_ HW_ => ?_)
 generalize w6.drew=w7 at BK899 HB hHeld ⊢
 refine ζk (i:=0) (N:=some 3) (v:=?_) (a':=?_) #[τ,φ,φ,φ,φ,φ,φ,φ,φ,φ,φ,φ] rfl rfl (ζj HT_.out (by kernel_rfl)) (fun _ _ _ h=>h) (Or.inl ⟨by rfl,?_⟩) ?_ ?_
 rotate_left
 · intro w';go_simp;with_reducible rfl
 rotate_left
 · simp only [ζl,δa,δb,δc,i64_w,i32_w];rfl
 refine ζk (i:=3) (N:=some 6) (v:=?_) (a':=?_) #[τ,φ,φ,τ,φ,φ,φ,φ,φ,φ,φ,φ] rfl rfl (ζj HT_.out (by kernel_rfl)) (fun _ _ _ h=>h) (Or.inl ⟨by rfl,?_⟩) ?_ ?_
 rotate_left
 · intro w';go_simp;with_reducible rfl
 rotate_left
 · simp only [ζl,δa,δb,δc,i64_w,i32_w];rfl
 refine ζk (i:=6) (N:=some 9) (v:=?_) (a':=?_) #[τ,φ,φ,τ,φ,φ,τ,φ,φ,φ,φ,φ] rfl rfl (ζj HT_.out (by kernel_rfl)) (fun _ _ _ h=>h) (Or.inl ⟨by rfl,?_⟩) ?_ ?_
 rotate_left
 · intro w';go_simp;with_reducible rfl
 rotate_left
 · simp only [ζl,δa,δb,δc,i64_w,i32_w];rfl
 refine take_ (i:=1) (N:=some 4) (v:=?_) (a':=?_) #[τ,τ,φ,τ,φ,φ,τ,φ,φ,φ,φ,φ] rfl rfl (take_ofW HT_.out HW_.out (by kernel_rfl)) (fun _ _ _ h=>h) (Or.inl ⟨by rfl,?_⟩) hHeld ?_ ?_
 rotate_left
 · rintro w' ⟨s0,s1,s2⟩;go_simp;with_reducible rfl
 rotate_left
 · simp only [ζl,δa,δb,δc,i64_w,i32_w];rfl
 refine take_ (i:=4) (N:=some 7) (v:=?_) (a':=?_) #[τ,τ,φ,τ,τ,φ,τ,φ,φ,φ,φ,φ] rfl rfl (take_ofW HT_.out HW_.out (by kernel_rfl)) (fun _ _ _ h=>h) (Or.inl ⟨by rfl,?_⟩) hHeld ?_ ?_
 rotate_left
 · rintro w' ⟨s0,s1,s2⟩;go_simp;with_reducible rfl
 rotate_left
 · simp only [ζl,δa,δb,δc,i64_w,i32_w];rfl
 refine take_ (i:=7) (N:=some 10) (v:=?_) (a':=?_) #[τ,τ,φ,τ,τ,φ,τ,τ,φ,φ,φ,φ] rfl rfl (take_ofW HT_.out HW_.out (by kernel_rfl)) (fun _ _ _ h=>h) (Or.inl ⟨by rfl,?_⟩) hHeld ?_ ?_
 rotate_left
 · rintro w' ⟨s0,s1,s2⟩;go_simp;with_reducible rfl
 rotate_left
 · simp only [ζl,δa,δb,δc,i64_w,i32_w];rfl
 refine one_ (i:=2) (N:=some 5) #[τ,τ,τ,τ,τ,φ,τ,τ,φ,φ,φ,φ] rfl rfl (one_of HT_.out (by kernel_rfl)) (by decide) (fun K hK => ?_)
 refine goes_ Tryz.func147 (by kernel_rfl) rfl #[.int .i64 a0_0] (by rfl) rfl rfl (by (try simp only [δd,δe,δf]);rfl) ?_
 with_reducible refine (impl_amountText.calls a0_0 t900 _ (HT0.out.below (by exact HB.out)) A2.out).mono ?_
 rintro e w8 ⟨rfl,hb⟩
 refine ⟨_,rfl,?_⟩
 replace BK899:=ζa (blk_below (g:=gb899) (o:=.cells #[.int .i64 a0_0,.int .i64 a0_1,.int .i64 a0_2] 109 (0,0)) (by exact BK899.out) hb)
 replace HB:=ζa (δr (by exact HB.out) hb)
 (try clear hb)
 (try clear hb2)
 (try clear hk)
 (try clear hi)
 refine hK.out _ _ ⟨(δl BK899.out 0).trans rfl,(δl BK899.out 1).trans rfl,(δl BK899.out 2).trans rfl⟩ (fun hHeld => ?_)
 clear hK K
 refine norm_ (a':=?_) ?_ ?_
 rotate_left
 ·
  show ζl _ (some 5) _=_
  simp only [ζl,δa,δb,δc,i64_w,i32_w];rfl
 refine one_ (i:=5) (N:=some 8) #[τ,τ,τ,τ,τ,τ,τ,τ,φ,φ,φ,φ] rfl rfl (one_of HT_.out (by kernel_rfl)) (by decide) (fun K hK => ?_)
 refine goes_ Tryz.func147 (by kernel_rfl) rfl #[.int .i64 a0_1] (by rfl) rfl rfl (by (try simp only [δd,δe,δf]);rfl) ?_
 with_reducible refine (impl_amountText.calls a0_1 t901 _ (HT0.out.below (by exact HB.out)) A3.out).mono ?_
 rintro e w9 ⟨rfl,hb⟩
 refine ⟨_,rfl,?_⟩
 replace BK899:=ζa (blk_below (g:=gb899) (o:=.cells #[.int .i64 a0_0,.int .i64 a0_1,.int .i64 a0_2] 109 (0,0)) (by exact BK899.out) hb)
 replace HB:=ζa (δr (by exact HB.out) hb)
 (try clear hb)
 (try clear hb2)
 (try clear hk)
 (try clear hi)
 refine hK.out _ _ ⟨(δl BK899.out 0).trans rfl,(δl BK899.out 1).trans rfl,(δl BK899.out 2).trans rfl⟩ (fun hHeld => ?_)
 clear hK K
 refine norm_ (a':=?_) ?_ ?_
 rotate_left
 ·
  show ζl _ (some 8) _=_
  simp only [ζl,δa,δb,δc,i64_w,i32_w];rfl
 refine one_ (i:=8) (N:=some 11) #[τ,τ,τ,τ,τ,τ,τ,τ,τ,φ,φ,φ] rfl rfl (one_of HT_.out (by kernel_rfl)) (by decide) (fun K hK => ?_)
 refine goes_ Tryz.func147 (by kernel_rfl) rfl #[.int .i64 a0_2] (by rfl) rfl rfl (by (try simp only [δd,δe,δf]);rfl) ?_
 with_reducible refine (impl_amountText.calls a0_2 t902 _ (HT0.out.below (by exact HB.out)) A4.out).mono ?_
 rintro e w10 ⟨rfl,hb⟩
 refine ⟨_,rfl,?_⟩
 replace BK899:=ζa (blk_below (g:=gb899) (o:=.cells #[.int .i64 a0_0,.int .i64 a0_1,.int .i64 a0_2] 109 (0,0)) (by exact BK899.out) hb)
 replace HB:=ζa (δr (by exact HB.out) hb)
 (try clear hb)
 (try clear hb2)
 (try clear hk)
 (try clear hi)
 refine hK.out _ _ ⟨(δl BK899.out 0).trans rfl,(δl BK899.out 1).trans rfl,(δl BK899.out 2).trans rfl⟩ (fun hHeld => ?_)
 clear hK K
 refine norm_ (a':=?_) ?_ ?_
 rotate_left
 ·
  show ζl _ (some 11) _=_
  simp only [ζl,δa,δb,δc,i64_w,i32_w];rfl
 refine one_ (i:=9) (N:=some 12) #[τ,τ,τ,τ,τ,τ,τ,τ,τ,τ,φ,φ] rfl rfl (one_of HT_.out (by kernel_rfl)) (by decide) (fun K hK => ?_)
 refine Kd.R_lit_step Kd.string _ 9 ?hg (N:=12) ?hd (xs:=([t900,t901,t902]:List ByteArray)) (inner:=[.string t900,.string t901,.string t902]) (ok:=fun _=>True) (okp:=fun _=>True) ?hr ?hp (fun _ hk=>hk) trivial (Below.refl _ _) (Nat.le_refl _) (by simp) ?_;(case hd=>rfl);(case hg=>rfl);(case hr=>(go_simp;done));(case hp=>exact (Reps.one (show Kd.M Kd.string _ _ _ t900 [.string t900] from rfl) (Reps.one (show Kd.M Kd.string _ _ _ t901 [.string t901] from rfl) (Reps.one (show Kd.M Kd.string _ _ _ t902 [.string t902] from rfl) (Reps.none _ _)))))
 intro v904 w11 ho12 hb hg_ hnew_
 clear hg_ hnew_
 (rw [← Ny903.out] at ho12)
 have HO905:=ζa (Kd.R_lower ho12 (δs (by exact HB.out)))
 replace BK899:=ζa (blk_below (g:=gb899) (o:=.cells #[.int .i64 a0_0,.int .i64 a0_1,.int .i64 a0_2] 109 (0,0)) (by exact BK899.out) hb)
 replace HB:=ζa (δr (by exact HB.out) hb)
 clear hb ho12
 obtain ⟨Ao13,co13,eo13⟩:=Kd.R_slice HO905.out
 (subst eo13)
 refine hK.out _ _ ⟨(δl BK899.out 0).trans rfl,(δl BK899.out 1).trans rfl,(δl BK899.out 2).trans rfl⟩ (fun hHeld => ?_)
 clear hK K
 refine norm_ (a':=?_) ?_ ?_
 rotate_left
 ·
  show ζl _ (some 12) _=_
  simp only [ζl,δa,δb,δc,i64_w,i32_w];rfl
 refine one_ (i:=10) (N:=some 13) #[τ,τ,τ,τ,τ,τ,τ,τ,τ,τ,τ,φ] rfl rfl (one_of HT_.out (by kernel_rfl)) (by decide) (fun K hK => ?_)
 refine goes_ Tryz.func146 (by kernel_rfl) rfl #[.slice Ao13 y903.length co13] (by rfl) rfl rfl (by (try simp only [δd,δe,δf]);rfl) ?_
 with_reducible refine (impl_fields.calls k _ _ y903 t906 _ ?side1 ?side2 A5.out).mono ?_
 (case side1=>repeat (exact (ζg HO905.out).2.2))
 (case side2=>exact (ζg HO905.out).2.1)
 rintro e w14 ⟨rfl,hb⟩
 refine ⟨_,rfl,?_⟩
 replace HO905:=ζa (ζh (by exact HO905.out) hb)
 replace BK899:=ζa (blk_below (g:=gb899) (o:=.cells #[.int .i64 a0_0,.int .i64 a0_1,.int .i64 a0_2] 109 (0,0)) (by exact BK899.out) hb)
 replace HB:=ζa (δr (by exact HB.out) hb)
 (try clear hb)
 (try clear hb2)
 (try clear hk)
 (try clear hi)
 refine hK.out _ _ ⟨(δl BK899.out 0).trans rfl,(δl BK899.out 1).trans rfl,(δl BK899.out 2).trans rfl⟩ (fun hHeld => ?_)
 clear hK K
 refine norm_ (a':=?_) ?_ ?_
 rotate_left
 ·
  show ζl _ (some 13) _=_
  simp only [ζl,δa,δb,δc,i64_w,i32_w];rfl
 refine ζk (i:=11) (N:=some 2) (v:=?_) (a':=?_) #[τ,τ,τ,τ,τ,τ,τ,τ,τ,τ,τ,τ] rfl rfl (ζj HT_.out (by kernel_rfl)) (fun _ _ _ h=>h) (Or.inl ⟨by rfl,?_⟩) ?_ ?_
 rotate_left
 · intro w';go_simp;with_reducible rfl
 rotate_left
 · simp only [ζl,δa,δb,δc,i64_w,i32_w];rfl
 refine done_ (done_of HT_.out (by kernel_rfl)) ?_
 try go_wp2
 go_ret
 exact ⟨by rfl,by repeat ((with_reducible exact HB.out))⟩


open Go.Proofs.YtabmfhnhmoiljaaGreatDoorW.PrintWords renaming gate_dst → δx, box_event → δz, below_size → δs, below_step → δr, gate_callee → δv, blk_cell → δl, blk_frozen → δm, blk_put → δw, below_set → δq, cell_far → δt
open List renaming map_toArray → δd, map_cons → δe, map_nil → δf, setIfInBounds_toArray → δa, set_cons_zero → δb, set_cons_succ → δc
open Go.Proofs.YtabmfhnhmoiljaaGreatDoorW.PrintWords.Kd renaming R_below → ζh, R_reads' → ζg, own_blk → ζb, R_ne → ζf, R_far → ζi

/-! ### impl_poolAt: function 123 -/
def impl_poolAt.j0:Nat→ByteArray→List ByteArray→Bool→Option (Int × Int × Int)
 | 0,_,_,_=>none
 | k+1,x3,x5,x24=>if x24=τ then (some (0,0,0)) else (if 0<(x5.length:Int) then ((impl_readAmount.f (rdOf ByteArray.empty x5 0)).bind fun bt916=>(if 1<(x5.length:Int) then ((impl_readAmount.f (rdOf ByteArray.empty x5 1)).bind fun bt919=>(if 2<(x5.length:Int) then ((impl_readAmount.f (rdOf ByteArray.empty x5 2)).bind fun bt922=>((impl_PoolOK.f bt916.1 bt919.1 bt922.1).bind fun t924=>(if t924=τ then ((impl_Pool_value.f k bt916.1 bt919.1 bt922.1).bind fun t925=>(if t925.toList=x3.toList then (some (bt916.1,bt919.1,bt922.1)) else (some (0,0,0)))) else (some (0,0,0))))) else (none))) else (none))) else (none))
def impl_poolAt.f (k:Nat) (l0:List (S51)):Option (Int × Int × Int):=(impl_get.f k l0 (⟨#[112]⟩:ByteArray)).bind fun bt908=>((impl_readFields.f k bt908.1).bind fun bt910=>(if bt910.2=τ then (impl_poolAt.j0 k bt908.1 bt910.1 ((bt910.1.length:Int) != 3)) else (impl_poolAt.j0 k bt908.1 bt910.1 τ)))
set_option maxHeartbeats 8000000 in
set_option maxRecDepth 100000 in
theorem impl_poolAt.calls (k:Nat) (A0:Option Addr) (c0:Nat) (l0:List (S51)) (r1:Int) (r2:Int) (r3:Int) (w:World) (hr0:Kd.C k51 w A0 l0.length l0) (hc0:l0.length≤c0) (hT0:TabsOK w) (h:impl_poolAt.f k l0=some (r1,r2,r3)) :
  Calls Tryz.prog 123 #[.slice A0 l0.length c0] w fun e w'=>e = .returned (.agg #[.int .i64 r1,.int .i64 r2,.int .i64 r3])∧Below w.heap.size w w':=by
 have HT0:=ζa hT0
 clear hT0
 have hu109:=Tryz.underlying109
 have HR0:=ζa hr0
 have HC0:=ζa hc0
 clear hr0 hc0
 have HB:=ζa (Below.refl w.heap.size w)
 have H:((impl_get.f k l0 (⟨#[112]⟩:ByteArray)).bind fun bt908=>((impl_readFields.f k bt908.1).bind fun bt910=>(if bt910.2=τ then (impl_poolAt.j0 k bt908.1 bt910.1 ((bt910.1.length:Int) != 3)) else (impl_poolAt.j0 k bt908.1 bt910.1 τ))))=some (r1,r2,r3):=h
 clear h
 replace H:=Option.bind_eq_some_iff.mp H
 obtain ⟨⟨t908,t909⟩,A20,H⟩:=H
 replace H:((impl_readFields.f k t908).bind fun bt910=>(if bt910.2=τ then (impl_poolAt.j0 k t908 bt910.1 ((bt910.1.length:Int) != 3)) else (impl_poolAt.j0 k t908 bt910.1 τ)))=some (r1,r2,r3):=H
 have A2:=ζa A20
 clear A20
 replace H:=Option.bind_eq_some_iff.mp H
 obtain ⟨⟨t910,t911⟩,A30,H⟩:=H
 replace H:(if t911=τ then (impl_poolAt.j0 k t908 t910 ((t910.length:Int) != 3)) else (impl_poolAt.j0 k t908 t910 τ))=some (r1,r2,r3):=H
 have A3:=ζa A30
 clear A30
 have HC4:=ζa H
 clear H
 go_enter Tryz.func123,Tryz.ntmps123
 go_upto_region 3 with (first|((with_reducible refine δx (N:=2) rfl ?_);(try (refine gate_guard (by rfl) ?_;dsimp only));refine δz ?hg (N:=2) ?hd (cs:=#[.int .i64 0,.int .i64 0,.int .i64 0]) (t:=109) ?hr ?_;(case hd=>rfl);(case hg=>rfl);(case hr=>(go_simp;done));intro gb907 hg w5 hbox hb;have BK907:=ζa (hbox);have GW907:=ζa ((by rw [hg];exact (δs (by exact HB.out)):w.heap.size≤gb907));have GE907:=ζa ((by rw [hg];exact (δs (by exact HB.out)):w.heap.size≤gb907));replace HB:=ζa (δr (by exact HB.out) hb);clear hb hbox hg)|((with_reducible refine δv (f:=107) rfl ?_);refine goesL_ (some 10) rfl rfl Tryz.func107 (by kernel_rfl) rfl #[.slice A0 l0.length c0,.string (⟨#[112]⟩:ByteArray)] rfl (by (try simp only [δd,δe,δf]);rfl) ?_;(with_reducible refine (impl_get.calls k _ _ l0 (⟨#[112]⟩:ByteArray) t908 t909 _ ?side1 ?side2 A2.out).mono ?_);(case side1=>repeat (exact (Kd.C_below HR0.out HB.out)));(case side2=>exact HC0.out);rintro e w6 ⟨rfl,hb⟩;refine ⟨_,rfl,?_⟩;replace BK907:=ζa (blk_below (g:=gb907) (o:=.cells #[.int .i64 0,.int .i64 0,.int .i64 0] 109 (0,0)) (by exact BK907.out) hb);replace HB:=ζa (δr (by exact HB.out) hb);(try clear hb);(try clear hb2);(try clear hk);(try clear hi))|((with_reducible refine δv (f:=150) rfl ?_);refine goesL_ (some 15) rfl rfl Tryz.func150 (by kernel_rfl) rfl #[.string t908] rfl (by (try simp only [δd,δe,δf]);rfl) ?_;(with_reducible refine (impl_readFields.calls k t908 t910 t911 _ A3.out).mono ?_);rintro e w7 ⟨v912,rfl,ho0,hb⟩;refine ⟨_,rfl,?_⟩;have HO913:=ζa (Kd.R_lower ho0 (δs (by exact HB.out)));replace BK907:=ζa (blk_below (g:=gb907) (o:=.cells #[.int .i64 0,.int .i64 0,.int .i64 0] 109 (0,0)) (by exact BK907.out) hb);replace HB:=ζa (δr (by exact HB.out) hb);(try clear hb);(try clear hb2);(try clear hk);(try clear hi);(try clear ho0)))
 (try simp only [ζl,δa,δb,δc])
 go_cut [24] (fun v24 wc => ∃ (kq:Nat) (x24_3:Bool),v24 = .bool x24_3∧Aside0 (impl_poolAt.j0 kq t908 t910 x24_3=some (r1,r2,r3))∧Aside0 (kq≤k)∧Aside0 (Kd.R Kd.string 9 wc w.heap.size (fun _=>True) v912 t910)∧Aside0 (wc.heap[gb907]? = some (.cells #[.int .i64 0,.int .i64 0,.int .i64 0] 109 (0,0)))∧Aside0 (Below w.heap.size w wc))
 case first =>
  have H:=HC4.out
  clear HC4
  by_cases c8:t911=τ
  ·
   subst c8
   have H1:(impl_poolAt.j0 k t908 t910 ((t910.length:Int) != 3))=some (r1,r2,r3):=by rw [if_pos rfl] at H;exact H
   clear H
   have H:=H1
   clear H1
   have H':=ζa H
   clear H
   obtain ⟨Ao9,co9,eo9⟩:=Kd.R_slice HO913.out
   subst eo9
   go_wp2
   go_meet
   case rel=>exact ⟨_,(((t910.length:Int) != 3)),(by rfl),H',⟨by omega⟩,⟨by exact HO913.out⟩,⟨by exact BK907.out⟩,⟨by repeat ((with_reducible exact HB.out))⟩⟩
  ·
   replace c8:=Bool.eq_false_iff.mpr c8
   subst c8
   have H1:(impl_poolAt.j0 k t908 t910 τ)=some (r1,r2,r3):=by rw [if_neg (show ¬ (φ=τ) by decide)] at H;exact H
   clear H
   have H:=H1
   clear H1
   have H':=ζa H
   clear H
   go_wp2
   go_meet
   case rel=>exact ⟨_,(τ),(by rfl),H',⟨by omega⟩,⟨by exact HO913.out⟩,⟨by exact BK907.out⟩,⟨by repeat ((with_reducible exact HB.out))⟩⟩
 case rest =>
  clear HC4
  try clear c1
  try clear p2
  try clear c8
  obtain ⟨kq,x24_3,rfl,HA,HJ3,HO_5,BK907,HB⟩:=hcut
  cases kq with
  | zero=>exact absurd HA.out (by simp [impl_poolAt.j0])
  | succ kj3 =>
   have H:=HA.out
   clear HA
   simp only [impl_poolAt.j0] at H
   by_cases c10:x24_3=τ
   ·
    subst c10
    have H1:(some (0,0,0))=some (r1,r2,r3):=by rw [if_pos rfl] at H;exact H
    clear H
    have H:=H1
    clear H1
    simp only [Option.some.injEq,Prod.mk.injEq] at H
    obtain ⟨rfl,rfl,rfl⟩:=H
    have hcz11_0:wc.cell? ⟨gb907,0,none⟩=some (.int .i64 0):=(δl BK907.out 0).trans rfl
    have hcz11_1:wc.cell? ⟨gb907,1,none⟩=some (.int .i64 0):=(δl BK907.out 1).trans rfl
    have hcz11_2:wc.cell? ⟨gb907,2,none⟩=some (.int .i64 0):=(δl BK907.out 2).trans rfl
    have hfz11_0:=δm BK907.out 0
    have hfz11_1:=δm BK907.out 1
    have hfz11_2:=δm BK907.out 2
    go_wp2
    refine bodyPost_ret (results_cell_row rfl _ _ gb907 109 #[.int .i64 0,.int .i64 0,.int .i64 0] (0,0) _ rfl (by refine δw (cs:=#[.int .i64 0,.int .i64 0,.int .i64 0]) ?_ 2 _ rfl;refine δw (cs:=#[.int .i64 0,.int .i64 0,.int .i64 0]) ?_ 1 _ rfl;refine δw (cs:=#[.int .i64 0,.int .i64 0,.int .i64 0]) ?_ 0 _ rfl;exact BK907.out) Tryz.underlying109 rfl (by kernel_rfl)) rfl ?_
    exact ⟨by rfl,by repeat ((with_reducible first|exact HB.out|refine δq ?_ GE907.out))⟩
   ·
    replace c10:=Bool.eq_false_iff.mpr c10
    subst c10
    have H1:(if 0<(t910.length:Int) then ((impl_readAmount.f (rdOf ByteArray.empty t910 0)).bind fun bt916=>(if 1<(t910.length:Int) then ((impl_readAmount.f (rdOf ByteArray.empty t910 1)).bind fun bt919=>(if 2<(t910.length:Int) then ((impl_readAmount.f (rdOf ByteArray.empty t910 2)).bind fun bt922=>((impl_PoolOK.f bt916.1 bt919.1 bt922.1).bind fun t924=>(if t924=τ then ((impl_Pool_value.f kj3 bt916.1 bt919.1 bt922.1).bind fun t925=>(if t925.toList=t908.toList then (some (bt916.1,bt919.1,bt922.1)) else (some (0,0,0)))) else (some (0,0,0))))) else (none))) else (none))) else (none))=some (r1,r2,r3):=by rw [if_neg (show ¬ (φ=τ) by decide)] at H;exact H
    clear H
    have H:=H1
    clear H1
    by_cases c12:0<(t910.length:Int)
    ·
     rw [if_pos c12] at H
     have c12b0:decide (0<(t910.length:Int))=τ:=decide_eq_true c12
     have c12b1:decide (0<t910.length)=τ:=decide_eq_true (by omega)
     clear c12
     replace H:=Option.bind_eq_some_iff.mp H
     obtain ⟨⟨t916,t917⟩,A130,H⟩:=H
     replace H:(if 1<(t910.length:Int) then ((impl_readAmount.f (rdOf ByteArray.empty t910 1)).bind fun bt919=>(if 2<(t910.length:Int) then ((impl_readAmount.f (rdOf ByteArray.empty t910 2)).bind fun bt922=>((impl_PoolOK.f t916 bt919.1 bt922.1).bind fun t924=>(if t924=τ then ((impl_Pool_value.f kj3 t916 bt919.1 bt922.1).bind fun t925=>(if t925.toList=t908.toList then (some (t916,bt919.1,bt922.1)) else (some (0,0,0)))) else (some (0,0,0))))) else (none))) else (none))=some (r1,r2,r3):=H
     have A13:=ζa A130
     clear A130
     by_cases c14:1<(t910.length:Int)
     ·
      rw [if_pos c14] at H
      have c14b0:decide (1<(t910.length:Int))=τ:=decide_eq_true c14
      have c14b1:decide (1<t910.length)=τ:=decide_eq_true (by omega)
      clear c14
      replace H:=Option.bind_eq_some_iff.mp H
      obtain ⟨⟨t919,t920⟩,A150,H⟩:=H
      replace H:(if 2<(t910.length:Int) then ((impl_readAmount.f (rdOf ByteArray.empty t910 2)).bind fun bt922=>((impl_PoolOK.f t916 t919 bt922.1).bind fun t924=>(if t924=τ then ((impl_Pool_value.f kj3 t916 t919 bt922.1).bind fun t925=>(if t925.toList=t908.toList then (some (t916,t919,bt922.1)) else (some (0,0,0)))) else (some (0,0,0))))) else (none))=some (r1,r2,r3):=H
      have A15:=ζa A150
      clear A150
      by_cases c16:2<(t910.length:Int)
      ·
       rw [if_pos c16] at H
       have c16b0:decide (2<(t910.length:Int))=τ:=decide_eq_true c16
       have c16b1:decide (2<t910.length)=τ:=decide_eq_true (by omega)
       clear c16
       replace H:=Option.bind_eq_some_iff.mp H
       obtain ⟨⟨t922,t923⟩,A170,H⟩:=H
       replace H:((impl_PoolOK.f t916 t919 t922).bind fun t924=>(if t924=τ then ((impl_Pool_value.f kj3 t916 t919 t922).bind fun t925=>(if t925.toList=t908.toList then (some (t916,t919,t922)) else (some (0,0,0)))) else (some (0,0,0))))=some (r1,r2,r3):=H
       have A17:=ζa A170
       clear A170
       replace H:=Option.bind_eq_some_iff.mp H
       obtain ⟨t924,A180,H⟩:=H
       replace H:(if t924=τ then ((impl_Pool_value.f kj3 t916 t919 t922).bind fun t925=>(if t925.toList=t908.toList then (some (t916,t919,t922)) else (some (0,0,0)))) else (some (0,0,0)))=some (r1,r2,r3):=H
       have A18:=ζa A180
       clear A180
       by_cases c19:t924=τ
       ·
        subst c19
        have H1:((impl_Pool_value.f kj3 t916 t919 t922).bind fun t925=>(if t925.toList=t908.toList then (some (t916,t919,t922)) else (some (0,0,0))))=some (r1,r2,r3):=by rw [if_pos rfl] at H;exact H
        clear H
        have H:=H1
        clear H1
        replace H:=Option.bind_eq_some_iff.mp H
        obtain ⟨t925,A200,H⟩:=H
        replace H:(if t925.toList=t908.toList then (some (t916,t919,t922)) else (some (0,0,0)))=some (r1,r2,r3):=H
        have A20:=ζa A200
        clear A200
        by_cases c21:t925.toList=t908.toList
        ·
         rw [if_pos c21] at H
         have c21b0:(t925.toList == t908.toList)=τ:=beq_iff_eq.mpr c21
         have c21b1:(t925.toList != t908.toList)=φ:=bne_eq_false_iff_eq.mpr c21
         clear c21
         simp only [Option.some.injEq,Prod.mk.injEq] at H
         obtain ⟨rfl,rfl,rfl⟩:=H
         go_wp2_with (first|((with_reducible refine δx (N:=7) rfl ?_);(try (refine gate_guard (by rfl) ?_;dsimp only));refine δz ?hg (N:=7) ?hd (cs:=#[.int .i64 0,.int .i64 0,.int .i64 0]) (t:=109) ?hr ?_;(case hd=>rfl);(case hg=>rfl);(case hr=>(go_simp;done));intro gb914 hg w22 hbox hb;replace HO_5:=ζa (ζh (by exact HO_5.out) hb);have BK914:=ζa (hbox);have GW914:=ζa ((by rw [hg];exact (δs (by exact HB.out)):w.heap.size≤gb914));have GE914:=ζa ((by rw [hg];exact (δs (by exact HB.out)):w.heap.size≤gb914));replace HB:=ζa (δr (by exact HB.out) hb);have NB907_914:=ζa ((by rw [hg];exact Nat.ne_of_lt (blk_lt (g:=gb907) (o:=.cells #[.int .i64 0,.int .i64 0,.int .i64 0] 109 (0,0)) (by exact BK907.out)):gb907≠gb914));have NB914_907:=ζa ((by rw [hg];exact Nat.ne_of_gt (blk_lt (g:=gb907) (o:=.cells #[.int .i64 0,.int .i64 0,.int .i64 0] 109 (0,0)) (by exact BK907.out)):gb914≠gb907));replace BK907:=ζa (blk_below (g:=gb907) (o:=.cells #[.int .i64 0,.int .i64 0,.int .i64 0] 109 (0,0)) (by exact BK907.out) hb);clear hb hbox hg;have hnb23:=NB914_907.out;have hnc23:=NB907_914.out;have hcz24_0:w22.cell? ⟨gb914,0,none⟩=some (.int .i64 0):=(δl BK914.out 0).trans rfl;have hcz24_1:w22.cell? ⟨gb914,1,none⟩=some (.int .i64 0):=(δl BK914.out 1).trans rfl;have hcz24_2:w22.cell? ⟨gb914,2,none⟩=some (.int .i64 0):=(δl BK914.out 2).trans rfl;have hfz24_0:=δm BK914.out 0;have hfz24_1:=δm BK914.out 1;have hfz24_2:=δm BK914.out 2;obtain ⟨Ao25,co25,eo25⟩:=Kd.R_slice HO_5.out;subst eo25;have p915:0≤(0:Int):=(by omega);have q915:0<(t910.length:Int):=of_decide_eq_true (by (with_reducible assumption));obtain ⟨ad915,e915,hx915_0⟩:=Kd.at_string (ζg HO_5.out).2.2 0 p915 q915;cases e915;have qi915:(0<t910.length)=True:=eq_true (by omega);(try rw [show ((0:Int)).toNat=0 from rfl] at hx915_0);(try rw [Addr.add_zero'] at hx915_0);have hn915_0:ad915.block≠gb914:=ζb (ζf HO_5.out BK914.out (by decide));have hn915_1:ad915.block≠gb914:=ζb (ζf HO_5.out BK914.out (by decide));have hn915_2:ad915.block≠gb914:=ζb (ζf HO_5.out BK914.out (by decide));replace hx915_0:=(δt (p:=⟨gb914,0,none⟩) (by exact hn915_0) (.int .i64 0)).trans hx915_0;replace hx915_0:=(δt (p:=⟨gb914,1,none⟩) (by exact hn915_1) (.int .i64 0)).trans hx915_0;replace hx915_0:=(δt (p:=⟨gb914,2,none⟩) (by exact hn915_2) (.int .i64 0)).trans hx915_0;clear hn915_0;clear hn915_1;clear hn915_2;replace p915:=eq_true p915;replace q915:=eq_true q915)|((with_reducible refine δv (f:=151) rfl ?_);refine goesL_ (some 31) rfl rfl Tryz.func151 (by kernel_rfl) rfl #[.string (rdOf ByteArray.empty t910 0)] rfl (by (try simp only [δd,δe,δf]);rfl) ?_;(with_reducible refine (impl_readAmount.calls (rdOf ByteArray.empty t910 0) t916 t917 _ (HT0.out.below (by repeat ((with_reducible first|exact HB.out|refine δq ?_ GE914.out)))) A13.out).mono ?_);rintro e w26 ⟨rfl,hb⟩;refine ⟨_,rfl,?_⟩;replace HO_5:=ζa (ζh (by exact (Kd.R_mono (ζi (p:=⟨gb914,2,none⟩) (ζi (p:=⟨gb914,1,none⟩) (ζi (p:=⟨gb914,0,none⟩) (Kd.R_types HO_5.out BK914.out (by decide)) (fun _ hk=>hk.2) (.int .i64 0)) (fun _ hk=>hk.2) (.int .i64 0)) (fun _ hk=>hk.2) (.int .i64 0)) (fun _ h_=>h_.1))) hb);replace BK907:=ζa (blk_below (g:=gb907) (o:=.cells #[.int .i64 0,.int .i64 0,.int .i64 0] 109 (0,0)) (by refine blk_far ?_ NB907_914.out _;refine blk_far ?_ NB907_914.out _;refine blk_far ?_ NB907_914.out _;exact BK907.out) hb);replace BK914:=ζa (blk_below (g:=gb914) (o:=.cells #[.int .i64 0,.int .i64 0,.int .i64 0] 109 (0,0)) (by refine δw (cs:=#[.int .i64 0,.int .i64 0,.int .i64 0]) ?_ 2 _ rfl;refine δw (cs:=#[.int .i64 0,.int .i64 0,.int .i64 0]) ?_ 1 _ rfl;refine δw (cs:=#[.int .i64 0,.int .i64 0,.int .i64 0]) ?_ 0 _ rfl;exact BK914.out) hb);replace HB:=ζa (δr (by repeat ((with_reducible first|exact HB.out|refine δq ?_ GE914.out))) hb);(try clear hb);(try clear hb2);(try clear hk);(try clear hi);have hcz27_0:w26.cell? ⟨gb914,0,none⟩=some (.int .i64 0):=(δl BK914.out 0).trans rfl;have hcz27_1:w26.cell? ⟨gb914,1,none⟩=some (.int .i64 0):=(δl BK914.out 1).trans rfl;have hcz27_2:w26.cell? ⟨gb914,2,none⟩=some (.int .i64 0):=(δl BK914.out 2).trans rfl;have hfz27_0:=δm BK914.out 0;have hfz27_1:=δm BK914.out 1;have hfz27_2:=δm BK914.out 2;have p918:0≤(1:Int):=(by omega);have q918:1<(t910.length:Int):=of_decide_eq_true (by (with_reducible assumption));obtain ⟨ad918,e918,hx918_0⟩:=Kd.at_string (ζg HO_5.out).2.2 1 p918 q918;obtain rfl:ad915=ad918:=(by injection e918);(try simp only [show (1:Int).toNat=1 from rfl,Nat.reduceMul,Nat.reduceEqDiff,Go.Addr.add,↓reduceIte] at hx918_0);have qi918:(1<t910.length)=True:=eq_true (by omega);(try rw [show ((1:Int)).toNat=1 from rfl] at hx918_0);have hn918_0:ad915.block≠gb914:=ζb (ζf HO_5.out BK914.out (by decide));replace hx918_0:=(δt (p:=⟨gb914,0,none⟩) (by exact hn918_0) (.int .i64 t916)).trans hx918_0;clear hn918_0;replace p918:=eq_true p918;replace q918:=eq_true q918)|((with_reducible refine δv (f:=151) rfl ?_);refine goesL_ (some 39) rfl rfl Tryz.func151 (by kernel_rfl) rfl #[.string (rdOf ByteArray.empty t910 1)] rfl (by (try simp only [δd,δe,δf]);rfl) ?_;(with_reducible refine (impl_readAmount.calls (rdOf ByteArray.empty t910 1) t919 t920 _ (HT0.out.below (by repeat ((with_reducible first|exact HB.out|refine δq ?_ GE914.out)))) A15.out).mono ?_);rintro e w28 ⟨rfl,hb⟩;refine ⟨_,rfl,?_⟩;replace HO_5:=ζa (ζh (by exact (Kd.R_mono (ζi (p:=⟨gb914,0,none⟩) (Kd.R_types HO_5.out BK914.out (by decide)) (fun _ hk=>hk.2) (.int .i64 t916)) (fun _ h_=>h_.1))) hb);replace BK907:=ζa (blk_below (g:=gb907) (o:=.cells #[.int .i64 0,.int .i64 0,.int .i64 0] 109 (0,0)) (by refine blk_far ?_ NB907_914.out _;exact BK907.out) hb);replace BK914:=ζa (blk_below (g:=gb914) (o:=.cells #[.int .i64 t916,.int .i64 0,.int .i64 0] 109 (0,0)) (by refine δw (cs:=#[.int .i64 0,.int .i64 0,.int .i64 0]) ?_ 0 _ rfl;exact BK914.out) hb);replace HB:=ζa (δr (by repeat ((with_reducible first|exact HB.out|refine δq ?_ GE914.out))) hb);(try clear hb);(try clear hb2);(try clear hk);(try clear hi);have hcz29_0:w28.cell? ⟨gb914,0,none⟩=some (.int .i64 t916):=(δl BK914.out 0).trans rfl;have hcz29_1:w28.cell? ⟨gb914,1,none⟩=some (.int .i64 0):=(δl BK914.out 1).trans rfl;have hcz29_2:w28.cell? ⟨gb914,2,none⟩=some (.int .i64 0):=(δl BK914.out 2).trans rfl;have hfz29_0:=δm BK914.out 0;have hfz29_1:=δm BK914.out 1;have hfz29_2:=δm BK914.out 2;have p921:0≤(2:Int):=(by omega);have q921:2<(t910.length:Int):=of_decide_eq_true (by (with_reducible assumption));obtain ⟨ad921,e921,hx921_0⟩:=Kd.at_string (ζg HO_5.out).2.2 2 p921 q921;obtain rfl:ad915=ad921:=(by injection e921);(try simp only [show (2:Int).toNat=2 from rfl,Nat.reduceMul,Nat.reduceEqDiff,Go.Addr.add,↓reduceIte] at hx921_0);have qi921:(2<t910.length)=True:=eq_true (by omega);(try rw [show ((2:Int)).toNat=2 from rfl] at hx921_0);have hn921_0:ad915.block≠gb914:=ζb (ζf HO_5.out BK914.out (by decide));replace hx921_0:=(δt (p:=⟨gb914,1,none⟩) (by exact hn921_0) (.int .i64 t919)).trans hx921_0;clear hn921_0;replace p921:=eq_true p921;replace q921:=eq_true q921)|((with_reducible refine δv (f:=151) rfl ?_);refine goesL_ (some 47) rfl rfl Tryz.func151 (by kernel_rfl) rfl #[.string (rdOf ByteArray.empty t910 2)] rfl (by (try simp only [δd,δe,δf]);rfl) ?_;(with_reducible refine (impl_readAmount.calls (rdOf ByteArray.empty t910 2) t922 t923 _ (HT0.out.below (by repeat ((with_reducible first|exact HB.out|refine δq ?_ GE914.out)))) A17.out).mono ?_);rintro e w30 ⟨rfl,hb⟩;refine ⟨_,rfl,?_⟩;replace HO_5:=ζa (ζh (by exact (Kd.R_mono (ζi (p:=⟨gb914,1,none⟩) (Kd.R_types HO_5.out BK914.out (by decide)) (fun _ hk=>hk.2) (.int .i64 t919)) (fun _ h_=>h_.1))) hb);replace BK907:=ζa (blk_below (g:=gb907) (o:=.cells #[.int .i64 0,.int .i64 0,.int .i64 0] 109 (0,0)) (by refine blk_far ?_ NB907_914.out _;exact BK907.out) hb);replace BK914:=ζa (blk_below (g:=gb914) (o:=.cells #[.int .i64 t916,.int .i64 t919,.int .i64 0] 109 (0,0)) (by refine δw (cs:=#[.int .i64 t916,.int .i64 0,.int .i64 0]) ?_ 1 _ rfl;exact BK914.out) hb);replace HB:=ζa (δr (by repeat ((with_reducible first|exact HB.out|refine δq ?_ GE914.out))) hb);(try clear hb);(try clear hb2);(try clear hk);(try clear hi);have hcz31_0:w30.cell? ⟨gb914,0,none⟩=some (.int .i64 t916):=(δl BK914.out 0).trans rfl;have hcz31_1:w30.cell? ⟨gb914,1,none⟩=some (.int .i64 t919):=(δl BK914.out 1).trans rfl;have hcz31_2:w30.cell? ⟨gb914,2,none⟩=some (.int .i64 0):=(δl BK914.out 2).trans rfl;have hfz31_0:=δm BK914.out 0;have hfz31_1:=δm BK914.out 1;have hfz31_2:=δm BK914.out 2)|((with_reducible refine δv (f:=176) rfl ?_);refine goesL_ (some 52) rfl rfl Tryz.func176 (by kernel_rfl) rfl #[.agg #[.int .i64 t916,.int .i64 t919,.int .i64 t922]] rfl (by (try simp only [δd,δe,δf]);rfl) ?_;(with_reducible refine (impl_PoolOK.calls t916 t919 t922 τ _ A18.out).mono ?_);rintro e w32 ⟨rfl,hb⟩;refine ⟨_,rfl,?_⟩;replace HO_5:=ζa (ζh (by exact (Kd.R_mono (ζi (p:=⟨gb914,2,none⟩) (Kd.R_types HO_5.out BK914.out (by decide)) (fun _ hk=>hk.2) (.int .i64 t922)) (fun _ h_=>h_.1))) hb);replace BK907:=ζa (blk_below (g:=gb907) (o:=.cells #[.int .i64 0,.int .i64 0,.int .i64 0] 109 (0,0)) (by refine blk_far ?_ NB907_914.out _;exact BK907.out) hb);replace BK914:=ζa (blk_below (g:=gb914) (o:=.cells #[.int .i64 t916,.int .i64 t919,.int .i64 t922] 109 (0,0)) (by refine δw (cs:=#[.int .i64 t916,.int .i64 t919,.int .i64 0]) ?_ 2 _ rfl;exact BK914.out) hb);replace HB:=ζa (δr (by repeat ((with_reducible first|exact HB.out|refine δq ?_ GE914.out))) hb);(try clear hb);(try clear hb2);(try clear hk);(try clear hi);have hcz33_0:w32.cell? ⟨gb914,0,none⟩=some (.int .i64 t916):=(δl BK914.out 0).trans rfl;have hcz33_1:w32.cell? ⟨gb914,1,none⟩=some (.int .i64 t919):=(δl BK914.out 1).trans rfl;have hcz33_2:w32.cell? ⟨gb914,2,none⟩=some (.int .i64 t922):=(δl BK914.out 2).trans rfl;have hfz33_0:=δm BK914.out 0;have hfz33_1:=δm BK914.out 1;have hfz33_2:=δm BK914.out 2)|(go_at_call 177;(with_reducible refine (impl_Pool_value.calls kj3 t916 t919 t922 t925 _ (HT0.out.below (by exact HB.out)) A20.out).mono ?_);rintro e w34 ⟨rfl,hb⟩;replace HO_5:=ζa (ζh (by exact HO_5.out) hb);replace BK907:=ζa (blk_below (g:=gb907) (o:=.cells #[.int .i64 0,.int .i64 0,.int .i64 0] 109 (0,0)) (by exact BK907.out) hb);replace BK914:=ζa (blk_below (g:=gb914) (o:=.cells #[.int .i64 t916,.int .i64 t919,.int .i64 t922] 109 (0,0)) (by exact BK914.out) hb);replace HB:=ζa (δr (by exact HB.out) hb);(try clear hb);(try clear hb2);(try clear hk);(try clear hi);have hcz35_0:w34.cell? ⟨gb914,0,none⟩=some (.int .i64 t916):=(δl BK914.out 0).trans rfl;have hcz35_1:w34.cell? ⟨gb914,1,none⟩=some (.int .i64 t919):=(δl BK914.out 1).trans rfl;have hcz35_2:w34.cell? ⟨gb914,2,none⟩=some (.int .i64 t922):=(δl BK914.out 2).trans rfl;have hfz35_0:=δm BK914.out 0;have hfz35_1:=δm BK914.out 1;have hfz35_2:=δm BK914.out 2;have hcz36_0:w34.cell? ⟨gb907,0,none⟩=some (.int .i64 0):=(δl BK907.out 0).trans rfl;have hcz36_1:w34.cell? ⟨gb907,1,none⟩=some (.int .i64 0):=(δl BK907.out 1).trans rfl;have hcz36_2:w34.cell? ⟨gb907,2,none⟩=some (.int .i64 0):=(δl BK907.out 2).trans rfl;have hfz36_0:=δm BK907.out 0;have hfz36_1:=δm BK907.out 1;have hfz36_2:=δm BK907.out 2))
         refine bodyPost_ret (results_cell_row rfl _ _ gb907 109 #[.int .i64 t916,.int .i64 t919,.int .i64 t922] (0,0) _ rfl (by refine δw (cs:=#[.int .i64 t916,.int .i64 t919,.int .i64 0]) ?_ 2 _ rfl;refine δw (cs:=#[.int .i64 t916,.int .i64 0,.int .i64 0]) ?_ 1 _ rfl;refine δw (cs:=#[.int .i64 0,.int .i64 0,.int .i64 0]) ?_ 0 _ rfl;exact BK907.out) Tryz.underlying109 rfl (by kernel_rfl)) rfl ?_
         exact ⟨by rfl,by repeat ((with_reducible first|exact HB.out|refine δq ?_ GE907.out))⟩
        ·
         rw [if_neg c21] at H
         have c21b0:(t925.toList == t908.toList)=φ:=beq_eq_false_iff_ne.mpr c21
         have c21b1:(t925.toList != t908.toList)=τ:=bne_iff_ne.mpr c21
         simp only [Option.some.injEq,Prod.mk.injEq] at H
         obtain ⟨rfl,rfl,rfl⟩:=H
         go_wp2_with (first|((with_reducible refine δx (N:=7) rfl ?_);(try (refine gate_guard (by rfl) ?_;dsimp only));refine δz ?hg (N:=7) ?hd (cs:=#[.int .i64 0,.int .i64 0,.int .i64 0]) (t:=109) ?hr ?_;(case hd=>rfl);(case hg=>rfl);(case hr=>(go_simp;done));intro gb914 hg w37 hbox hb;replace HO_5:=ζa (ζh (by exact HO_5.out) hb);have BK914:=ζa (hbox);have GW914:=ζa ((by rw [hg];exact (δs (by exact HB.out)):w.heap.size≤gb914));have GE914:=ζa ((by rw [hg];exact (δs (by exact HB.out)):w.heap.size≤gb914));replace HB:=ζa (δr (by exact HB.out) hb);have NB907_914:=ζa ((by rw [hg];exact Nat.ne_of_lt (blk_lt (g:=gb907) (o:=.cells #[.int .i64 0,.int .i64 0,.int .i64 0] 109 (0,0)) (by exact BK907.out)):gb907≠gb914));have NB914_907:=ζa ((by rw [hg];exact Nat.ne_of_gt (blk_lt (g:=gb907) (o:=.cells #[.int .i64 0,.int .i64 0,.int .i64 0] 109 (0,0)) (by exact BK907.out)):gb914≠gb907));replace BK907:=ζa (blk_below (g:=gb907) (o:=.cells #[.int .i64 0,.int .i64 0,.int .i64 0] 109 (0,0)) (by exact BK907.out) hb);clear hb hbox hg;have hnb38:=NB914_907.out;have hnc38:=NB907_914.out;have hcz39_0:w37.cell? ⟨gb914,0,none⟩=some (.int .i64 0):=(δl BK914.out 0).trans rfl;have hcz39_1:w37.cell? ⟨gb914,1,none⟩=some (.int .i64 0):=(δl BK914.out 1).trans rfl;have hcz39_2:w37.cell? ⟨gb914,2,none⟩=some (.int .i64 0):=(δl BK914.out 2).trans rfl;have hfz39_0:=δm BK914.out 0;have hfz39_1:=δm BK914.out 1;have hfz39_2:=δm BK914.out 2;obtain ⟨Ao40,co40,eo40⟩:=Kd.R_slice HO_5.out;subst eo40;have p915:0≤(0:Int):=(by omega);have q915:0<(t910.length:Int):=of_decide_eq_true (by (with_reducible assumption));obtain ⟨ad915,e915,hx915_0⟩:=Kd.at_string (ζg HO_5.out).2.2 0 p915 q915;cases e915;have qi915:(0<t910.length)=True:=eq_true (by omega);(try rw [show ((0:Int)).toNat=0 from rfl] at hx915_0);(try rw [Addr.add_zero'] at hx915_0);have hn915_0:ad915.block≠gb914:=ζb (ζf HO_5.out BK914.out (by decide));have hn915_1:ad915.block≠gb914:=ζb (ζf HO_5.out BK914.out (by decide));have hn915_2:ad915.block≠gb914:=ζb (ζf HO_5.out BK914.out (by decide));replace hx915_0:=(δt (p:=⟨gb914,0,none⟩) (by exact hn915_0) (.int .i64 0)).trans hx915_0;replace hx915_0:=(δt (p:=⟨gb914,1,none⟩) (by exact hn915_1) (.int .i64 0)).trans hx915_0;replace hx915_0:=(δt (p:=⟨gb914,2,none⟩) (by exact hn915_2) (.int .i64 0)).trans hx915_0;clear hn915_0;clear hn915_1;clear hn915_2;replace p915:=eq_true p915;replace q915:=eq_true q915)|((with_reducible refine δv (f:=151) rfl ?_);refine goesL_ (some 31) rfl rfl Tryz.func151 (by kernel_rfl) rfl #[.string (rdOf ByteArray.empty t910 0)] rfl (by (try simp only [δd,δe,δf]);rfl) ?_;(with_reducible refine (impl_readAmount.calls (rdOf ByteArray.empty t910 0) t916 t917 _ (HT0.out.below (by repeat ((with_reducible first|exact HB.out|refine δq ?_ GE914.out)))) A13.out).mono ?_);rintro e w41 ⟨rfl,hb⟩;refine ⟨_,rfl,?_⟩;replace HO_5:=ζa (ζh (by exact (Kd.R_mono (ζi (p:=⟨gb914,2,none⟩) (ζi (p:=⟨gb914,1,none⟩) (ζi (p:=⟨gb914,0,none⟩) (Kd.R_types HO_5.out BK914.out (by decide)) (fun _ hk=>hk.2) (.int .i64 0)) (fun _ hk=>hk.2) (.int .i64 0)) (fun _ hk=>hk.2) (.int .i64 0)) (fun _ h_=>h_.1))) hb);replace BK907:=ζa (blk_below (g:=gb907) (o:=.cells #[.int .i64 0,.int .i64 0,.int .i64 0] 109 (0,0)) (by refine blk_far ?_ NB907_914.out _;refine blk_far ?_ NB907_914.out _;refine blk_far ?_ NB907_914.out _;exact BK907.out) hb);replace BK914:=ζa (blk_below (g:=gb914) (o:=.cells #[.int .i64 0,.int .i64 0,.int .i64 0] 109 (0,0)) (by refine δw (cs:=#[.int .i64 0,.int .i64 0,.int .i64 0]) ?_ 2 _ rfl;refine δw (cs:=#[.int .i64 0,.int .i64 0,.int .i64 0]) ?_ 1 _ rfl;refine δw (cs:=#[.int .i64 0,.int .i64 0,.int .i64 0]) ?_ 0 _ rfl;exact BK914.out) hb);replace HB:=ζa (δr (by repeat ((with_reducible first|exact HB.out|refine δq ?_ GE914.out))) hb);(try clear hb);(try clear hb2);(try clear hk);(try clear hi);have hcz42_0:w41.cell? ⟨gb914,0,none⟩=some (.int .i64 0):=(δl BK914.out 0).trans rfl;have hcz42_1:w41.cell? ⟨gb914,1,none⟩=some (.int .i64 0):=(δl BK914.out 1).trans rfl;have hcz42_2:w41.cell? ⟨gb914,2,none⟩=some (.int .i64 0):=(δl BK914.out 2).trans rfl;have hfz42_0:=δm BK914.out 0;have hfz42_1:=δm BK914.out 1;have hfz42_2:=δm BK914.out 2;have p918:0≤(1:Int):=(by omega);have q918:1<(t910.length:Int):=of_decide_eq_true (by (with_reducible assumption));obtain ⟨ad918,e918,hx918_0⟩:=Kd.at_string (ζg HO_5.out).2.2 1 p918 q918;obtain rfl:ad915=ad918:=(by injection e918);(try simp only [show (1:Int).toNat=1 from rfl,Nat.reduceMul,Nat.reduceEqDiff,Go.Addr.add,↓reduceIte] at hx918_0);have qi918:(1<t910.length)=True:=eq_true (by omega);(try rw [show ((1:Int)).toNat=1 from rfl] at hx918_0);have hn918_0:ad915.block≠gb914:=ζb (ζf HO_5.out BK914.out (by decide));replace hx918_0:=(δt (p:=⟨gb914,0,none⟩) (by exact hn918_0) (.int .i64 t916)).trans hx918_0;clear hn918_0;replace p918:=eq_true p918;replace q918:=eq_true q918)|((with_reducible refine δv (f:=151) rfl ?_);refine goesL_ (some 39) rfl rfl Tryz.func151 (by kernel_rfl) rfl #[.string (rdOf ByteArray.empty t910 1)] rfl (by (try simp only [δd,δe,δf]);rfl) ?_;(with_reducible refine (impl_readAmount.calls (rdOf ByteArray.empty t910 1) t919 t920 _ (HT0.out.below (by repeat ((with_reducible first|exact HB.out|refine δq ?_ GE914.out)))) A15.out).mono ?_);rintro e w43 ⟨rfl,hb⟩;refine ⟨_,rfl,?_⟩;replace HO_5:=ζa (ζh (by exact (Kd.R_mono (ζi (p:=⟨gb914,0,none⟩) (Kd.R_types HO_5.out BK914.out (by decide)) (fun _ hk=>hk.2) (.int .i64 t916)) (fun _ h_=>h_.1))) hb);replace BK907:=ζa (blk_below (g:=gb907) (o:=.cells #[.int .i64 0,.int .i64 0,.int .i64 0] 109 (0,0)) (by refine blk_far ?_ NB907_914.out _;exact BK907.out) hb);replace BK914:=ζa (blk_below (g:=gb914) (o:=.cells #[.int .i64 t916,.int .i64 0,.int .i64 0] 109 (0,0)) (by refine δw (cs:=#[.int .i64 0,.int .i64 0,.int .i64 0]) ?_ 0 _ rfl;exact BK914.out) hb);replace HB:=ζa (δr (by repeat ((with_reducible first|exact HB.out|refine δq ?_ GE914.out))) hb);(try clear hb);(try clear hb2);(try clear hk);(try clear hi);have hcz44_0:w43.cell? ⟨gb914,0,none⟩=some (.int .i64 t916):=(δl BK914.out 0).trans rfl;have hcz44_1:w43.cell? ⟨gb914,1,none⟩=some (.int .i64 0):=(δl BK914.out 1).trans rfl;have hcz44_2:w43.cell? ⟨gb914,2,none⟩=some (.int .i64 0):=(δl BK914.out 2).trans rfl;have hfz44_0:=δm BK914.out 0;have hfz44_1:=δm BK914.out 1;have hfz44_2:=δm BK914.out 2;have p921:0≤(2:Int):=(by omega);have q921:2<(t910.length:Int):=of_decide_eq_true (by (with_reducible assumption));obtain ⟨ad921,e921,hx921_0⟩:=Kd.at_string (ζg HO_5.out).2.2 2 p921 q921;obtain rfl:ad915=ad921:=(by injection e921);(try simp only [show (2:Int).toNat=2 from rfl,Nat.reduceMul,Nat.reduceEqDiff,Go.Addr.add,↓reduceIte] at hx921_0);have qi921:(2<t910.length)=True:=eq_true (by omega);(try rw [show ((2:Int)).toNat=2 from rfl] at hx921_0);have hn921_0:ad915.block≠gb914:=ζb (ζf HO_5.out BK914.out (by decide));replace hx921_0:=(δt (p:=⟨gb914,1,none⟩) (by exact hn921_0) (.int .i64 t919)).trans hx921_0;clear hn921_0;replace p921:=eq_true p921;replace q921:=eq_true q921)|((with_reducible refine δv (f:=151) rfl ?_);refine goesL_ (some 47) rfl rfl Tryz.func151 (by kernel_rfl) rfl #[.string (rdOf ByteArray.empty t910 2)] rfl (by (try simp only [δd,δe,δf]);rfl) ?_;(with_reducible refine (impl_readAmount.calls (rdOf ByteArray.empty t910 2) t922 t923 _ (HT0.out.below (by repeat ((with_reducible first|exact HB.out|refine δq ?_ GE914.out)))) A17.out).mono ?_);rintro e w45 ⟨rfl,hb⟩;refine ⟨_,rfl,?_⟩;replace HO_5:=ζa (ζh (by exact (Kd.R_mono (ζi (p:=⟨gb914,1,none⟩) (Kd.R_types HO_5.out BK914.out (by decide)) (fun _ hk=>hk.2) (.int .i64 t919)) (fun _ h_=>h_.1))) hb);replace BK907:=ζa (blk_below (g:=gb907) (o:=.cells #[.int .i64 0,.int .i64 0,.int .i64 0] 109 (0,0)) (by refine blk_far ?_ NB907_914.out _;exact BK907.out) hb);replace BK914:=ζa (blk_below (g:=gb914) (o:=.cells #[.int .i64 t916,.int .i64 t919,.int .i64 0] 109 (0,0)) (by refine δw (cs:=#[.int .i64 t916,.int .i64 0,.int .i64 0]) ?_ 1 _ rfl;exact BK914.out) hb);replace HB:=ζa (δr (by repeat ((with_reducible first|exact HB.out|refine δq ?_ GE914.out))) hb);(try clear hb);(try clear hb2);(try clear hk);(try clear hi);have hcz46_0:w45.cell? ⟨gb914,0,none⟩=some (.int .i64 t916):=(δl BK914.out 0).trans rfl;have hcz46_1:w45.cell? ⟨gb914,1,none⟩=some (.int .i64 t919):=(δl BK914.out 1).trans rfl;have hcz46_2:w45.cell? ⟨gb914,2,none⟩=some (.int .i64 0):=(δl BK914.out 2).trans rfl;have hfz46_0:=δm BK914.out 0;have hfz46_1:=δm BK914.out 1;have hfz46_2:=δm BK914.out 2)|((with_reducible refine δv (f:=176) rfl ?_);refine goesL_ (some 52) rfl rfl Tryz.func176 (by kernel_rfl) rfl #[.agg #[.int .i64 t916,.int .i64 t919,.int .i64 t922]] rfl (by (try simp only [δd,δe,δf]);rfl) ?_;(with_reducible refine (impl_PoolOK.calls t916 t919 t922 τ _ A18.out).mono ?_);rintro e w47 ⟨rfl,hb⟩;refine ⟨_,rfl,?_⟩;replace HO_5:=ζa (ζh (by exact (Kd.R_mono (ζi (p:=⟨gb914,2,none⟩) (Kd.R_types HO_5.out BK914.out (by decide)) (fun _ hk=>hk.2) (.int .i64 t922)) (fun _ h_=>h_.1))) hb);replace BK907:=ζa (blk_below (g:=gb907) (o:=.cells #[.int .i64 0,.int .i64 0,.int .i64 0] 109 (0,0)) (by refine blk_far ?_ NB907_914.out _;exact BK907.out) hb);replace BK914:=ζa (blk_below (g:=gb914) (o:=.cells #[.int .i64 t916,.int .i64 t919,.int .i64 t922] 109 (0,0)) (by refine δw (cs:=#[.int .i64 t916,.int .i64 t919,.int .i64 0]) ?_ 2 _ rfl;exact BK914.out) hb);replace HB:=ζa (δr (by repeat ((with_reducible first|exact HB.out|refine δq ?_ GE914.out))) hb);(try clear hb);(try clear hb2);(try clear hk);(try clear hi);have hcz48_0:w47.cell? ⟨gb914,0,none⟩=some (.int .i64 t916):=(δl BK914.out 0).trans rfl;have hcz48_1:w47.cell? ⟨gb914,1,none⟩=some (.int .i64 t919):=(δl BK914.out 1).trans rfl;have hcz48_2:w47.cell? ⟨gb914,2,none⟩=some (.int .i64 t922):=(δl BK914.out 2).trans rfl;have hfz48_0:=δm BK914.out 0;have hfz48_1:=δm BK914.out 1;have hfz48_2:=δm BK914.out 2)|(go_at_call 177;(with_reducible refine (impl_Pool_value.calls kj3 t916 t919 t922 t925 _ (HT0.out.below (by exact HB.out)) A20.out).mono ?_);rintro e w49 ⟨rfl,hb⟩;replace HO_5:=ζa (ζh (by exact HO_5.out) hb);replace BK907:=ζa (blk_below (g:=gb907) (o:=.cells #[.int .i64 0,.int .i64 0,.int .i64 0] 109 (0,0)) (by exact BK907.out) hb);replace BK914:=ζa (blk_below (g:=gb914) (o:=.cells #[.int .i64 t916,.int .i64 t919,.int .i64 t922] 109 (0,0)) (by exact BK914.out) hb);replace HB:=ζa (δr (by exact HB.out) hb);(try clear hb);(try clear hb2);(try clear hk);(try clear hi);have hcz50_0:w49.cell? ⟨gb907,0,none⟩=some (.int .i64 0):=(δl BK907.out 0).trans rfl;have hcz50_1:w49.cell? ⟨gb907,1,none⟩=some (.int .i64 0):=(δl BK907.out 1).trans rfl;have hcz50_2:w49.cell? ⟨gb907,2,none⟩=some (.int .i64 0):=(δl BK907.out 2).trans rfl;have hfz50_0:=δm BK907.out 0;have hfz50_1:=δm BK907.out 1;have hfz50_2:=δm BK907.out 2))
         refine bodyPost_ret (results_cell_row rfl _ _ gb907 109 #[.int .i64 0,.int .i64 0,.int .i64 0] (0,0) _ rfl (by refine δw (cs:=#[.int .i64 0,.int .i64 0,.int .i64 0]) ?_ 2 _ rfl;refine δw (cs:=#[.int .i64 0,.int .i64 0,.int .i64 0]) ?_ 1 _ rfl;refine δw (cs:=#[.int .i64 0,.int .i64 0,.int .i64 0]) ?_ 0 _ rfl;exact BK907.out) Tryz.underlying109 rfl (by kernel_rfl)) rfl ?_
         exact ⟨by rfl,by repeat ((with_reducible first|exact HB.out|refine δq ?_ GE907.out))⟩
       ·
        replace c19:=Bool.eq_false_iff.mpr c19
        subst c19
        have H1:(some (0,0,0))=some (r1,r2,r3):=by rw [if_neg (show ¬ (φ=τ) by decide)] at H;exact H
        clear H
        have H:=H1
        clear H1
        simp only [Option.some.injEq,Prod.mk.injEq] at H
        obtain ⟨rfl,rfl,rfl⟩:=H
        go_wp2_with (first|((with_reducible refine δx (N:=7) rfl ?_);(try (refine gate_guard (by rfl) ?_;dsimp only));refine δz ?hg (N:=7) ?hd (cs:=#[.int .i64 0,.int .i64 0,.int .i64 0]) (t:=109) ?hr ?_;(case hd=>rfl);(case hg=>rfl);(case hr=>(go_simp;done));intro gb914 hg w51 hbox hb;replace HO_5:=ζa (ζh (by exact HO_5.out) hb);have BK914:=ζa (hbox);have GW914:=ζa ((by rw [hg];exact (δs (by exact HB.out)):w.heap.size≤gb914));have GE914:=ζa ((by rw [hg];exact (δs (by exact HB.out)):w.heap.size≤gb914));replace HB:=ζa (δr (by exact HB.out) hb);have NB907_914:=ζa ((by rw [hg];exact Nat.ne_of_lt (blk_lt (g:=gb907) (o:=.cells #[.int .i64 0,.int .i64 0,.int .i64 0] 109 (0,0)) (by exact BK907.out)):gb907≠gb914));have NB914_907:=ζa ((by rw [hg];exact Nat.ne_of_gt (blk_lt (g:=gb907) (o:=.cells #[.int .i64 0,.int .i64 0,.int .i64 0] 109 (0,0)) (by exact BK907.out)):gb914≠gb907));replace BK907:=ζa (blk_below (g:=gb907) (o:=.cells #[.int .i64 0,.int .i64 0,.int .i64 0] 109 (0,0)) (by exact BK907.out) hb);clear hb hbox hg;have hnb52:=NB914_907.out;have hnc52:=NB907_914.out;have hcz53_0:w51.cell? ⟨gb914,0,none⟩=some (.int .i64 0):=(δl BK914.out 0).trans rfl;have hcz53_1:w51.cell? ⟨gb914,1,none⟩=some (.int .i64 0):=(δl BK914.out 1).trans rfl;have hcz53_2:w51.cell? ⟨gb914,2,none⟩=some (.int .i64 0):=(δl BK914.out 2).trans rfl;have hfz53_0:=δm BK914.out 0;have hfz53_1:=δm BK914.out 1;have hfz53_2:=δm BK914.out 2;obtain ⟨Ao54,co54,eo54⟩:=Kd.R_slice HO_5.out;subst eo54;have p915:0≤(0:Int):=(by omega);have q915:0<(t910.length:Int):=of_decide_eq_true (by (with_reducible assumption));obtain ⟨ad915,e915,hx915_0⟩:=Kd.at_string (ζg HO_5.out).2.2 0 p915 q915;cases e915;have qi915:(0<t910.length)=True:=eq_true (by omega);(try rw [show ((0:Int)).toNat=0 from rfl] at hx915_0);(try rw [Addr.add_zero'] at hx915_0);have hn915_0:ad915.block≠gb914:=ζb (ζf HO_5.out BK914.out (by decide));have hn915_1:ad915.block≠gb914:=ζb (ζf HO_5.out BK914.out (by decide));have hn915_2:ad915.block≠gb914:=ζb (ζf HO_5.out BK914.out (by decide));replace hx915_0:=(δt (p:=⟨gb914,0,none⟩) (by exact hn915_0) (.int .i64 0)).trans hx915_0;replace hx915_0:=(δt (p:=⟨gb914,1,none⟩) (by exact hn915_1) (.int .i64 0)).trans hx915_0;replace hx915_0:=(δt (p:=⟨gb914,2,none⟩) (by exact hn915_2) (.int .i64 0)).trans hx915_0;clear hn915_0;clear hn915_1;clear hn915_2;replace p915:=eq_true p915;replace q915:=eq_true q915)|((with_reducible refine δv (f:=151) rfl ?_);refine goesL_ (some 31) rfl rfl Tryz.func151 (by kernel_rfl) rfl #[.string (rdOf ByteArray.empty t910 0)] rfl (by (try simp only [δd,δe,δf]);rfl) ?_;(with_reducible refine (impl_readAmount.calls (rdOf ByteArray.empty t910 0) t916 t917 _ (HT0.out.below (by repeat ((with_reducible first|exact HB.out|refine δq ?_ GE914.out)))) A13.out).mono ?_);rintro e w55 ⟨rfl,hb⟩;refine ⟨_,rfl,?_⟩;replace HO_5:=ζa (ζh (by exact (Kd.R_mono (ζi (p:=⟨gb914,2,none⟩) (ζi (p:=⟨gb914,1,none⟩) (ζi (p:=⟨gb914,0,none⟩) (Kd.R_types HO_5.out BK914.out (by decide)) (fun _ hk=>hk.2) (.int .i64 0)) (fun _ hk=>hk.2) (.int .i64 0)) (fun _ hk=>hk.2) (.int .i64 0)) (fun _ h_=>h_.1))) hb);replace BK907:=ζa (blk_below (g:=gb907) (o:=.cells #[.int .i64 0,.int .i64 0,.int .i64 0] 109 (0,0)) (by refine blk_far ?_ NB907_914.out _;refine blk_far ?_ NB907_914.out _;refine blk_far ?_ NB907_914.out _;exact BK907.out) hb);replace BK914:=ζa (blk_below (g:=gb914) (o:=.cells #[.int .i64 0,.int .i64 0,.int .i64 0] 109 (0,0)) (by refine δw (cs:=#[.int .i64 0,.int .i64 0,.int .i64 0]) ?_ 2 _ rfl;refine δw (cs:=#[.int .i64 0,.int .i64 0,.int .i64 0]) ?_ 1 _ rfl;refine δw (cs:=#[.int .i64 0,.int .i64 0,.int .i64 0]) ?_ 0 _ rfl;exact BK914.out) hb);replace HB:=ζa (δr (by repeat ((with_reducible first|exact HB.out|refine δq ?_ GE914.out))) hb);(try clear hb);(try clear hb2);(try clear hk);(try clear hi);have hcz56_0:w55.cell? ⟨gb914,0,none⟩=some (.int .i64 0):=(δl BK914.out 0).trans rfl;have hcz56_1:w55.cell? ⟨gb914,1,none⟩=some (.int .i64 0):=(δl BK914.out 1).trans rfl;have hcz56_2:w55.cell? ⟨gb914,2,none⟩=some (.int .i64 0):=(δl BK914.out 2).trans rfl;have hfz56_0:=δm BK914.out 0;have hfz56_1:=δm BK914.out 1;have hfz56_2:=δm BK914.out 2;have p918:0≤(1:Int):=(by omega);have q918:1<(t910.length:Int):=of_decide_eq_true (by (with_reducible assumption));obtain ⟨ad918,e918,hx918_0⟩:=Kd.at_string (ζg HO_5.out).2.2 1 p918 q918;obtain rfl:ad915=ad918:=(by injection e918);(try simp only [show (1:Int).toNat=1 from rfl,Nat.reduceMul,Nat.reduceEqDiff,Go.Addr.add,↓reduceIte] at hx918_0);have qi918:(1<t910.length)=True:=eq_true (by omega);(try rw [show ((1:Int)).toNat=1 from rfl] at hx918_0);have hn918_0:ad915.block≠gb914:=ζb (ζf HO_5.out BK914.out (by decide));replace hx918_0:=(δt (p:=⟨gb914,0,none⟩) (by exact hn918_0) (.int .i64 t916)).trans hx918_0;clear hn918_0;replace p918:=eq_true p918;replace q918:=eq_true q918)|((with_reducible refine δv (f:=151) rfl ?_);refine goesL_ (some 39) rfl rfl Tryz.func151 (by kernel_rfl) rfl #[.string (rdOf ByteArray.empty t910 1)] rfl (by (try simp only [δd,δe,δf]);rfl) ?_;(with_reducible refine (impl_readAmount.calls (rdOf ByteArray.empty t910 1) t919 t920 _ (HT0.out.below (by repeat ((with_reducible first|exact HB.out|refine δq ?_ GE914.out)))) A15.out).mono ?_);rintro e w57 ⟨rfl,hb⟩;refine ⟨_,rfl,?_⟩;replace HO_5:=ζa (ζh (by exact (Kd.R_mono (ζi (p:=⟨gb914,0,none⟩) (Kd.R_types HO_5.out BK914.out (by decide)) (fun _ hk=>hk.2) (.int .i64 t916)) (fun _ h_=>h_.1))) hb);replace BK907:=ζa (blk_below (g:=gb907) (o:=.cells #[.int .i64 0,.int .i64 0,.int .i64 0] 109 (0,0)) (by refine blk_far ?_ NB907_914.out _;exact BK907.out) hb);replace BK914:=ζa (blk_below (g:=gb914) (o:=.cells #[.int .i64 t916,.int .i64 0,.int .i64 0] 109 (0,0)) (by refine δw (cs:=#[.int .i64 0,.int .i64 0,.int .i64 0]) ?_ 0 _ rfl;exact BK914.out) hb);replace HB:=ζa (δr (by repeat ((with_reducible first|exact HB.out|refine δq ?_ GE914.out))) hb);(try clear hb);(try clear hb2);(try clear hk);(try clear hi);have hcz58_0:w57.cell? ⟨gb914,0,none⟩=some (.int .i64 t916):=(δl BK914.out 0).trans rfl;have hcz58_1:w57.cell? ⟨gb914,1,none⟩=some (.int .i64 0):=(δl BK914.out 1).trans rfl;have hcz58_2:w57.cell? ⟨gb914,2,none⟩=some (.int .i64 0):=(δl BK914.out 2).trans rfl;have hfz58_0:=δm BK914.out 0;have hfz58_1:=δm BK914.out 1;have hfz58_2:=δm BK914.out 2;have p921:0≤(2:Int):=(by omega);have q921:2<(t910.length:Int):=of_decide_eq_true (by (with_reducible assumption));obtain ⟨ad921,e921,hx921_0⟩:=Kd.at_string (ζg HO_5.out).2.2 2 p921 q921;obtain rfl:ad915=ad921:=(by injection e921);(try simp only [show (2:Int).toNat=2 from rfl,Nat.reduceMul,Nat.reduceEqDiff,Go.Addr.add,↓reduceIte] at hx921_0);have qi921:(2<t910.length)=True:=eq_true (by omega);(try rw [show ((2:Int)).toNat=2 from rfl] at hx921_0);have hn921_0:ad915.block≠gb914:=ζb (ζf HO_5.out BK914.out (by decide));replace hx921_0:=(δt (p:=⟨gb914,1,none⟩) (by exact hn921_0) (.int .i64 t919)).trans hx921_0;clear hn921_0;replace p921:=eq_true p921;replace q921:=eq_true q921)|((with_reducible refine δv (f:=151) rfl ?_);refine goesL_ (some 47) rfl rfl Tryz.func151 (by kernel_rfl) rfl #[.string (rdOf ByteArray.empty t910 2)] rfl (by (try simp only [δd,δe,δf]);rfl) ?_;(with_reducible refine (impl_readAmount.calls (rdOf ByteArray.empty t910 2) t922 t923 _ (HT0.out.below (by repeat ((with_reducible first|exact HB.out|refine δq ?_ GE914.out)))) A17.out).mono ?_);rintro e w59 ⟨rfl,hb⟩;refine ⟨_,rfl,?_⟩;replace HO_5:=ζa (ζh (by exact (Kd.R_mono (ζi (p:=⟨gb914,1,none⟩) (Kd.R_types HO_5.out BK914.out (by decide)) (fun _ hk=>hk.2) (.int .i64 t919)) (fun _ h_=>h_.1))) hb);replace BK907:=ζa (blk_below (g:=gb907) (o:=.cells #[.int .i64 0,.int .i64 0,.int .i64 0] 109 (0,0)) (by refine blk_far ?_ NB907_914.out _;exact BK907.out) hb);replace BK914:=ζa (blk_below (g:=gb914) (o:=.cells #[.int .i64 t916,.int .i64 t919,.int .i64 0] 109 (0,0)) (by refine δw (cs:=#[.int .i64 t916,.int .i64 0,.int .i64 0]) ?_ 1 _ rfl;exact BK914.out) hb);replace HB:=ζa (δr (by repeat ((with_reducible first|exact HB.out|refine δq ?_ GE914.out))) hb);(try clear hb);(try clear hb2);(try clear hk);(try clear hi);have hcz60_0:w59.cell? ⟨gb914,0,none⟩=some (.int .i64 t916):=(δl BK914.out 0).trans rfl;have hcz60_1:w59.cell? ⟨gb914,1,none⟩=some (.int .i64 t919):=(δl BK914.out 1).trans rfl;have hcz60_2:w59.cell? ⟨gb914,2,none⟩=some (.int .i64 0):=(δl BK914.out 2).trans rfl;have hfz60_0:=δm BK914.out 0;have hfz60_1:=δm BK914.out 1;have hfz60_2:=δm BK914.out 2)|((with_reducible refine δv (f:=176) rfl ?_);refine goesL_ (some 52) rfl rfl Tryz.func176 (by kernel_rfl) rfl #[.agg #[.int .i64 t916,.int .i64 t919,.int .i64 t922]] rfl (by (try simp only [δd,δe,δf]);rfl) ?_;(with_reducible refine (impl_PoolOK.calls t916 t919 t922 φ _ A18.out).mono ?_);rintro e w61 ⟨rfl,hb⟩;refine ⟨_,rfl,?_⟩;replace HO_5:=ζa (ζh (by exact (Kd.R_mono (ζi (p:=⟨gb914,2,none⟩) (Kd.R_types HO_5.out BK914.out (by decide)) (fun _ hk=>hk.2) (.int .i64 t922)) (fun _ h_=>h_.1))) hb);replace BK907:=ζa (blk_below (g:=gb907) (o:=.cells #[.int .i64 0,.int .i64 0,.int .i64 0] 109 (0,0)) (by refine blk_far ?_ NB907_914.out _;exact BK907.out) hb);replace BK914:=ζa (blk_below (g:=gb914) (o:=.cells #[.int .i64 t916,.int .i64 t919,.int .i64 t922] 109 (0,0)) (by refine δw (cs:=#[.int .i64 t916,.int .i64 t919,.int .i64 0]) ?_ 2 _ rfl;exact BK914.out) hb);replace HB:=ζa (δr (by repeat ((with_reducible first|exact HB.out|refine δq ?_ GE914.out))) hb);(try clear hb);(try clear hb2);(try clear hk);(try clear hi);have hcz62_0:w61.cell? ⟨gb907,0,none⟩=some (.int .i64 0):=(δl BK907.out 0).trans rfl;have hcz62_1:w61.cell? ⟨gb907,1,none⟩=some (.int .i64 0):=(δl BK907.out 1).trans rfl;have hcz62_2:w61.cell? ⟨gb907,2,none⟩=some (.int .i64 0):=(δl BK907.out 2).trans rfl;have hfz62_0:=δm BK907.out 0;have hfz62_1:=δm BK907.out 1;have hfz62_2:=δm BK907.out 2))
        refine bodyPost_ret (results_cell_row rfl _ _ gb907 109 #[.int .i64 0,.int .i64 0,.int .i64 0] (0,0) _ rfl (by refine δw (cs:=#[.int .i64 0,.int .i64 0,.int .i64 0]) ?_ 2 _ rfl;refine δw (cs:=#[.int .i64 0,.int .i64 0,.int .i64 0]) ?_ 1 _ rfl;refine δw (cs:=#[.int .i64 0,.int .i64 0,.int .i64 0]) ?_ 0 _ rfl;exact BK907.out) Tryz.underlying109 rfl (by kernel_rfl)) rfl ?_
        exact ⟨by rfl,by repeat ((with_reducible first|exact HB.out|refine δq ?_ GE907.out))⟩
      ·
       rw [if_neg c16] at H
       exact absurd H (by simp)
     ·
      rw [if_neg c14] at H
      exact absurd H (by simp)
    ·
     rw [if_neg c12] at H
     exact absurd H (by simp)


open Go.Proofs.YtabmfhnhmoiljaaGreatDoorW.PrintWords renaming blk_cell → δl, below_alloc → δk, below_drew1 → δj, pw_below_drewN → δi, blk_alloc → δo, blk_drew → δp, blk_drewN → δn, below_step → δr

/-! ### impl_putPool_1: function 178 -/
def impl_putPool.F (k:Nat) (o_0:Int) (o_1:Int) (o_2:Int):List S51→Option (List S51 × Int):=fun l0=>(impl_Pool_value.f k o_0 o_1 o_2).bind fun v=>impl_put.f k l0 (⟨#[112]⟩:ByteArray) v
set_option maxHeartbeats 4000000 in
set_option maxRecDepth 100000 in
theorem impl_putPool_1.calls (k:Nat) (A0:Option Addr) (c0:Nat) (l0:List S51) (gb:Nat) (o_0:Int) (o_1:Int) (o_2:Int) (r1:List S51) (r2:Int) (w:World) (hr0:Kd.C k51 w A0 l0.length l0) (hc0:l0.length≤c0) (hT0:TabsOK w) (hbk:w.heap[gb]? = some (.cells #[.int .i64 o_0,.int .i64 o_1,.int .i64 o_2] 109 (0,0))) (h:impl_putPool.F k o_0 o_1 o_2 l0=some (r1,r2)) :
  Calls Tryz.prog 178 #[.slice A0 l0.length c0,.pointer (some ⟨gb,0,none⟩)] w fun e w' => ∃ v0_:Value,e = .returned (.tuple #[v0_,.int .i64 r2])∧Kd.R k51 51 w' w.heap.size (fun _=>True) v0_ r1∧Below w.heap.size w w':=by
 unfold impl_putPool.F at h
 obtain ⟨v,hv,h⟩:=Option.bind_eq_some_iff.mp h
 have HV:=ζa hv
 have HF:=ζa h
 have HR0:=ζa hr0
 have HC0:=ζa hc0
 have HT0:=ζa hT0
 have BK:=ζa hbk
 have HB:=ζa (Below.refl w.heap.size w)
 clear hv h hr0 hc0 hT0 hbk
 have hz0:=(δl BK.out 0).trans rfl
 have hz1:=(δl BK.out 1).trans rfl
 have hz2:=(δl BK.out 2).trans rfl
 go_enter Tryz.func178,Tryz.ntmps178

 go_wp2_with (first
  | (go_at_call 177;refine (impl_Pool_value.calls k o_0 o_1 o_2 v _ (HT0.out.below (by repeat (first|exact HB.out|apply δk|apply δj|apply δi))) HV.out).mono ?_;rintro e w2 ⟨rfl,hb⟩;replace BK:=ζa (blk_below (by repeat (first|exact BK.out|apply δo|apply δp|apply δn)) hb);replace HB:=ζa (δr (by repeat (first|exact HB.out|apply δk|apply δj|apply δi)) hb);clear hb)
  | (go_at_call 165;refine (impl_put.calls k A0 c0 l0 (⟨#[112]⟩:ByteArray) v r1 r2 _ (by repeat (first|exact Kd.C_below HR0.out HB.out|apply Kd.C_drew|apply Kd.C_drewN)) HC0.out HF.out).mono ?_;rintro e w3 ⟨v3,rfl,ho,hb⟩;have HO3:=ζa (Kd.R_lower ho (Below.size (show Below w.heap.size w _ from (by repeat (first|exact HB.out|apply δk|apply δj|apply δi)))));replace BK:=ζa (blk_below (by repeat (first|exact BK.out|apply δo|apply δp|apply δn)) hb);replace HB:=ζa (δr (by repeat (first|exact HB.out|apply δk|apply δj|apply δi)) hb);clear hb ho))
 all_goals go_wp2
 all_goals (go_ret2;exact ⟨_,rfl,HO3.out,HB.out⟩)


open Go.Proofs.YtabmfhnhmoiljaaGreatDoorW.PrintWords renaming gate_dst → δx, box_event → δz, below_step → δr, below_alloc → δk, pw_below_drewN → δi, below_drew1 → δj

/-! ### impl_putPool: function 125 -/
set_option maxHeartbeats 2000000 in
set_option maxRecDepth 100000 in
theorem impl_putPool.calls (k:Nat) (o_0:Int) (o_1:Int) (o_2:Int) (w:World) (hT0:TabsOK w) :
  Calls Tryz.prog 125 #[.agg #[.int .i64 o_0,.int .i64 o_1,.int .i64 o_2]] w fun e w' => ∃ (g:Nat) (lb:Array Value),e = .returned (.func (.func g) #[] lb)∧ChgR w' (g,lb) (impl_putPool.F k o_0 o_1 o_2)∧Below w.heap.size w w':=by
 have HT0:=ζa hT0
 have HB:=ζa (Below.refl w.heap.size w)
 have hu:=Tryz.underlying109
 clear hT0
 go_enter Tryz.func125,Tryz.ntmps125
 go_wp2_with (first
  | ((with_reducible refine δx (N:=1) rfl ?_);refine δz ?hg (N:=1) ?hd (cs:=#[.int .i64 o_0,.int .i64 o_1,.int .i64 o_2]) (t:=109) ?hr ?_;(case hd=>rfl);(case hg=>rfl);(case hr=>first|(go_simp;done)|(go_simp;rfl));intro gbp hg wp hbox hb;replace HB:=ζa (δr (by repeat (first|exact HB.out|apply δk|apply δi|apply δj)) hb);have BKp:=ζa hbox;clear hb hbox hg))
 go_ret
 refine ⟨_,_,rfl,⟨enters_of Tryz.func178 (by kernel_rfl) rfl,fun W A c l r code hb hr hc hF => ?_⟩,HB.out⟩
 exact impl_putPool_1.calls k A c l gbp o_0 o_1 o_2 r code W hr hc ((HT0.out.below HB.out).below hb) (blk_below BKp.out hb) hF



/-! ### bits_Mul64: function 199 -/
def bits_Mul64.f (a0 : Int) (a1 : Int) : Option (Int × Int) := if 0 ≤ a0 ∧ a0 < 18446744073709551616 ∧ 0 ≤ a1 ∧ a1 < 18446744073709551616 then some (a0 * a1 / 18446744073709551616, a0 * a1 % 18446744073709551616) else none
theorem bits_Mul64.calls (a0 : Int) (a1 : Int) (r1 : Int) (r2 : Int) (w : World) (h : bits_Mul64.f a0 a1 = some (r1, r2)) :
    Calls Tryz.prog 199 #[.int .u64 a0, .int .u64 a1] w fun e w' => e = .returned (.tuple #[.int .u64 r1, .int .u64 r2]) ∧ Drawn0 w w' := by
  unfold bits_Mul64.f at h
  split at h
  · rename_i hc
    obtain ⟨x, rfl⟩ := Int.eq_ofNat_of_zero_le hc.1
    obtain ⟨y, rfl⟩ := Int.eq_ofNat_of_zero_le hc.2.2.1
    simp only [Option.some.injEq, Prod.mk.injEq] at h
    obtain ⟨rfl, rfl⟩ := h
    refine (Tryz.bits_Mul64 x y (by omega) (by omega) w).mono ?_
    rintro e w' ⟨rfl, rfl⟩
    exact ⟨by rw [show ((x * y / 18446744073709551616 : Nat) : Int) = (x : Int) * y / 18446744073709551616 from by simp, show ((x * y % 18446744073709551616 : Nat) : Int) = (x : Int) * y % 18446744073709551616 from by simp], Drawn0.refl _⟩
  · cases h



/-! ### bits_LeadingZeros64: function 213 -/
def bits_LeadingZeros64.f (a0:Int):Option Int:=if 0≤a0∧a0<18446744073709551616 then some (64 - (Lib.bitLen a0.toNat:Int)) else none
theorem bits_LeadingZeros64.calls (a0:Int) (r:Int) (w:World) (h:bits_LeadingZeros64.f a0=some r) :
  Calls Tryz.prog 213 #[.int .u64 a0] w fun e w'=>e = .returned (.int .i64 r)∧Drawn0 w w':=by
 unfold bits_LeadingZeros64.f at h
 split at h
 ·
  rename_i hc
  obtain rfl:=Option.some.inj h
  have hl:=Lib.bitLen_le a0.toNat 64 (Nat.le_refl _) (by omega)
  have HL:=ζa hc
  generalize hL:Lib.bitLen a0.toNat=L at hl
  have hL':=ζa hL
  have e1:ζm (64 - (L:Int))=64 - (L:Int):=IntWalk.wrap64_in _ (by omega)
  have e2:IntKind.i64.wrap (64 - (L:Int))=64 - (L:Int):=IntWalk.i64_in _ (by omega)
  clear hL hl h
  go_enter Tryz.func213,Tryz.ntmps213
  go_wp2_with (go_at_call 222;refine (Tryz.bits_Len64 a0 _ HL.out.1 (by have:=HL.out.2;omega)).mono ?_;rintro e w' ⟨rfl,rfl⟩;rw [hL'.out])
  go_ret
  exact ⟨by rfl,by repeat (exact Drawn0.refl _)⟩
 · cases h


open List renaming setIfInBounds_toArray → δa, set_cons_zero → δb, set_cons_succ → δc

/-! ### bits_Div64: function 200 -/
mutual
def bits_Div64.j2:Nat→Int→Int→Int→Int→Int→Int→Int→Int→Option (Int × Int)
 | 0,_,_,_,_,_,_,_,_=>none
 | k+1,x2,x8,x9,x10,x11,x13,x14,x15=>if x9=0 then (none) else (bits_Div64.l1 k x2 x8 x9 x10 x14 x15 (IntKind.u64.wrap ((IntKind.u64.wrap ((IntKind.u64.wrap ((IntKind.u64.wrap (x11 * 4294967296))+x13)) - (IntKind.u64.wrap (x15 * x2)))) - (IntKind.u64.wrap ((IntKind.u64.wrap (Int.tdiv (IntKind.u64.wrap ((IntKind.u64.wrap ((IntKind.u64.wrap (x11 * 4294967296))+x13)) - (IntKind.u64.wrap (x15 * x2)))) x9)) * x9)))) (IntKind.u64.wrap ((IntKind.u64.wrap ((IntKind.u64.wrap (x11 * 4294967296))+x13)) - (IntKind.u64.wrap (x15 * x2)))) (IntKind.u64.wrap (Int.tdiv (IntKind.u64.wrap ((IntKind.u64.wrap ((IntKind.u64.wrap (x11 * 4294967296))+x13)) - (IntKind.u64.wrap (x15 * x2)))) x9)))
def bits_Div64.l1:Nat→Int→Int→Int→Int→Int→Int→Int→Int→Int→Option (Int × Int)
 | 0,_,_,_,_,_,_,_,_,_=>none
 | k+1,x2,x8,x9,x10,x14,x15,x16,x17,x18=>if x18 ≥ 4294967296 then (bits_Div64.j4 k x2 x8 x9 x10 x14 x15 x16 x17 x18 τ) else (bits_Div64.j4 k x2 x8 x9 x10 x14 x15 x16 x17 x18 (decide ((IntKind.u64.wrap (x18 * x10)) > (IntKind.u64.wrap ((IntKind.u64.wrap (4294967296 * x16))+x14)))))
def bits_Div64.j4:Nat→Int→Int→Int→Int→Int→Int→Int→Int→Int→Bool→Option (Int × Int)
 | 0,_,_,_,_,_,_,_,_,_,_=>none
 | k+1,x2,x8,x9,x10,x14,x15,x16,x17,x18,x113=>if x113=τ then (if (IntKind.u64.wrap (x16+x9)) ≥ 4294967296 then (if 0≤x8 then (some (IntKind.u64.wrap ((IntKind.u64.wrap (x15 * 4294967296))+(IntKind.u64.wrap (x18 - 1))),shr .u64 (IntKind.u64.wrap ((IntKind.u64.wrap ((IntKind.u64.wrap (x17 * 4294967296))+x14)) - (IntKind.u64.wrap ((IntKind.u64.wrap (x18 - 1)) * x2)))) x8)) else (none)) else (bits_Div64.l1 k x2 x8 x9 x10 x14 x15 (IntKind.u64.wrap (x16+x9)) x17 (IntKind.u64.wrap (x18 - 1)))) else (if 0≤x8 then (some (IntKind.u64.wrap ((IntKind.u64.wrap (x15 * 4294967296))+x18),shr .u64 (IntKind.u64.wrap ((IntKind.u64.wrap ((IntKind.u64.wrap (x17 * 4294967296))+x14)) - (IntKind.u64.wrap (x18 * x2)))) x8)) else (none))
def bits_Div64.l0:Nat→Int→Int→Int→Int→Int→Int→Int→Int→Int→Option (Int × Int)
 | 0,_,_,_,_,_,_,_,_,_=>none
 | k+1,x2,x8,x9,x10,x11,x13,x14,x15,x16=>if x15 ≥ 4294967296 then (bits_Div64.j1 k x2 x8 x9 x10 x11 x13 x14 x15 x16 τ) else (bits_Div64.j1 k x2 x8 x9 x10 x11 x13 x14 x15 x16 (decide ((IntKind.u64.wrap (x15 * x10)) > (IntKind.u64.wrap ((IntKind.u64.wrap (4294967296 * x16))+x13)))))
def bits_Div64.j1:Nat→Int→Int→Int→Int→Int→Int→Int→Int→Int→Bool→Option (Int × Int)
 | 0,_,_,_,_,_,_,_,_,_,_=>none
 | k+1,x2,x8,x9,x10,x11,x13,x14,x15,x16,x78=>if x78=τ then (if (IntKind.u64.wrap (x16+x9)) ≥ 4294967296 then (bits_Div64.j2 k x2 x8 x9 x10 x11 x13 x14 (IntKind.u64.wrap (x15 - 1))) else (bits_Div64.l0 k x2 x8 x9 x10 x11 x13 x14 (IntKind.u64.wrap (x15 - 1)) (IntKind.u64.wrap (x16+x9)))) else (bits_Div64.j2 k x2 x8 x9 x10 x11 x13 x14 x15)
end
def bits_Div64.f (k:Nat) (a0:Int) (a1:Int) (a2:Int):Option (Int × Int):=if a2=0 then (none) else (if a2≤a0 then (none) else (if a0=0 then (some (IntKind.u64.wrap (Int.tdiv a1 a2),Int.tmod a1 a2)) else ((bits_LeadingZeros64.f a2).bind fun t813=>(if 0≤(IntKind.u64.wrap (t813)) then (if 0≤(IntKind.u64.wrap (64 - (IntKind.u64.wrap (t813)))) then (if ((shl .u64 a2 (IntKind.u64.wrap (t813))) / 4294967296)=0 then (none) else (bits_Div64.l0 k (shl .u64 a2 (IntKind.u64.wrap (t813))) (IntKind.u64.wrap (t813)) ((shl .u64 a2 (IntKind.u64.wrap (t813))) / 4294967296) (Go.bits .and .u64 (shl .u64 a2 (IntKind.u64.wrap (t813))) 4294967295) (Go.bits .or .u64 (shl .u64 a0 (IntKind.u64.wrap (t813))) (shr .u64 a1 (IntKind.u64.wrap (64 - (IntKind.u64.wrap (t813)))))) ((shl .u64 a1 (IntKind.u64.wrap (t813))) / 4294967296) (Go.bits .and .u64 (shl .u64 a1 (IntKind.u64.wrap (t813))) 4294967295) (IntKind.u64.wrap (Int.tdiv (Go.bits .or .u64 (shl .u64 a0 (IntKind.u64.wrap (t813))) (shr .u64 a1 (IntKind.u64.wrap (64 - (IntKind.u64.wrap (t813)))))) ((shl .u64 a2 (IntKind.u64.wrap (t813))) / 4294967296))) (IntKind.u64.wrap ((Go.bits .or .u64 (shl .u64 a0 (IntKind.u64.wrap (t813))) (shr .u64 a1 (IntKind.u64.wrap (64 - (IntKind.u64.wrap (t813)))))) - (IntKind.u64.wrap ((IntKind.u64.wrap (Int.tdiv (Go.bits .or .u64 (shl .u64 a0 (IntKind.u64.wrap (t813))) (shr .u64 a1 (IntKind.u64.wrap (64 - (IntKind.u64.wrap (t813)))))) ((shl .u64 a2 (IntKind.u64.wrap (t813))) / 4294967296))) * ((shl .u64 a2 (IntKind.u64.wrap (t813))) / 4294967296))))))) else (none)) else (none)))))
set_option maxHeartbeats 8000000 in
set_option maxRecDepth 100000 in
theorem bits_Div64.calls (k:Nat) (a0:Int) (a1:Int) (a2:Int) (r1:Int) (r2:Int) (w:World) (h:bits_Div64.f k a0 a1 a2=some (r1,r2)) :
  Calls Tryz.prog 200 #[.int .u64 a0,.int .u64 a1,.int .u64 a2] w fun e w'=>e = .returned (.tuple #[.int .u64 r1,.int .u64 r2])∧Drawn0 w w':=by
 have H:(if a2=0 then (none) else (if a2≤a0 then (none) else (if a0=0 then (some (IntKind.u64.wrap (Int.tdiv a1 a2),Int.tmod a1 a2)) else ((bits_LeadingZeros64.f a2).bind fun t813=>(if 0≤(IntKind.u64.wrap (t813)) then (if 0≤(IntKind.u64.wrap (64 - (IntKind.u64.wrap (t813)))) then (if ((shl .u64 a2 (IntKind.u64.wrap (t813))) / 4294967296)=0 then (none) else (bits_Div64.l0 k (shl .u64 a2 (IntKind.u64.wrap (t813))) (IntKind.u64.wrap (t813)) ((shl .u64 a2 (IntKind.u64.wrap (t813))) / 4294967296) (Go.bits .and .u64 (shl .u64 a2 (IntKind.u64.wrap (t813))) 4294967295) (Go.bits .or .u64 (shl .u64 a0 (IntKind.u64.wrap (t813))) (shr .u64 a1 (IntKind.u64.wrap (64 - (IntKind.u64.wrap (t813)))))) ((shl .u64 a1 (IntKind.u64.wrap (t813))) / 4294967296) (Go.bits .and .u64 (shl .u64 a1 (IntKind.u64.wrap (t813))) 4294967295) (IntKind.u64.wrap (Int.tdiv (Go.bits .or .u64 (shl .u64 a0 (IntKind.u64.wrap (t813))) (shr .u64 a1 (IntKind.u64.wrap (64 - (IntKind.u64.wrap (t813)))))) ((shl .u64 a2 (IntKind.u64.wrap (t813))) / 4294967296))) (IntKind.u64.wrap ((Go.bits .or .u64 (shl .u64 a0 (IntKind.u64.wrap (t813))) (shr .u64 a1 (IntKind.u64.wrap (64 - (IntKind.u64.wrap (t813)))))) - (IntKind.u64.wrap ((IntKind.u64.wrap (Int.tdiv (Go.bits .or .u64 (shl .u64 a0 (IntKind.u64.wrap (t813))) (shr .u64 a1 (IntKind.u64.wrap (64 - (IntKind.u64.wrap (t813)))))) ((shl .u64 a2 (IntKind.u64.wrap (t813))) / 4294967296))) * ((shl .u64 a2 (IntKind.u64.wrap (t813))) / 4294967296))))))) else (none)) else (none))))))=some (r1,r2):=h
 clear h
 by_cases c4:a2=0
 ·
  rw [if_pos c4] at H
  exact absurd H (by simp)
 ·
  rw [if_neg c4] at H
  have c4b0:(a2 == 0)=φ:=beq_eq_false_iff_ne.mpr c4
  have c4b1:(a2 != 0)=τ:=bne_iff_ne.mpr c4
  by_cases c5:a2≤a0
  ·
   rw [if_pos c5] at H
   exact absurd H (by simp)
  ·
   rw [if_neg c5] at H
   have c5b0:decide (a2≤a0)=φ:=decide_eq_false c5
   clear c5
   by_cases c6:a0=0
   ·
    rw [if_pos c6] at H
    have c6b0:(a0 == 0)=τ:=beq_iff_eq.mpr c6
    have c6b1:(a0 != 0)=φ:=bne_eq_false_iff_eq.mpr c6
    clear c6
    simp only [Option.some.injEq,Prod.mk.injEq] at H
    obtain ⟨rfl,rfl⟩:=H
    go_enter Tryz.func200,Tryz.ntmps200
    go_wp2
    repeat (go_quiet (fail);try go_wp2)
    go_ret2
    exact ⟨by rfl,by repeat (first|exact Drawn0.refl _|apply Drawn0.step)⟩
   ·
    rw [if_neg c6] at H
    have c6b0:(a0 == 0)=φ:=beq_eq_false_iff_ne.mpr c6
    have c6b1:(a0 != 0)=τ:=bne_iff_ne.mpr c6
    replace H:=Option.bind_eq_some_iff.mp H
    obtain ⟨t813,A70,H⟩:=H
    replace H:(if 0≤(IntKind.u64.wrap (t813)) then (if 0≤(IntKind.u64.wrap (64 - (IntKind.u64.wrap (t813)))) then (if ((shl .u64 a2 (IntKind.u64.wrap (t813))) / 4294967296)=0 then (none) else (bits_Div64.l0 k (shl .u64 a2 (IntKind.u64.wrap (t813))) (IntKind.u64.wrap (t813)) ((shl .u64 a2 (IntKind.u64.wrap (t813))) / 4294967296) (Go.bits .and .u64 (shl .u64 a2 (IntKind.u64.wrap (t813))) 4294967295) (Go.bits .or .u64 (shl .u64 a0 (IntKind.u64.wrap (t813))) (shr .u64 a1 (IntKind.u64.wrap (64 - (IntKind.u64.wrap (t813)))))) ((shl .u64 a1 (IntKind.u64.wrap (t813))) / 4294967296) (Go.bits .and .u64 (shl .u64 a1 (IntKind.u64.wrap (t813))) 4294967295) (IntKind.u64.wrap (Int.tdiv (Go.bits .or .u64 (shl .u64 a0 (IntKind.u64.wrap (t813))) (shr .u64 a1 (IntKind.u64.wrap (64 - (IntKind.u64.wrap (t813)))))) ((shl .u64 a2 (IntKind.u64.wrap (t813))) / 4294967296))) (IntKind.u64.wrap ((Go.bits .or .u64 (shl .u64 a0 (IntKind.u64.wrap (t813))) (shr .u64 a1 (IntKind.u64.wrap (64 - (IntKind.u64.wrap (t813)))))) - (IntKind.u64.wrap ((IntKind.u64.wrap (Int.tdiv (Go.bits .or .u64 (shl .u64 a0 (IntKind.u64.wrap (t813))) (shr .u64 a1 (IntKind.u64.wrap (64 - (IntKind.u64.wrap (t813)))))) ((shl .u64 a2 (IntKind.u64.wrap (t813))) / 4294967296))) * ((shl .u64 a2 (IntKind.u64.wrap (t813))) / 4294967296))))))) else (none)) else (none))=some (r1,r2):=H
    have A7:=ζa A70
    clear A70
    obtain ⟨ji8,hji8⟩ : ∃ j_:Int,(IntKind.u64.wrap (t813))=j_:=⟨_,rfl⟩
    replace H:(if 0≤(ji8) then (if 0≤(IntKind.u64.wrap (64 - (ji8))) then (if ((shl .u64 a2 (ji8)) / 4294967296)=0 then (none) else (bits_Div64.l0 k (shl .u64 a2 (ji8)) ji8 ((shl .u64 a2 (ji8)) / 4294967296) (Go.bits .and .u64 (shl .u64 a2 (ji8)) 4294967295) (Go.bits .or .u64 (shl .u64 a0 (ji8)) (shr .u64 a1 (IntKind.u64.wrap (64 - (ji8))))) ((shl .u64 a1 (ji8)) / 4294967296) (Go.bits .and .u64 (shl .u64 a1 (ji8)) 4294967295) (IntKind.u64.wrap (Int.tdiv (Go.bits .or .u64 (shl .u64 a0 (ji8)) (shr .u64 a1 (IntKind.u64.wrap (64 - (ji8))))) ((shl .u64 a2 (ji8)) / 4294967296))) (IntKind.u64.wrap ((Go.bits .or .u64 (shl .u64 a0 (ji8)) (shr .u64 a1 (IntKind.u64.wrap (64 - (ji8))))) - (IntKind.u64.wrap ((IntKind.u64.wrap (Int.tdiv (Go.bits .or .u64 (shl .u64 a0 (ji8)) (shr .u64 a1 (IntKind.u64.wrap (64 - (ji8))))) ((shl .u64 a2 (ji8)) / 4294967296))) * ((shl .u64 a2 (ji8)) / 4294967296))))))) else (none)) else (none))=some (r1,r2):=by (rw [hji8] at H;exact H)
    (try rw [hji8] at A7)
    by_cases c9:0≤(ji8)
    ·
     rw [if_pos c9] at H
     have c9b0:=eq_true c9
     have c9b1:decide (0≤(ji8))=τ:=decide_eq_true c9
     clear c9
     obtain ⟨ji10,hji10⟩ : ∃ j_:Int,(shl .u64 a2 (ji8))=j_:=⟨_,rfl⟩
     replace H:(if 0≤(IntKind.u64.wrap (64 - (ji8))) then (if ((ji10) / 4294967296)=0 then (none) else (bits_Div64.l0 k ji10 ji8 ((ji10) / 4294967296) (Go.bits .and .u64 (ji10) 4294967295) (Go.bits .or .u64 (shl .u64 a0 (ji8)) (shr .u64 a1 (IntKind.u64.wrap (64 - (ji8))))) ((shl .u64 a1 (ji8)) / 4294967296) (Go.bits .and .u64 (shl .u64 a1 (ji8)) 4294967295) (IntKind.u64.wrap (Int.tdiv (Go.bits .or .u64 (shl .u64 a0 (ji8)) (shr .u64 a1 (IntKind.u64.wrap (64 - (ji8))))) ((ji10) / 4294967296))) (IntKind.u64.wrap ((Go.bits .or .u64 (shl .u64 a0 (ji8)) (shr .u64 a1 (IntKind.u64.wrap (64 - (ji8))))) - (IntKind.u64.wrap ((IntKind.u64.wrap (Int.tdiv (Go.bits .or .u64 (shl .u64 a0 (ji8)) (shr .u64 a1 (IntKind.u64.wrap (64 - (ji8))))) ((ji10) / 4294967296))) * ((ji10) / 4294967296))))))) else (none))=some (r1,r2):=by (rw [hji10] at H;exact H)
     (try rw [hji10] at A7)
     have hji10_:(IntKind.u64.wrap (a2 * 2 ^ min (ji8).toNat 64))=ji10:=hji10
     have hji10z:(ji8)≤64→(IntKind.u64.wrap (a2 * 2 ^ (ji8).toNat))=ji10:=shl_small hji10
     have c11b0:=eq_true (of_decide_eq_true (by (with_reducible assumption)):0≤(ji8))
     obtain ⟨ji12,hji12⟩ : ∃ j_:Int,(shl .u64 a0 (ji8))=j_:=⟨_,rfl⟩
     replace H:(if 0≤(IntKind.u64.wrap (64 - (ji8))) then (if ((ji10) / 4294967296)=0 then (none) else (bits_Div64.l0 k ji10 ji8 ((ji10) / 4294967296) (Go.bits .and .u64 (ji10) 4294967295) (Go.bits .or .u64 (ji12) (shr .u64 a1 (IntKind.u64.wrap (64 - (ji8))))) ((shl .u64 a1 (ji8)) / 4294967296) (Go.bits .and .u64 (shl .u64 a1 (ji8)) 4294967295) (IntKind.u64.wrap (Int.tdiv (Go.bits .or .u64 (ji12) (shr .u64 a1 (IntKind.u64.wrap (64 - (ji8))))) ((ji10) / 4294967296))) (IntKind.u64.wrap ((Go.bits .or .u64 (ji12) (shr .u64 a1 (IntKind.u64.wrap (64 - (ji8))))) - (IntKind.u64.wrap ((IntKind.u64.wrap (Int.tdiv (Go.bits .or .u64 (ji12) (shr .u64 a1 (IntKind.u64.wrap (64 - (ji8))))) ((ji10) / 4294967296))) * ((ji10) / 4294967296))))))) else (none))=some (r1,r2):=by (rw [hji12] at H;exact H)
     (try rw [hji12] at A7)
     have hji12_:(IntKind.u64.wrap (a0 * 2 ^ min (ji8).toNat 64))=ji12:=hji12
     have hji12z:(ji8)≤64→(IntKind.u64.wrap (a0 * 2 ^ (ji8).toNat))=ji12:=shl_small hji12
     obtain ⟨ji13,hji13⟩ : ∃ j_:Int,(IntKind.u64.wrap (64 - (ji8)))=j_:=⟨_,rfl⟩
     replace H:(if 0≤(ji13) then (if ((ji10) / 4294967296)=0 then (none) else (bits_Div64.l0 k ji10 ji8 ((ji10) / 4294967296) (Go.bits .and .u64 (ji10) 4294967295) (Go.bits .or .u64 (ji12) (shr .u64 a1 (ji13))) ((shl .u64 a1 (ji8)) / 4294967296) (Go.bits .and .u64 (shl .u64 a1 (ji8)) 4294967295) (IntKind.u64.wrap (Int.tdiv (Go.bits .or .u64 (ji12) (shr .u64 a1 (ji13))) ((ji10) / 4294967296))) (IntKind.u64.wrap ((Go.bits .or .u64 (ji12) (shr .u64 a1 (ji13))) - (IntKind.u64.wrap ((IntKind.u64.wrap (Int.tdiv (Go.bits .or .u64 (ji12) (shr .u64 a1 (ji13))) ((ji10) / 4294967296))) * ((ji10) / 4294967296))))))) else (none))=some (r1,r2):=by (rw [hji13] at H;exact H)
     (try rw [hji13] at A7)
     by_cases c14:0≤(ji13)
     ·
      rw [if_pos c14] at H
      have c14b0:=eq_true c14
      have c14b1:decide (0≤(ji13))=τ:=decide_eq_true c14
      clear c14
      obtain ⟨ji15,hji15⟩ : ∃ j_:Int,(shr .u64 a1 (ji13))=j_:=⟨_,rfl⟩
      replace H:(if ((ji10) / 4294967296)=0 then (none) else (bits_Div64.l0 k ji10 ji8 ((ji10) / 4294967296) (Go.bits .and .u64 (ji10) 4294967295) (Go.bits .or .u64 (ji12) (ji15)) ((shl .u64 a1 (ji8)) / 4294967296) (Go.bits .and .u64 (shl .u64 a1 (ji8)) 4294967295) (IntKind.u64.wrap (Int.tdiv (Go.bits .or .u64 (ji12) (ji15)) ((ji10) / 4294967296))) (IntKind.u64.wrap ((Go.bits .or .u64 (ji12) (ji15)) - (IntKind.u64.wrap ((IntKind.u64.wrap (Int.tdiv (Go.bits .or .u64 (ji12) (ji15)) ((ji10) / 4294967296))) * ((ji10) / 4294967296)))))))=some (r1,r2):=by (rw [hji15] at H;exact H)
      (try rw [hji15] at A7)
      have hji15_:(a1 / 2 ^ min (ji13).toNat 64)=ji15:=hji15
      have hji15z:(ji13)≤64→(a1 / 2 ^ (ji13).toNat)=ji15:=shr_small hji15
      have c16b0:=eq_true (of_decide_eq_true (by (with_reducible assumption)):0≤(ji8))
      obtain ⟨ji17,hji17⟩ : ∃ j_:Int,(shl .u64 a1 (ji8))=j_:=⟨_,rfl⟩
      replace H:(if ((ji10) / 4294967296)=0 then (none) else (bits_Div64.l0 k ji10 ji8 ((ji10) / 4294967296) (Go.bits .and .u64 (ji10) 4294967295) (Go.bits .or .u64 (ji12) (ji15)) ((ji17) / 4294967296) (Go.bits .and .u64 (ji17) 4294967295) (IntKind.u64.wrap (Int.tdiv (Go.bits .or .u64 (ji12) (ji15)) ((ji10) / 4294967296))) (IntKind.u64.wrap ((Go.bits .or .u64 (ji12) (ji15)) - (IntKind.u64.wrap ((IntKind.u64.wrap (Int.tdiv (Go.bits .or .u64 (ji12) (ji15)) ((ji10) / 4294967296))) * ((ji10) / 4294967296)))))))=some (r1,r2):=by (rw [hji17] at H;exact H)
      (try rw [hji17] at A7)
      have hji17_:(IntKind.u64.wrap (a1 * 2 ^ min (ji8).toNat 64))=ji17:=hji17
      have hji17z:(ji8)≤64→(IntKind.u64.wrap (a1 * 2 ^ (ji8).toNat))=ji17:=shl_small hji17
      by_cases c18:((ji10) / 4294967296)=0
      ·
       rw [if_pos c18] at H
       exact absurd H (by simp)
      ·
       rw [if_neg c18] at H
       have c18b0:(((ji10) / 4294967296) == 0)=φ:=beq_eq_false_iff_ne.mpr c18
       have c18b1:(((ji10) / 4294967296) != 0)=τ:=bne_iff_ne.mpr c18
       have HC19:=ζa H
       clear H
       go_enter Tryz.func200,Tryz.ntmps200
       go_upto_block 0 with ((go_at_call 213;(with_reducible refine (bits_LeadingZeros64.calls a2 t813 _ A7.out).mono ?_);rintro e w' ⟨rfl,⟨nd,rfl⟩⟩;(try fail)))
       repeat (go_quiet (fail);go_upto_block 0 with (fail))
       (try simp only [ζl,δa,δb,δc])
       go_cut [15] (fun v15 wc => ∃ (kq:Nat) (x15_18:Int),v15 = .int .u64 x15_18∧Aside0 (bits_Div64.j2 kq ji10 ji8 ((ji10) / 4294967296) (Go.bits .and .u64 (ji10) 4294967295) (Go.bits .or .u64 (ji12) (ji15)) ((ji17) / 4294967296) (Go.bits .and .u64 (ji17) 4294967295) x15_18=some (r1,r2))∧Aside0 (kq≤k)∧Drawn0 w wc)
       case first =>
        have H:=HC19.out
        clear HC19
        have H':=ζa H
        clear H
        go_wp2
        repeat (go_quiet (fail);try go_wp2)
        go_loopg [15,16] k (fun kq v15 v16 w' => ∃ (x15_1:Int) (x16_1:Int),v15 = .int .u64 x15_1∧v16 = .int .u64 x16_1∧Aside0 (bits_Div64.l0 kq ji10 ji8 ((ji10) / 4294967296) (Go.bits .and .u64 (ji10) 4294967295) (Go.bits .or .u64 (ji12) (ji15)) ((ji17) / 4294967296) (Go.bits .and .u64 (ji17) 4294967295) x15_1 x16_1=some (r1,r2))∧Aside0 (kq≤k)∧Drawn0 w w')
        case atStart=>exact ⟨(IntKind.u64.wrap (Int.tdiv (Go.bits .or .u64 (ji12) (ji15)) ((ji10) / 4294967296))),(IntKind.u64.wrap ((Go.bits .or .u64 (ji12) (ji15)) - (IntKind.u64.wrap ((IntKind.u64.wrap (Int.tdiv (Go.bits .or .u64 (ji12) (ji15)) ((ji10) / 4294967296))) * ((ji10) / 4294967296))))),(by rfl),(by rfl),H',⟨Nat.le_refl _⟩,by repeat (first|exact Drawn0.refl _|apply Drawn0.step)⟩
        case round =>
         clear H'
         try clear c1
         try clear c2
         try clear p2
         try clear c4
         try clear c4b0
         try clear c4b1
         try clear c5
         try clear c5b0
         try clear c6
         try clear c6b0
         try clear c6b1
         try clear c9
         try clear c9b0
         try clear c9b1
         try clear c11
         try clear c11b0
         try clear c14
         try clear c14b0
         try clear c14b1
         try clear c16
         try clear c16b0
         try clear c18
         try clear c18b0
         try clear c18b1
         obtain ⟨x15_1,x16_1,rfl,rfl,HA,HK1,⟨m1,rfl⟩⟩:=hrel
         cases gk with
         | zero=>exact absurd HA.out (by simp [bits_Div64.l0])
         | succ k1 =>
          have H:=HA.out
          clear HA
          simp only [bits_Div64.l0] at H
          have HC20:=ζa H
          clear H
          go_upto_region 17 with (fail)
          repeat (go_quiet (fail);go_upto_region 17 with (fail))
          go_cut [78] (fun v78 wc => ∃ (kq:Nat) (x78_19:Bool),v78 = .bool x78_19∧Aside0 (bits_Div64.j1 kq ji10 ji8 ((ji10) / 4294967296) (Go.bits .and .u64 (ji10) 4294967295) (Go.bits .or .u64 (ji12) (ji15)) ((ji17) / 4294967296) (Go.bits .and .u64 (ji17) 4294967295) x15_1 x16_1 x78_19=some (r1,r2))∧Aside0 (kq≤k1)∧Drawn0 w wc)
          case first =>
           have H:=HC20.out
           clear HC20
           by_cases c21:x15_1 ≥ 4294967296
           ·
            rw [if_pos c21] at H
            have c21b0:decide (4294967296≤x15_1)=τ:=decide_eq_true c21
            clear c21
            (skip)
            have H':=ζa H
            clear H
            go_wp2
            repeat (go_quiet (fail);try go_wp2)
            go_meet
            case rel=>exact ⟨_,(τ),(by rfl),H',⟨by have:=HK1.out;omega⟩,by repeat (first|exact Drawn0.refl _|apply Drawn0.step)⟩
           ·
            rw [if_neg c21] at H
            have c21b0:decide (4294967296≤x15_1)=φ:=decide_eq_false c21
            clear c21
            (skip)
            have H':=ζa H
            clear H
            go_wp2
            repeat (go_quiet (fail);try go_wp2)
            go_meet
            case rel=>exact ⟨_,(decide ((IntKind.u64.wrap (x15_1 * (Go.bits .and .u64 (ji10) 4294967295))) > (IntKind.u64.wrap ((IntKind.u64.wrap (4294967296 * x16_1))+((ji17) / 4294967296))))),(by rfl),H',⟨by have:=HK1.out;omega⟩,by repeat (first|exact Drawn0.refl _|apply Drawn0.step)⟩
          case rest =>
           clear HC20
           try clear c1
           try clear c2
           try clear p2
           try clear c4
           try clear c4b0
           try clear c4b1
           try clear c5
           try clear c5b0
           try clear c6
           try clear c6b0
           try clear c6b1
           try clear c9
           try clear c9b0
           try clear c9b1
           try clear c11
           try clear c11b0
           try clear c14
           try clear c14b0
           try clear c14b1
           try clear c16
           try clear c16b0
           try clear c18
           try clear c18b0
           try clear c18b1
           try clear c20
           try clear c21
           try clear c21b0
           try clear p2
           obtain ⟨kq,x78_19,rfl,HA,HJ19,⟨mc19,rfl⟩⟩:=hcut
           cases kq with
           | zero=>exact absurd HA.out (by simp [bits_Div64.j1])
           | succ kj19 =>
            have H:=HA.out
            clear HA
            simp only [bits_Div64.j1] at H
            by_cases c22:x78_19=τ
            ·
             subst c22
             have H1:(if (IntKind.u64.wrap (x16_1+((ji10) / 4294967296))) ≥ 4294967296 then (bits_Div64.j2 kj19 ji10 ji8 ((ji10) / 4294967296) (Go.bits .and .u64 (ji10) 4294967295) (Go.bits .or .u64 (ji12) (ji15)) ((ji17) / 4294967296) (Go.bits .and .u64 (ji17) 4294967295) (IntKind.u64.wrap (x15_1 - 1))) else (bits_Div64.l0 kj19 ji10 ji8 ((ji10) / 4294967296) (Go.bits .and .u64 (ji10) 4294967295) (Go.bits .or .u64 (ji12) (ji15)) ((ji17) / 4294967296) (Go.bits .and .u64 (ji17) 4294967295) (IntKind.u64.wrap (x15_1 - 1)) (IntKind.u64.wrap (x16_1+((ji10) / 4294967296)))))=some (r1,r2):=by rw [if_pos rfl] at H;exact H
             clear H
             have H:=H1
             clear H1
             by_cases c23:(IntKind.u64.wrap (x16_1+((ji10) / 4294967296))) ≥ 4294967296
             ·
              rw [if_pos c23] at H
              have c23b0:decide (4294967296≤(IntKind.u64.wrap (x16_1+((ji10) / 4294967296))))=τ:=decide_eq_true c23
              clear c23
              have H':=ζa H
              clear H
              go_wp2
              repeat (go_quiet (fail);try go_wp2)
              go_meet
              case rel=>exact ⟨_,(IntKind.u64.wrap (x15_1 - 1)),(by rfl),H',⟨by have:=HK1.out;have:=HJ19.out;omega⟩,by repeat (first|exact Drawn0.refl _|apply Drawn0.step)⟩
             ·
              rw [if_neg c23] at H
              have c23b0:decide (4294967296≤(IntKind.u64.wrap (x16_1+((ji10) / 4294967296))))=φ:=decide_eq_false c23
              clear c23
              have H':=ζa H
              clear H
              go_wp2
              repeat (go_quiet (fail);try go_wp2)
              go_roundg kj19
              case measure=>have:=HK1.out;have:=HJ19.out;omega
              case rel=>exact ⟨(IntKind.u64.wrap (x15_1 - 1)),(IntKind.u64.wrap (x16_1+((ji10) / 4294967296))),(by rfl),(by rfl),H',⟨by have:=HK1.out;have:=HJ19.out;omega⟩,by repeat (first|exact Drawn0.refl _|apply Drawn0.step)⟩
            ·
             replace c22:=Bool.eq_false_iff.mpr c22
             subst c22
             have H1:(bits_Div64.j2 kj19 ji10 ji8 ((ji10) / 4294967296) (Go.bits .and .u64 (ji10) 4294967295) (Go.bits .or .u64 (ji12) (ji15)) ((ji17) / 4294967296) (Go.bits .and .u64 (ji17) 4294967295) x15_1)=some (r1,r2):=by rw [if_neg (show ¬ (φ=τ) by decide)] at H;exact H
             clear H
             have H:=H1
             clear H1
             have H':=ζa H
             clear H
             go_wp2
             repeat (go_quiet (fail);try go_wp2)
             go_meet
             case rel=>exact ⟨_,(x15_1),(by rfl),H',⟨by have:=HK1.out;have:=HJ19.out;omega⟩,by repeat (first|exact Drawn0.refl _|apply Drawn0.step)⟩
       case rest =>
        clear HC19
        try clear c1
        try clear c2
        try clear p2
        try clear c4
        try clear c4b0
        try clear c4b1
        try clear c5
        try clear c5b0
        try clear c6
        try clear c6b0
        try clear c6b1
        try clear c9
        try clear c9b0
        try clear c9b1
        try clear c11
        try clear c11b0
        try clear c14
        try clear c14b0
        try clear c14b1
        try clear c16
        try clear c16b0
        try clear c18
        try clear c18b0
        try clear c18b1
        try clear c19
        try clear c20
        try clear c21
        try clear c21b0
        try clear c22
        try clear c23
        try clear c23b0
        try clear p2
        obtain ⟨kq,x15_18,rfl,HA,HJ18,⟨mc18,rfl⟩⟩:=hcut
        cases kq with
        | zero=>exact absurd HA.out (by simp [bits_Div64.j2])
        | succ kj18 =>
         have H:=HA.out
         clear HA
         simp only [bits_Div64.j2] at H
         by_cases c24:((ji10) / 4294967296)=0
         ·
          rw [if_pos c24] at H
          exact absurd H (by simp)
         ·
          rw [if_neg c24] at H
          have c24b0:(((ji10) / 4294967296) == 0)=φ:=beq_eq_false_iff_ne.mpr c24
          have c24b1:(((ji10) / 4294967296) != 0)=τ:=bne_iff_ne.mpr c24
          have H':=ζa H
          clear H
          go_wp2
          repeat (go_quiet (fail);try go_wp2)
          go_loopg [16,18] kj18 (fun kq v16 v18 w' => ∃ (x16_2:Int) (x18_2:Int),v16 = .int .u64 x16_2∧v18 = .int .u64 x18_2∧Aside0 (bits_Div64.l1 kq ji10 ji8 ((ji10) / 4294967296) (Go.bits .and .u64 (ji10) 4294967295) (Go.bits .and .u64 (ji17) 4294967295) x15_18 x16_2 (IntKind.u64.wrap ((IntKind.u64.wrap ((IntKind.u64.wrap ((Go.bits .or .u64 (ji12) (ji15)) * 4294967296))+((ji17) / 4294967296))) - (IntKind.u64.wrap (x15_18 * ji10)))) x18_2=some (r1,r2))∧Aside0 (kq≤kj18)∧Drawn0 w w')
          case atStart=>exact ⟨(IntKind.u64.wrap ((IntKind.u64.wrap ((IntKind.u64.wrap ((IntKind.u64.wrap ((Go.bits .or .u64 (ji12) (ji15)) * 4294967296))+((ji17) / 4294967296))) - (IntKind.u64.wrap (x15_18 * ji10)))) - (IntKind.u64.wrap ((IntKind.u64.wrap (Int.tdiv (IntKind.u64.wrap ((IntKind.u64.wrap ((IntKind.u64.wrap ((Go.bits .or .u64 (ji12) (ji15)) * 4294967296))+((ji17) / 4294967296))) - (IntKind.u64.wrap (x15_18 * ji10)))) ((ji10) / 4294967296))) * ((ji10) / 4294967296))))),(IntKind.u64.wrap (Int.tdiv (IntKind.u64.wrap ((IntKind.u64.wrap ((IntKind.u64.wrap ((Go.bits .or .u64 (ji12) (ji15)) * 4294967296))+((ji17) / 4294967296))) - (IntKind.u64.wrap (x15_18 * ji10)))) ((ji10) / 4294967296))),(by rfl),(by rfl),H',⟨Nat.le_refl _⟩,by repeat (first|exact Drawn0.refl _|apply Drawn0.step)⟩
          case round =>
           clear H'
           try clear c1
           try clear c2
           try clear p2
           try clear c4
           try clear c4b0
           try clear c4b1
           try clear c5
           try clear c5b0
           try clear c6
           try clear c6b0
           try clear c6b1
           try clear c9
           try clear c9b0
           try clear c9b1
           try clear c11
           try clear c11b0
           try clear c14
           try clear c14b0
           try clear c14b1
           try clear c16
           try clear c16b0
           try clear c18
           try clear c18b0
           try clear c18b1
           try clear c19
           try clear c20
           try clear c21
           try clear c21b0
           try clear c22
           try clear c23
           try clear c23b0
           try clear c24
           try clear c24b0
           try clear c24b1
           try clear p2
           obtain ⟨x16_2,x18_2,rfl,rfl,HA,HK2,⟨m2,rfl⟩⟩:=hrel
           cases gk with
           | zero=>exact absurd HA.out (by simp [bits_Div64.l1])
           | succ k2 =>
            have H:=HA.out
            clear HA
            simp only [bits_Div64.l1] at H
            have HC25:=ζa H
            clear H
            go_upto_region 24 with (fail)
            repeat (go_quiet (fail);go_upto_region 24 with (fail))
            go_cut [113] (fun v113 wc => ∃ (kq:Nat) (x113_24:Bool),v113 = .bool x113_24∧Aside0 (bits_Div64.j4 kq ji10 ji8 ((ji10) / 4294967296) (Go.bits .and .u64 (ji10) 4294967295) (Go.bits .and .u64 (ji17) 4294967295) x15_18 x16_2 (IntKind.u64.wrap ((IntKind.u64.wrap ((IntKind.u64.wrap ((Go.bits .or .u64 (ji12) (ji15)) * 4294967296))+((ji17) / 4294967296))) - (IntKind.u64.wrap (x15_18 * ji10)))) x18_2 x113_24=some (r1,r2))∧Aside0 (kq≤k2)∧Drawn0 w wc)
            case first =>
             have H:=HC25.out
             clear HC25
             by_cases c26:x18_2 ≥ 4294967296
             ·
              rw [if_pos c26] at H
              have c26b0:decide (4294967296≤x18_2)=τ:=decide_eq_true c26
              clear c26
              (skip)
              have H':=ζa H
              clear H
              go_wp2
              repeat (go_quiet (fail);try go_wp2)
              go_meet
              case rel=>exact ⟨_,(τ),(by rfl),H',⟨by have:=HJ18.out;have:=HK2.out;omega⟩,by repeat (first|exact Drawn0.refl _|apply Drawn0.step)⟩
             ·
              rw [if_neg c26] at H
              have c26b0:decide (4294967296≤x18_2)=φ:=decide_eq_false c26
              clear c26
              (skip)
              have H':=ζa H
              clear H
              go_wp2
              repeat (go_quiet (fail);try go_wp2)
              go_meet
              case rel=>exact ⟨_,(decide ((IntKind.u64.wrap (x18_2 * (Go.bits .and .u64 (ji10) 4294967295))) > (IntKind.u64.wrap ((IntKind.u64.wrap (4294967296 * x16_2))+(Go.bits .and .u64 (ji17) 4294967295))))),(by rfl),H',⟨by have:=HJ18.out;have:=HK2.out;omega⟩,by repeat (first|exact Drawn0.refl _|apply Drawn0.step)⟩
            case rest =>
             clear HC25
             try clear c1
             try clear c2
             try clear p2
             try clear c4
             try clear c4b0
             try clear c4b1
             try clear c5
             try clear c5b0
             try clear c6
             try clear c6b0
             try clear c6b1
             try clear c9
             try clear c9b0
             try clear c9b1
             try clear c11
             try clear c11b0
             try clear c14
             try clear c14b0
             try clear c14b1
             try clear c16
             try clear c16b0
             try clear c18
             try clear c18b0
             try clear c18b1
             try clear c19
             try clear c20
             try clear c21
             try clear c21b0
             try clear c22
             try clear c23
             try clear c23b0
             try clear c24
             try clear c24b0
             try clear c24b1
             try clear c26
             try clear c26b0
             try clear p2
             obtain ⟨kq,x113_24,rfl,HA,HJ24,⟨mc24,rfl⟩⟩:=hcut
             cases kq with
             | zero=>exact absurd HA.out (by simp [bits_Div64.j4])
             | succ kj24 =>
              have H:=HA.out
              clear HA
              simp only [bits_Div64.j4] at H
              by_cases c27:x113_24=τ
              ·
               subst c27
               have H1:(if (IntKind.u64.wrap (x16_2+((ji10) / 4294967296))) ≥ 4294967296 then (if 0≤ji8 then (some (IntKind.u64.wrap ((IntKind.u64.wrap (x15_18 * 4294967296))+(IntKind.u64.wrap (x18_2 - 1))),shr .u64 (IntKind.u64.wrap ((IntKind.u64.wrap ((IntKind.u64.wrap ((IntKind.u64.wrap ((IntKind.u64.wrap ((IntKind.u64.wrap ((Go.bits .or .u64 (ji12) (ji15)) * 4294967296))+((ji17) / 4294967296))) - (IntKind.u64.wrap (x15_18 * ji10)))) * 4294967296))+(Go.bits .and .u64 (ji17) 4294967295))) - (IntKind.u64.wrap ((IntKind.u64.wrap (x18_2 - 1)) * ji10)))) ji8)) else (none)) else (bits_Div64.l1 kj24 ji10 ji8 ((ji10) / 4294967296) (Go.bits .and .u64 (ji10) 4294967295) (Go.bits .and .u64 (ji17) 4294967295) x15_18 (IntKind.u64.wrap (x16_2+((ji10) / 4294967296))) (IntKind.u64.wrap ((IntKind.u64.wrap ((IntKind.u64.wrap ((Go.bits .or .u64 (ji12) (ji15)) * 4294967296))+((ji17) / 4294967296))) - (IntKind.u64.wrap (x15_18 * ji10)))) (IntKind.u64.wrap (x18_2 - 1))))=some (r1,r2):=by rw [if_pos rfl] at H;exact H
               clear H
               have H:=H1
               clear H1
               by_cases c28:(IntKind.u64.wrap (x16_2+((ji10) / 4294967296))) ≥ 4294967296
               ·
                rw [if_pos c28] at H
                have c28b0:decide (4294967296≤(IntKind.u64.wrap (x16_2+((ji10) / 4294967296))))=τ:=decide_eq_true c28
                clear c28
                by_cases c29:0≤ji8
                ·
                 rw [if_pos c29] at H
                 have c29b0:=eq_true c29
                 have c29b1:decide (0≤ji8)=τ:=decide_eq_true c29
                 clear c29
                 obtain ⟨ji30,hji30⟩ : ∃ j_:Int,(shr .u64 (IntKind.u64.wrap ((IntKind.u64.wrap ((IntKind.u64.wrap ((IntKind.u64.wrap ((IntKind.u64.wrap ((IntKind.u64.wrap ((Go.bits .or .u64 (ji12) (ji15)) * 4294967296))+((ji17) / 4294967296))) - (IntKind.u64.wrap (x15_18 * ji10)))) * 4294967296))+(Go.bits .and .u64 (ji17) 4294967295))) - (IntKind.u64.wrap ((IntKind.u64.wrap (x18_2 - 1)) * ji10)))) ji8)=j_:=⟨_,rfl⟩
                 replace H:(some (IntKind.u64.wrap ((IntKind.u64.wrap (x15_18 * 4294967296))+(IntKind.u64.wrap (x18_2 - 1))),ji30))=some (r1,r2):=by (rw [hji30] at H;exact H)
                 have hji30_:((IntKind.u64.wrap ((IntKind.u64.wrap ((IntKind.u64.wrap ((IntKind.u64.wrap ((IntKind.u64.wrap ((IntKind.u64.wrap ((Go.bits .or .u64 (ji12) (ji15)) * 4294967296))+((ji17) / 4294967296))) - (IntKind.u64.wrap (x15_18 * ji10)))) * 4294967296))+(Go.bits .and .u64 (ji17) 4294967295))) - (IntKind.u64.wrap ((IntKind.u64.wrap (x18_2 - 1)) * ji10)))) / 2 ^ min ji8.toNat 64)=ji30:=hji30
                 have hji30z:ji8≤64→((IntKind.u64.wrap ((IntKind.u64.wrap ((IntKind.u64.wrap ((IntKind.u64.wrap ((IntKind.u64.wrap ((IntKind.u64.wrap ((Go.bits .or .u64 (ji12) (ji15)) * 4294967296))+((ji17) / 4294967296))) - (IntKind.u64.wrap (x15_18 * ji10)))) * 4294967296))+(Go.bits .and .u64 (ji17) 4294967295))) - (IntKind.u64.wrap ((IntKind.u64.wrap (x18_2 - 1)) * ji10)))) / 2 ^ ji8.toNat)=ji30:=shr_small hji30
                 simp only [Option.some.injEq,Prod.mk.injEq] at H
                 obtain ⟨rfl,rfl⟩:=H
                 go_wp2
                 repeat (go_quiet (fail);try go_wp2)
                 go_ret2
                 exact ⟨by rfl,by repeat (first|exact Drawn0.refl _|apply Drawn0.step)⟩
                ·
                 rw [if_neg c29] at H
                 exact absurd H (by simp)
               ·
                rw [if_neg c28] at H
                have c28b0:decide (4294967296≤(IntKind.u64.wrap (x16_2+((ji10) / 4294967296))))=φ:=decide_eq_false c28
                clear c28
                have H':=ζa H
                clear H
                go_wp2
                repeat (go_quiet (fail);try go_wp2)
                go_roundg kj24
                case measure=>have:=HJ18.out;have:=HK2.out;have:=HJ24.out;omega
                case rel=>exact ⟨(IntKind.u64.wrap (x16_2+((ji10) / 4294967296))),(IntKind.u64.wrap (x18_2 - 1)),(by rfl),(by rfl),H',⟨by have:=HJ18.out;have:=HK2.out;have:=HJ24.out;omega⟩,by repeat (first|exact Drawn0.refl _|apply Drawn0.step)⟩
              ·
               replace c27:=Bool.eq_false_iff.mpr c27
               subst c27
               have H1:(if 0≤ji8 then (some (IntKind.u64.wrap ((IntKind.u64.wrap (x15_18 * 4294967296))+x18_2),shr .u64 (IntKind.u64.wrap ((IntKind.u64.wrap ((IntKind.u64.wrap ((IntKind.u64.wrap ((IntKind.u64.wrap ((IntKind.u64.wrap ((Go.bits .or .u64 (ji12) (ji15)) * 4294967296))+((ji17) / 4294967296))) - (IntKind.u64.wrap (x15_18 * ji10)))) * 4294967296))+(Go.bits .and .u64 (ji17) 4294967295))) - (IntKind.u64.wrap (x18_2 * ji10)))) ji8)) else (none))=some (r1,r2):=by rw [if_neg (show ¬ (φ=τ) by decide)] at H;exact H
               clear H
               have H:=H1
               clear H1
               by_cases c31:0≤ji8
               ·
                rw [if_pos c31] at H
                have c31b0:=eq_true c31
                have c31b1:decide (0≤ji8)=τ:=decide_eq_true c31
                clear c31
                obtain ⟨ji32,hji32⟩ : ∃ j_:Int,(shr .u64 (IntKind.u64.wrap ((IntKind.u64.wrap ((IntKind.u64.wrap ((IntKind.u64.wrap ((IntKind.u64.wrap ((IntKind.u64.wrap ((Go.bits .or .u64 (ji12) (ji15)) * 4294967296))+((ji17) / 4294967296))) - (IntKind.u64.wrap (x15_18 * ji10)))) * 4294967296))+(Go.bits .and .u64 (ji17) 4294967295))) - (IntKind.u64.wrap (x18_2 * ji10)))) ji8)=j_:=⟨_,rfl⟩
                replace H:(some (IntKind.u64.wrap ((IntKind.u64.wrap (x15_18 * 4294967296))+x18_2),ji32))=some (r1,r2):=by (rw [hji32] at H;exact H)
                have hji32_:((IntKind.u64.wrap ((IntKind.u64.wrap ((IntKind.u64.wrap ((IntKind.u64.wrap ((IntKind.u64.wrap ((IntKind.u64.wrap ((Go.bits .or .u64 (ji12) (ji15)) * 4294967296))+((ji17) / 4294967296))) - (IntKind.u64.wrap (x15_18 * ji10)))) * 4294967296))+(Go.bits .and .u64 (ji17) 4294967295))) - (IntKind.u64.wrap (x18_2 * ji10)))) / 2 ^ min ji8.toNat 64)=ji32:=hji32
                have hji32z:ji8≤64→((IntKind.u64.wrap ((IntKind.u64.wrap ((IntKind.u64.wrap ((IntKind.u64.wrap ((IntKind.u64.wrap ((IntKind.u64.wrap ((Go.bits .or .u64 (ji12) (ji15)) * 4294967296))+((ji17) / 4294967296))) - (IntKind.u64.wrap (x15_18 * ji10)))) * 4294967296))+(Go.bits .and .u64 (ji17) 4294967295))) - (IntKind.u64.wrap (x18_2 * ji10)))) / 2 ^ ji8.toNat)=ji32:=shr_small hji32
                simp only [Option.some.injEq,Prod.mk.injEq] at H
                obtain ⟨rfl,rfl⟩:=H
                go_wp2
                repeat (go_quiet (fail);try go_wp2)
                go_ret2
                exact ⟨by rfl,by repeat (first|exact Drawn0.refl _|apply Drawn0.step)⟩
               ·
                rw [if_neg c31] at H
                exact absurd H (by simp)
     ·
      rw [if_neg c14] at H
      exact absurd H (by simp)
    ·
     rw [if_neg c9] at H
     exact absurd H (by simp)



/-! ### impl_MulDiv: function 172 -/
def impl_MulDiv.j0:Nat→Int→Int→Int→Bool→Option (Int × Int)
 | 0,_,_,_,_=>none
 | k+1,x0,x1,x2,x24=>if x24=τ then (some (0,4)) else ((bits_Mul64.f (IntKind.u64.wrap (x0)) (IntKind.u64.wrap (x1))).bind fun bt817=>(if bt817.1 ≥ (IntKind.u64.wrap (x2)) then (some (0,13)) else ((bits_Div64.f k bt817.1 bt817.2 (IntKind.u64.wrap (x2))).bind fun bt819=>(if bt819.1 > 1000000000000000000 then (some (0,13)) else (some (ζm (bt819.1),0))))))
def impl_MulDiv.f (k:Nat) (a0:Int) (a1:Int) (a2:Int):Option (Int × Int):=(impl_isAmount.f a0).bind fun t814=>(if t814=τ then ((impl_isAmount.f a1).bind fun t815=>(if t815=τ then ((impl_isSome.f a2).bind fun t816=>(impl_MulDiv.j0 k a0 a1 a2 (!t816))) else (impl_MulDiv.j0 k a0 a1 a2 τ))) else (impl_MulDiv.j0 k a0 a1 a2 τ))
set_option maxHeartbeats 8000000 in
set_option maxRecDepth 100000 in
theorem impl_MulDiv.calls (k:Nat) (a0:Int) (a1:Int) (a2:Int) (r1:Int) (r2:Int) (w:World) (h:impl_MulDiv.f k a0 a1 a2=some (r1,r2)) :
  Calls Tryz.prog 172 #[.int .i64 a0,.int .i64 a1,.int .i64 a2] w fun e w'=>e = .returned (.tuple #[.int .i64 r1,.int .i64 r2])∧Drawn0 w w':=by
 have H:((impl_isAmount.f a0).bind fun t814=>(if t814=τ then ((impl_isAmount.f a1).bind fun t815=>(if t815=τ then ((impl_isSome.f a2).bind fun t816=>(impl_MulDiv.j0 k a0 a1 a2 (!t816))) else (impl_MulDiv.j0 k a0 a1 a2 τ))) else (impl_MulDiv.j0 k a0 a1 a2 τ)))=some (r1,r2):=h
 clear h
 have HC4:=ζa H
 clear H
 go_enter Tryz.func172,Tryz.ntmps172
 go_upto_region 1 with (fail)
 go_cut [24] (fun v24 wc => ∃ (kq:Nat) (x24_3:Bool),v24 = .bool x24_3∧Aside0 (impl_MulDiv.j0 kq a0 a1 a2 x24_3=some (r1,r2))∧Aside0 (kq≤k)∧Drawn0 w wc)
 case first =>
  have H:=HC4.out
  clear HC4
  replace H:=Option.bind_eq_some_iff.mp H
  obtain ⟨t814,A50,H⟩:=H
  replace H:(if t814=τ then ((impl_isAmount.f a1).bind fun t815=>(if t815=τ then ((impl_isSome.f a2).bind fun t816=>(impl_MulDiv.j0 k a0 a1 a2 (!t816))) else (impl_MulDiv.j0 k a0 a1 a2 τ))) else (impl_MulDiv.j0 k a0 a1 a2 τ))=some (r1,r2):=H
  have A5:=ζa A50
  clear A50
  by_cases c6:t814=τ
  ·
   subst c6
   have H1:((impl_isAmount.f a1).bind fun t815=>(if t815=τ then ((impl_isSome.f a2).bind fun t816=>(impl_MulDiv.j0 k a0 a1 a2 (!t816))) else (impl_MulDiv.j0 k a0 a1 a2 τ)))=some (r1,r2):=by rw [if_pos rfl] at H;exact H
   clear H
   have H:=H1
   clear H1
   replace H:=Option.bind_eq_some_iff.mp H
   obtain ⟨t815,A70,H⟩:=H
   replace H:(if t815=τ then ((impl_isSome.f a2).bind fun t816=>(impl_MulDiv.j0 k a0 a1 a2 (!t816))) else (impl_MulDiv.j0 k a0 a1 a2 τ))=some (r1,r2):=H
   have A7:=ζa A70
   clear A70
   by_cases c8:t815=τ
   ·
    subst c8
    have H1:((impl_isSome.f a2).bind fun t816=>(impl_MulDiv.j0 k a0 a1 a2 (!t816)))=some (r1,r2):=by rw [if_pos rfl] at H;exact H
    clear H
    have H:=H1
    clear H1
    replace H:=Option.bind_eq_some_iff.mp H
    obtain ⟨t816,A90,H⟩:=H
    replace H:(impl_MulDiv.j0 k a0 a1 a2 (!t816))=some (r1,r2):=H
    have A9:=ζa A90
    clear A90
    have H':=ζa H
    clear H
    go_wp2_with (first|((with_reducible refine δv (f:=128) rfl ?_);refine goesL_ (some 13) rfl rfl Tryz.func128 (by kernel_rfl) rfl #[.int .i64 a0] rfl (by (try simp only [δd,δe,δf]);rfl) ?_;(with_reducible refine (impl_isAmount.calls a0 τ _ A5.out).mono ?_);rintro e w' ⟨rfl,⟨nd,rfl⟩⟩;refine ⟨_,rfl,?_⟩)|(go_at_call 128;(with_reducible refine (impl_isAmount.calls a1 τ _ A7.out).mono ?_);rintro e w' ⟨rfl,⟨nd,rfl⟩⟩)|(go_at_call 122;(with_reducible refine (impl_isSome.calls a2 t816 _ A9.out).mono ?_);rintro e w' ⟨rfl,⟨nd,rfl⟩⟩))
    go_meet
    case rel=>exact ⟨_,(!t816),(by rfl),H',⟨by omega⟩,by repeat (first|exact Drawn0.refl _|apply Drawn0.step)⟩
   ·
    replace c8:=Bool.eq_false_iff.mpr c8
    subst c8
    have H1:(impl_MulDiv.j0 k a0 a1 a2 τ)=some (r1,r2):=by rw [if_neg (show ¬ (φ=τ) by decide)] at H;exact H
    clear H
    have H:=H1
    clear H1
    have H':=ζa H
    clear H
    go_wp2_with (first|((with_reducible refine δv (f:=128) rfl ?_);refine goesL_ (some 13) rfl rfl Tryz.func128 (by kernel_rfl) rfl #[.int .i64 a0] rfl (by (try simp only [δd,δe,δf]);rfl) ?_;(with_reducible refine (impl_isAmount.calls a0 τ _ A5.out).mono ?_);rintro e w' ⟨rfl,⟨nd,rfl⟩⟩;refine ⟨_,rfl,?_⟩)|(go_at_call 128;(with_reducible refine (impl_isAmount.calls a1 φ _ A7.out).mono ?_);rintro e w' ⟨rfl,⟨nd,rfl⟩⟩))
    go_meet
    case rel=>exact ⟨_,(τ),(by rfl),H',⟨by omega⟩,by repeat (first|exact Drawn0.refl _|apply Drawn0.step)⟩
  ·
   replace c6:=Bool.eq_false_iff.mpr c6
   subst c6
   have H1:(impl_MulDiv.j0 k a0 a1 a2 τ)=some (r1,r2):=by rw [if_neg (show ¬ (φ=τ) by decide)] at H;exact H
   clear H
   have H:=H1
   clear H1
   have H':=ζa H
   clear H
   go_wp2_with (((with_reducible refine δv (f:=128) rfl ?_);refine goesL_ (some 13) rfl rfl Tryz.func128 (by kernel_rfl) rfl #[.int .i64 a0] rfl (by (try simp only [δd,δe,δf]);rfl) ?_;(with_reducible refine (impl_isAmount.calls a0 φ _ A5.out).mono ?_);rintro e w' ⟨rfl,⟨nd,rfl⟩⟩;refine ⟨_,rfl,?_⟩))
   go_meet
   case rel=>exact ⟨_,(τ),(by rfl),H',⟨by omega⟩,by repeat (first|exact Drawn0.refl _|apply Drawn0.step)⟩
 case rest =>
  clear HC4
  try clear c1
  try clear p2
  try clear c6
  try clear c8
  obtain ⟨kq,x24_3,rfl,HA,HJ3,⟨mc3,rfl⟩⟩:=hcut
  cases kq with
  | zero=>exact absurd HA.out (by simp [impl_MulDiv.j0])
  | succ kj3 =>
   have H:=HA.out
   clear HA
   simp only [impl_MulDiv.j0] at H
   by_cases c10:x24_3=τ
   ·
    subst c10
    have H1:(some (0,4))=some (r1,r2):=by rw [if_pos rfl] at H;exact H
    clear H
    have H:=H1
    clear H1
    simp only [Option.some.injEq,Prod.mk.injEq] at H
    obtain ⟨rfl,rfl⟩:=H
    go_wp2
    go_ret2
    exact ⟨by rfl,by repeat (first|exact Drawn0.refl _|apply Drawn0.step)⟩
   ·
    replace c10:=Bool.eq_false_iff.mpr c10
    subst c10
    have H1:((bits_Mul64.f (IntKind.u64.wrap (a0)) (IntKind.u64.wrap (a1))).bind fun bt817=>(if bt817.1 ≥ (IntKind.u64.wrap (a2)) then (some (0,13)) else ((bits_Div64.f kj3 bt817.1 bt817.2 (IntKind.u64.wrap (a2))).bind fun bt819=>(if bt819.1 > 1000000000000000000 then (some (0,13)) else (some (ζm (bt819.1),0))))))=some (r1,r2):=by rw [if_neg (show ¬ (φ=τ) by decide)] at H;exact H
    clear H
    have H:=H1
    clear H1
    replace H:=Option.bind_eq_some_iff.mp H
    obtain ⟨⟨t817,t818⟩,A110,H⟩:=H
    replace H:(if t817 ≥ (IntKind.u64.wrap (a2)) then (some (0,13)) else ((bits_Div64.f kj3 t817 t818 (IntKind.u64.wrap (a2))).bind fun bt819=>(if bt819.1 > 1000000000000000000 then (some (0,13)) else (some (ζm (bt819.1),0)))))=some (r1,r2):=H
    have A11:=ζa A110
    clear A110
    by_cases c12:t817 ≥ (IntKind.u64.wrap (a2))
    ·
     rw [if_pos c12] at H
     have c12b0:decide ((IntKind.u64.wrap (a2))≤t817)=τ:=decide_eq_true c12
     clear c12
     simp only [Option.some.injEq,Prod.mk.injEq] at H
     obtain ⟨rfl,rfl⟩:=H
     go_wp2_with (((with_reducible refine δv (f:=199) rfl ?_);refine goesL_ (some 30) rfl rfl Tryz.func199 (by kernel_rfl) rfl #[.int .u64 (IntKind.u64.wrap (a0)),.int .u64 (IntKind.u64.wrap (a1))] rfl (by (try simp only [δd,δe,δf]);rfl) ?_;(with_reducible refine (bits_Mul64.calls (IntKind.u64.wrap (a0)) (IntKind.u64.wrap (a1)) t817 t818 _ A11.out).mono ?_);rintro e w' ⟨rfl,⟨nd,rfl⟩⟩;refine ⟨_,rfl,?_⟩))
     go_ret2
     exact ⟨by rfl,by repeat (first|exact Drawn0.refl _|apply Drawn0.step)⟩
    ·
     rw [if_neg c12] at H
     have c12b0:decide ((IntKind.u64.wrap (a2))≤t817)=φ:=decide_eq_false c12
     clear c12
     replace H:=Option.bind_eq_some_iff.mp H
     obtain ⟨⟨t819,t820⟩,A130,H⟩:=H
     replace H:(if t819 > 1000000000000000000 then (some (0,13)) else (some (ζm (t819),0)))=some (r1,r2):=H
     have A13:=ζa A130
     clear A130
     by_cases c14:t819 > 1000000000000000000
     ·
      rw [if_pos c14] at H
      have c14b0:decide (1000000000000000000<t819)=τ:=decide_eq_true c14
      clear c14
      simp only [Option.some.injEq,Prod.mk.injEq] at H
      obtain ⟨rfl,rfl⟩:=H
      go_wp2_with (first|((with_reducible refine δv (f:=199) rfl ?_);refine goesL_ (some 30) rfl rfl Tryz.func199 (by kernel_rfl) rfl #[.int .u64 (IntKind.u64.wrap (a0)),.int .u64 (IntKind.u64.wrap (a1))] rfl (by (try simp only [δd,δe,δf]);rfl) ?_;(with_reducible refine (bits_Mul64.calls (IntKind.u64.wrap (a0)) (IntKind.u64.wrap (a1)) t817 t818 _ A11.out).mono ?_);rintro e w' ⟨rfl,⟨nd,rfl⟩⟩;refine ⟨_,rfl,?_⟩)|((with_reducible refine δv (f:=200) rfl ?_);refine goesL_ (some 42) rfl rfl Tryz.func200 (by kernel_rfl) rfl #[.int .u64 t817,.int .u64 t818,.int .u64 (IntKind.u64.wrap (a2))] rfl (by (try simp only [δd,δe,δf]);rfl) ?_;(with_reducible refine (bits_Div64.calls kj3 t817 t818 (IntKind.u64.wrap (a2)) t819 t820 _ A13.out).mono ?_);rintro e w' ⟨rfl,⟨nd,rfl⟩⟩;refine ⟨_,rfl,?_⟩))
      go_ret2
      exact ⟨by rfl,by repeat (first|exact Drawn0.refl _|apply Drawn0.step)⟩
     ·
      rw [if_neg c14] at H
      have c14b0:decide (1000000000000000000<t819)=φ:=decide_eq_false c14
      clear c14
      simp only [Option.some.injEq,Prod.mk.injEq] at H
      obtain ⟨rfl,rfl⟩:=H
      go_wp2_with (first|((with_reducible refine δv (f:=199) rfl ?_);refine goesL_ (some 30) rfl rfl Tryz.func199 (by kernel_rfl) rfl #[.int .u64 (IntKind.u64.wrap (a0)),.int .u64 (IntKind.u64.wrap (a1))] rfl (by (try simp only [δd,δe,δf]);rfl) ?_;(with_reducible refine (bits_Mul64.calls (IntKind.u64.wrap (a0)) (IntKind.u64.wrap (a1)) t817 t818 _ A11.out).mono ?_);rintro e w' ⟨rfl,⟨nd,rfl⟩⟩;refine ⟨_,rfl,?_⟩)|((with_reducible refine δv (f:=200) rfl ?_);refine goesL_ (some 42) rfl rfl Tryz.func200 (by kernel_rfl) rfl #[.int .u64 t817,.int .u64 t818,.int .u64 (IntKind.u64.wrap (a2))] rfl (by (try simp only [δd,δe,δf]);rfl) ?_;(with_reducible refine (bits_Div64.calls kj3 t817 t818 (IntKind.u64.wrap (a2)) t819 t820 _ A13.out).mono ?_);rintro e w' ⟨rfl,⟨nd,rfl⟩⟩;refine ⟨_,rfl,?_⟩))
      go_ret2
      exact ⟨by rfl,by repeat (first|exact Drawn0.refl _|apply Drawn0.step)⟩



/-! ### impl_QuoteSwap: function 129 -/
def impl_QuoteSwap.j0:Nat→Int→Int→Int→Bool→Option (Int × Int)
 | 0,_,_,_,_=>none
 | k+1,x0,x1,x2,x12=>if x12=τ then (some (0,4)) else (if (ζm (x0+x2)) > 1000000000000000000 then (some (0,13)) else ((impl_MulDiv.f k x2 997 1000).bind fun bt984=>((impl_MulDiv.f k x1 bt984.1 (ζm (x0+bt984.1))).bind fun bt986=>(if bt986.1=0 then (some (0,17)) else (some (bt986.1,0))))))
def impl_QuoteSwap.f (k:Nat) (a0:Int) (a1:Int) (a2:Int):Option (Int × Int):=(impl_isSome.f a0).bind fun t981=>(if t981=τ then ((impl_isSome.f a1).bind fun t982=>(if t982=τ then ((impl_isSome.f a2).bind fun t983=>(impl_QuoteSwap.j0 k a0 a1 a2 (!t983))) else (impl_QuoteSwap.j0 k a0 a1 a2 τ))) else (impl_QuoteSwap.j0 k a0 a1 a2 τ))
set_option maxHeartbeats 8000000 in
set_option maxRecDepth 100000 in
theorem impl_QuoteSwap.calls (k:Nat) (a0:Int) (a1:Int) (a2:Int) (r1:Int) (r2:Int) (w:World) (h:impl_QuoteSwap.f k a0 a1 a2=some (r1,r2)) :
  Calls Tryz.prog 129 #[.int .i64 a0,.int .i64 a1,.int .i64 a2] w fun e w'=>e = .returned (.tuple #[.int .i64 r1,.int .i64 r2])∧Drawn0 w w':=by
 have H:((impl_isSome.f a0).bind fun t981=>(if t981=τ then ((impl_isSome.f a1).bind fun t982=>(if t982=τ then ((impl_isSome.f a2).bind fun t983=>(impl_QuoteSwap.j0 k a0 a1 a2 (!t983))) else (impl_QuoteSwap.j0 k a0 a1 a2 τ))) else (impl_QuoteSwap.j0 k a0 a1 a2 τ)))=some (r1,r2):=h
 clear h
 have HC4:=ζa H
 clear H
 go_enter Tryz.func129,Tryz.ntmps129
 go_upto_region 1 with (fail)
 go_cut [12] (fun v12 wc => ∃ (kq:Nat) (x12_3:Bool),v12 = .bool x12_3∧Aside0 (impl_QuoteSwap.j0 kq a0 a1 a2 x12_3=some (r1,r2))∧Aside0 (kq≤k)∧Drawn0 w wc)
 case first =>
  have H:=HC4.out
  clear HC4
  replace H:=Option.bind_eq_some_iff.mp H
  obtain ⟨t981,A50,H⟩:=H
  replace H:(if t981=τ then ((impl_isSome.f a1).bind fun t982=>(if t982=τ then ((impl_isSome.f a2).bind fun t983=>(impl_QuoteSwap.j0 k a0 a1 a2 (!t983))) else (impl_QuoteSwap.j0 k a0 a1 a2 τ))) else (impl_QuoteSwap.j0 k a0 a1 a2 τ))=some (r1,r2):=H
  have A5:=ζa A50
  clear A50
  by_cases c6:t981=τ
  ·
   subst c6
   have H1:((impl_isSome.f a1).bind fun t982=>(if t982=τ then ((impl_isSome.f a2).bind fun t983=>(impl_QuoteSwap.j0 k a0 a1 a2 (!t983))) else (impl_QuoteSwap.j0 k a0 a1 a2 τ)))=some (r1,r2):=by rw [if_pos rfl] at H;exact H
   clear H
   have H:=H1
   clear H1
   replace H:=Option.bind_eq_some_iff.mp H
   obtain ⟨t982,A70,H⟩:=H
   replace H:(if t982=τ then ((impl_isSome.f a2).bind fun t983=>(impl_QuoteSwap.j0 k a0 a1 a2 (!t983))) else (impl_QuoteSwap.j0 k a0 a1 a2 τ))=some (r1,r2):=H
   have A7:=ζa A70
   clear A70
   by_cases c8:t982=τ
   ·
    subst c8
    have H1:((impl_isSome.f a2).bind fun t983=>(impl_QuoteSwap.j0 k a0 a1 a2 (!t983)))=some (r1,r2):=by rw [if_pos rfl] at H;exact H
    clear H
    have H:=H1
    clear H1
    replace H:=Option.bind_eq_some_iff.mp H
    obtain ⟨t983,A90,H⟩:=H
    replace H:(impl_QuoteSwap.j0 k a0 a1 a2 (!t983))=some (r1,r2):=H
    have A9:=ζa A90
    clear A90
    have H':=ζa H
    clear H
    go_wp2_with (first|((with_reducible refine δv (f:=122) rfl ?_);refine goesL_ (some 14) rfl rfl Tryz.func122 (by kernel_rfl) rfl #[.int .i64 a0] rfl (by (try simp only [δd,δe,δf]);rfl) ?_;(with_reducible refine (impl_isSome.calls a0 τ _ A5.out).mono ?_);rintro e w' ⟨rfl,⟨nd,rfl⟩⟩;refine ⟨_,rfl,?_⟩)|(go_at_call 122;(with_reducible refine (impl_isSome.calls a1 τ _ A7.out).mono ?_);rintro e w' ⟨rfl,⟨nd,rfl⟩⟩)|(go_at_call 122;(with_reducible refine (impl_isSome.calls a2 t983 _ A9.out).mono ?_);rintro e w' ⟨rfl,⟨nd,rfl⟩⟩))
    go_meet
    case rel=>exact ⟨_,(!t983),(by rfl),H',⟨by omega⟩,by repeat (first|exact Drawn0.refl _|apply Drawn0.step)⟩
   ·
    replace c8:=Bool.eq_false_iff.mpr c8
    subst c8
    have H1:(impl_QuoteSwap.j0 k a0 a1 a2 τ)=some (r1,r2):=by rw [if_neg (show ¬ (φ=τ) by decide)] at H;exact H
    clear H
    have H:=H1
    clear H1
    have H':=ζa H
    clear H
    go_wp2_with (first|((with_reducible refine δv (f:=122) rfl ?_);refine goesL_ (some 14) rfl rfl Tryz.func122 (by kernel_rfl) rfl #[.int .i64 a0] rfl (by (try simp only [δd,δe,δf]);rfl) ?_;(with_reducible refine (impl_isSome.calls a0 τ _ A5.out).mono ?_);rintro e w' ⟨rfl,⟨nd,rfl⟩⟩;refine ⟨_,rfl,?_⟩)|(go_at_call 122;(with_reducible refine (impl_isSome.calls a1 φ _ A7.out).mono ?_);rintro e w' ⟨rfl,⟨nd,rfl⟩⟩))
    go_meet
    case rel=>exact ⟨_,(τ),(by rfl),H',⟨by omega⟩,by repeat (first|exact Drawn0.refl _|apply Drawn0.step)⟩
  ·
   replace c6:=Bool.eq_false_iff.mpr c6
   subst c6
   have H1:(impl_QuoteSwap.j0 k a0 a1 a2 τ)=some (r1,r2):=by rw [if_neg (show ¬ (φ=τ) by decide)] at H;exact H
   clear H
   have H:=H1
   clear H1
   have H':=ζa H
   clear H
   go_wp2_with (((with_reducible refine δv (f:=122) rfl ?_);refine goesL_ (some 14) rfl rfl Tryz.func122 (by kernel_rfl) rfl #[.int .i64 a0] rfl (by (try simp only [δd,δe,δf]);rfl) ?_;(with_reducible refine (impl_isSome.calls a0 φ _ A5.out).mono ?_);rintro e w' ⟨rfl,⟨nd,rfl⟩⟩;refine ⟨_,rfl,?_⟩))
   go_meet
   case rel=>exact ⟨_,(τ),(by rfl),H',⟨by omega⟩,by repeat (first|exact Drawn0.refl _|apply Drawn0.step)⟩
 case rest =>
  clear HC4
  try clear c1
  try clear p2
  try clear c6
  try clear c8
  obtain ⟨kq,x12_3,rfl,HA,HJ3,⟨mc3,rfl⟩⟩:=hcut
  cases kq with
  | zero=>exact absurd HA.out (by simp [impl_QuoteSwap.j0])
  | succ kj3 =>
   have H:=HA.out
   clear HA
   simp only [impl_QuoteSwap.j0] at H
   by_cases c10:x12_3=τ
   ·
    subst c10
    have H1:(some (0,4))=some (r1,r2):=by rw [if_pos rfl] at H;exact H
    clear H
    have H:=H1
    clear H1
    simp only [Option.some.injEq,Prod.mk.injEq] at H
    obtain ⟨rfl,rfl⟩:=H
    go_wp2
    go_ret2
    exact ⟨by rfl,by repeat (first|exact Drawn0.refl _|apply Drawn0.step)⟩
   ·
    replace c10:=Bool.eq_false_iff.mpr c10
    subst c10
    have H1:(if (ζm (a0+a2)) > 1000000000000000000 then (some (0,13)) else ((impl_MulDiv.f kj3 a2 997 1000).bind fun bt984=>((impl_MulDiv.f kj3 a1 bt984.1 (ζm (a0+bt984.1))).bind fun bt986=>(if bt986.1=0 then (some (0,17)) else (some (bt986.1,0))))))=some (r1,r2):=by rw [if_neg (show ¬ (φ=τ) by decide)] at H;exact H
    clear H
    have H:=H1
    clear H1
    by_cases c11:(ζm (a0+a2)) > 1000000000000000000
    ·
     rw [if_pos c11] at H
     have c11b0:decide (1000000000000000000<(ζm (a0+a2)))=τ:=decide_eq_true c11
     clear c11
     simp only [Option.some.injEq,Prod.mk.injEq] at H
     obtain ⟨rfl,rfl⟩:=H
     go_wp2
     go_ret2
     exact ⟨by rfl,by repeat (first|exact Drawn0.refl _|apply Drawn0.step)⟩
    ·
     rw [if_neg c11] at H
     have c11b0:decide (1000000000000000000<(ζm (a0+a2)))=φ:=decide_eq_false c11
     clear c11
     replace H:=Option.bind_eq_some_iff.mp H
     obtain ⟨⟨t984,t985⟩,A120,H⟩:=H
     replace H:((impl_MulDiv.f kj3 a1 t984 (ζm (a0+t984))).bind fun bt986=>(if bt986.1=0 then (some (0,17)) else (some (bt986.1,0))))=some (r1,r2):=H
     have A12:=ζa A120
     clear A120
     replace H:=Option.bind_eq_some_iff.mp H
     obtain ⟨⟨t986,t987⟩,A130,H⟩:=H
     replace H:(if t986=0 then (some (0,17)) else (some (t986,0)))=some (r1,r2):=H
     have A13:=ζa A130
     clear A130
     by_cases c14:t986=0
     ·
      rw [if_pos c14] at H
      have c14b0:(t986 == 0)=τ:=beq_iff_eq.mpr c14
      have c14b1:(t986 != 0)=φ:=bne_eq_false_iff_eq.mpr c14
      clear c14
      simp only [Option.some.injEq,Prod.mk.injEq] at H
      obtain ⟨rfl,rfl⟩:=H
      go_wp2_with (first|((with_reducible refine δv (f:=172) rfl ?_);refine goesL_ (some 33) rfl rfl Tryz.func172 (by kernel_rfl) rfl #[.int .i64 a2,.int .i64 997,.int .i64 1000] rfl (by (try simp only [δd,δe,δf]);rfl) ?_;(with_reducible refine (impl_MulDiv.calls kj3 a2 997 1000 t984 t985 _ A12.out).mono ?_);rintro e w' ⟨rfl,⟨nd,rfl⟩⟩;refine ⟨_,rfl,?_⟩)|((with_reducible refine δv (f:=172) rfl ?_);refine goesL_ (some 42) rfl rfl Tryz.func172 (by kernel_rfl) rfl #[.int .i64 a1,.int .i64 t984,.int .i64 (ζm (a0+t984))] rfl (by (try simp only [δd,δe,δf]);rfl) ?_;(with_reducible refine (impl_MulDiv.calls kj3 a1 t984 (ζm (a0+t984)) t986 t987 _ A13.out).mono ?_);rintro e w' ⟨rfl,⟨nd,rfl⟩⟩;refine ⟨_,rfl,?_⟩))
      go_ret2
      exact ⟨by rfl,by repeat (first|exact Drawn0.refl _|apply Drawn0.step)⟩
     ·
      rw [if_neg c14] at H
      have c14b0:(t986 == 0)=φ:=beq_eq_false_iff_ne.mpr c14
      have c14b1:(t986 != 0)=τ:=bne_iff_ne.mpr c14
      simp only [Option.some.injEq,Prod.mk.injEq] at H
      obtain ⟨rfl,rfl⟩:=H
      go_wp2_with (first|((with_reducible refine δv (f:=172) rfl ?_);refine goesL_ (some 33) rfl rfl Tryz.func172 (by kernel_rfl) rfl #[.int .i64 a2,.int .i64 997,.int .i64 1000] rfl (by (try simp only [δd,δe,δf]);rfl) ?_;(with_reducible refine (impl_MulDiv.calls kj3 a2 997 1000 t984 t985 _ A12.out).mono ?_);rintro e w' ⟨rfl,⟨nd,rfl⟩⟩;refine ⟨_,rfl,?_⟩)|((with_reducible refine δv (f:=172) rfl ?_);refine goesL_ (some 42) rfl rfl Tryz.func172 (by kernel_rfl) rfl #[.int .i64 a1,.int .i64 t984,.int .i64 (ζm (a0+t984))] rfl (by (try simp only [δd,δe,δf]);rfl) ?_;(with_reducible refine (impl_MulDiv.calls kj3 a1 t984 (ζm (a0+t984)) t986 t987 _ A13.out).mono ?_);rintro e w' ⟨rfl,⟨nd,rfl⟩⟩;refine ⟨_,rfl,?_⟩))
      go_ret2
      exact ⟨by rfl,by repeat (first|exact Drawn0.refl _|apply Drawn0.step)⟩

end Go.Proofs.YtabmfhnhmoiljaaGreatDoor.Q
