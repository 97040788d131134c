/- Parts of the proof: what single Go functions compute, each with its walk, and plain laws over these. -/
import Derived.Test.YtabmfhnhmoiljaaGreatDoorM0
namespace Go.Proofs.YtabmfhnhmoiljaaGreatDoor.Q
open Go.RowKit Go.Proofs.YtabmfhnhmoiljaaGreatDoorW.PrintWords Go.Proofs.YtabmfhnhmoiljaaGreatDoorW.PrintLast Go.Proofs.YtabmfhnhmoiljaaGreatDoorW.PrintMore
open Go.Proofs.YtabmfhnhmoiljaaGreatDoorW.PrintWords.Aside0 renaming mk → ζa
open Go.Proofs.YtabmfhnhmoiljaaGreatDoorW.PrintWords renaming below_alloc → δk, pw_below_drewN → δi, blk_alloc → δo, gate_dst → δx, below_drew1 → δj, below_set → δq
open Go.Proofs.YtabmfhnhmoiljaaGreatDoorW.PrintWords.Kd renaming R_alloc → ζd
open List renaming length_take → δh
open Bool renaming true → τ, false → φ
attribute [local go_sem] max2_int min2_int max_two min_two max_three min_three max_four min_four   -- for this text's walks alone
set_option linter.unusedVariables false
set_option linter.unusedSimpArgs false

/-! ### spec_l03Put: function 104 -/
theorem C_one {w:World} {g:Nat} {a b:ByteArray} (h:w.heap[g]? = some (.cells #[.string a,.string b] 51 (0,0))):Kd.C k51 w (some ⟨g,0,none⟩) 1 [⟨a,b⟩]:=⟨rfl,by decide,fun _=>⟨_,rfl,fun j q hj=>by
  have hj0:j=0:=by
   rcases j with _|j
   · rfl
   ·
    simp at hj
  subst hj0
  have hq:(⟨a,b⟩:S51)=q:=by simpa using hj
  subst hq
  refine ⟨[.string a,.string b],rfl,k51.K_of_M (k51_mkM w 0 (fun _=>True) ⟨a,b⟩),fun t u hu => ?_⟩
  rw [Addr.add_lit,cell_of_row w g _ _ _ (0,0) h]
  rcases t with _|_|t
  · simpa using hu
  ·
   simpa using hu
  · simp at hu⟩⟩
theorem C_nilN {w:World} {A:Option Addr} {m:Nat} (h:m=0):Kd.C k51 w A m ([]:List S51):=⟨by rw [h];rfl,by rw [h];decide,fun hp=>absurd hp (by omega)⟩
def spec_l03Put.f (k:Nat) (l0:List S51) (a1 a2:ByteArray):Option (List S51 × Int) :=
 (spec_l03At.f k l0 a1).bind fun t=>if l0.length≤1000000 then (if 0≤t then (if t≤(l0.length:Int) then (if t<(l0.length:Int)∧((rd_T51 l0 t).f0).toList=a1.toList then some (l0.set t.toNat ⟨(rd_T51 l0 t).f0,a2⟩,0) else (if (l0.length:Int)=400 then some (l0,7) else some (l0.insertIdx t.toNat ⟨a1,a2⟩,0))) else none) else none) else none
theorem spec_l03Put.ins (l:List S51) (i:Nat) (p:S51) (h:i≤l.length):l.insertIdx i p = [] ++ l.take i ++ [p] ++ l.drop i:=by
 induction l generalizing i with
 | nil=>cases i with
  | zero=>rfl
  | succ i=>simp at h
 | cons x l ih=>cases i with
  | zero=>simp
  | succ i=>rw [List.insertIdx_succ_cons,ih i (by simpa using h)];simp
set_option maxHeartbeats 4000000 in
set_option maxRecDepth 100000 in
theorem spec_l03Put.miss (k:Nat) (A0:Option Addr) (c0:Nat) (l0:List S51) (a1 a2:ByteArray) (i:Nat) (w:World) (hr0:Kd.C k51 w A0 l0.length l0) (hc0:l0.length≤c0) (h1:spec_l03At.f k l0 a1=some (i:Int)) (hl:l0.length≤1000000) (hi:i≤l0.length) (hn:(i:Int)<(l0.length:Int) → ¬ ((rd_T51 l0 (i:Int)).f0).toList=a1.toList) (h4 : ¬ (l0.length:Int)=400) :
  Calls Tryz.prog 104 #[.slice A0 l0.length c0,.string a1,.string a2] w fun e w' => ∃ v0_:Value,e = .returned (.tuple #[v0_,.int .i64 0])∧Sf w w' (.slice A0 l0.length c0) l0 v0_ (l0.insertIdx i ⟨a1,a2⟩)∧Below w.heap.size w w':=by
 have H1:=ζa h1
 have HR0:=ζa hr0
 have HC0:=ζa hc0
 have HN:=ζa hn
 have c4:((l0.length:Int) == 400)=φ:=beq_eq_false_iff_ne.mpr h4
 have HTK:=ζa (C_takeN HR0.out (i:=i) (by omega))
 clear h1 hr0 hc0 hn h4
 go_enter Tryz.func104,Tryz.ntmps104
 go_wp2_with fail
 refine (spec_l03At.calls k A0 c0 l0 a1 (i:Int) _ HR0.out HC0.out H1.out).mono ?_
 rintro e w1 ⟨rfl,⟨q',rfl⟩⟩
 have p2:(i:Int)≤(c0:Int):=by have:=HC0.out;omega
 have p3:(i:Int)≤(l0.length:Int):=by omega
 have p4:(0:Int)≤(i:Int):=by omega
 by_cases g2:(i:Int)<(l0.length:Int)
 ·
  obtain ⟨ad,e1,hx0,hx1⟩:=at_T51 HR0.out (i:Int) p4 g2
  simp only [Int.toNat_natCast] at hx0 hx1
  cases e1
  have g6:(((rd_T51 l0 (i:Int)).f0).toList == a1.toList)=φ:=beq_eq_false_iff_ne.mpr (HN.out g2)
  have HDR:=ζa (C_dropN HR0.out HC0.out (i:=i) (by omega))
  go_wp2_with fail
  go_region_held3 (fun _=>True) (trivial) (first|((refine Kd.R_append_rows_step k51 (w0:=w) (Rr:=k51.K _) w.heap.size (by rfl) (.tmp 39) (.tmp 42) 24 51 (.agg #[(.string ⟨#[]⟩),(.string ⟨#[]⟩)]) 32 (by rfl) Tryz.underlying24 info51 rfl (by decide) (by decide) _ [] (l0.take i) _ _ _ (fun _=>True) (fun _=>False) (by rfl) (by rfl) (R_empty (Nat.le_refl _) (heap_alloc_new _ _)) (Kd.C_alloc (Kd.C_drewN HTK.out _) _) (fun x cs h=>by rw [k51_open h];exact k51_mkM _ _ _ x) (fun _ h=>h.elim) (fun _ _=>trivial) (δk (δi (Below.refl _ _) _) _) ((δk (δi (Below.refl _ _) _) _)).size (by simp only [List.length_nil];omega) ?_;intro v43 w43 ho43 hb43 hg hn;clear hg hn))|((refine Kd.R_append_rows_step k51 (w0:=w) (Rr:=k51.K _) w.heap.size (by rfl) (.tmp 39) (.tmp 42) 24 51 (.agg #[(.string ⟨#[]⟩),(.string ⟨#[]⟩)]) 32 (by rfl) Tryz.underlying24 info51 rfl (by decide) (by decide) _ [] (l0.take i) _ _ _ (fun _=>True) (fun _=>False) (by rfl) (by rfl) (R_empty (Nat.le_refl _) (δo (heap_alloc_new _ _) _)) (Kd.C_alloc (Kd.C_alloc (Kd.C_drewN HTK.out _) _) _) (fun x cs h=>by rw [k51_open h];exact k51_mkM _ _ _ x) (fun _ h=>h.elim) (fun _ _=>trivial) (δk (δk (δi (Below.refl _ _) _) _) _) ((δk (δk (δi (Below.refl _ _) _) _) _)).size (by simp only [List.length_nil];omega) ?_;intro v43 w43 ho43 hb43 hg hn;have hq:=heap_alloc_new ((w.drewN (q'+1)).alloc (.cells #[] 51)) (.cells #[.string a1,.string a2] 51);rw [show ((w.drewN (q'+1)).alloc (.cells #[] 51)).heap.size=w.heap.size+1 by simp] at hq;have hp43:=(hg.block _ (blk_lt hq) (show some (w.heap.size+1)≠some w.heap.size by simp)).trans hq;clear hg hn hq))|((refine Kd.R_append_rows_step k51 (w0:=w) (Rr:=k51.K _) w.heap.size (by rfl) (.tmp 39) (.tmp 42) 24 51 (.agg #[(.string ⟨#[]⟩),(.string ⟨#[]⟩)]) 32 (by rfl) Tryz.underlying24 info51 rfl (by decide) (by decide) _ [] (l0.take i) _ _ _ (fun _=>True) (fun _=>False) (by rfl) (by rfl) (R_empty (Nat.le_succ _) (by have hq:=heap_alloc_new ((w.drewN (q'+1)).alloc (.cells #[.string a1,.string a2] 51)) (.cells #[] 51);rw [show ((w.drewN (q'+1)).alloc (.cells #[.string a1,.string a2] 51)).heap.size=w.heap.size+1 by simp] at hq;exact hq)) (Kd.C_alloc (Kd.C_alloc (Kd.C_drewN HTK.out _) _) _) (fun x cs h=>by rw [k51_open h];exact k51_mkM _ _ _ x) (fun _ h=>h.elim) (fun _ _=>trivial) (δk (δk (δi (Below.refl _ _) _) _) _) ((δk (δk (δi (Below.refl _ _) _) _) _)).size (by simp only [List.length_nil];omega) ?_;intro v43 w43 ho43 hb43 hg hn;have hq:=δo (heap_alloc_new (w.drewN (q'+1)) (.cells #[.string a1,.string a2] 51)) (.cells #[] 51);have hp43:=(hg.block _ (blk_lt hq) (show some w.heap.size≠some (w.heap.size+1) by simp)).trans hq;clear hg hn hq))|((refine Kd.R_append_rows_step k51 (w0:=w) (Rr:=k51.K _) w.heap.size (by rfl) (.tmp 43) (.tmp 47) 24 51 (.agg #[(.string ⟨#[]⟩),(.string ⟨#[]⟩)]) 32 (by rfl) Tryz.underlying24 info51 rfl (by decide) (by decide) _ _ [⟨a1,a2⟩] _ _ _ (fun _=>True) (fun _=>False) (by rfl) (by rfl) (ζd ho43 _) (C_one (heap_alloc_new _ _)) (fun x cs h=>by rw [k51_open h];exact k51_mkM _ _ _ x) (fun _ h=>h.elim) (fun _ _=>trivial) (δk hb43 _) ((δk hb43 _)).size (by simp only [List.nil_append,δh];omega) ?_;intro v48 w48 ho48 hb48 hg hn;clear hg hn))|((refine Kd.R_append_rows_step k51 (w0:=w) (Rr:=k51.K _) w.heap.size (by rfl) (.tmp 43) (.tmp 47) 24 51 (.agg #[(.string ⟨#[]⟩),(.string ⟨#[]⟩)]) 32 (by rfl) Tryz.underlying24 info51 rfl (by decide) (by decide) _ _ [⟨a1,a2⟩] _ _ _ (fun _=>True) (fun _=>False) (by rfl) (by rfl) ho43 (C_one hp43) (fun x cs h=>by rw [k51_open h];exact k51_mkM _ _ _ x) (fun _ h=>h.elim) (fun _ _=>trivial) hb43 (hb43).size (by simp only [List.nil_append,δh];omega) ?_;intro v48 w48 ho48 hb48 hg hn;clear hg hn))|((refine Kd.R_append_rows_step k51 (w0:=w) (Rr:=k51.K _) w.heap.size (by rfl) (.tmp 48) (.tmp 51) 24 51 (.agg #[(.string ⟨#[]⟩),(.string ⟨#[]⟩)]) 32 (by rfl) Tryz.underlying24 info51 rfl (by decide) (by decide) _ _ (l0.drop i) _ _ _ (fun _=>True) (fun _=>False) (by rfl) (by rfl) ho48 (Kd.C_below HDR.out hb48) (fun x cs h=>by rw [k51_open h];exact k51_mkM _ _ _ x) (fun _ h=>h.elim) (fun _ _=>trivial) hb48 (hb48).size (by simp only [List.nil_append,List.length_append,δh,List.length_singleton];omega) ?_;intro v52 w52 ho52 hb52 hg hn;clear hg hn)))
  all_goals (rw [← spec_l03Put.ins l0 i ⟨a1,a2⟩ hi] at ho52;have HO52:=ζa ho52;have HB52:=ζa hb52;clear ho52 hb52 ho48 hb48 ho43 hb43)
  all_goals go_wp2
  all_goals (go_ret2;exact ⟨_,rfl,⟨Or.inr HO52.out⟩,HB52.out⟩)
 ·
  obtain rfl:i=l0.length:=by omega
  clear g2
  go_wp2_with fail
  go_region_held3 (fun _=>True) (trivial) (first|((refine Kd.R_append_rows_step k51 (w0:=w) (Rr:=k51.K _) w.heap.size (by rfl) (.tmp 39) (.tmp 42) 24 51 (.agg #[(.string ⟨#[]⟩),(.string ⟨#[]⟩)]) 32 (by rfl) Tryz.underlying24 info51 rfl (by decide) (by decide) _ [] (l0.take l0.length) _ _ _ (fun _=>True) (fun _=>False) (by rfl) (by rfl) (R_empty (Nat.le_refl _) (heap_alloc_new _ _)) (Kd.C_alloc (Kd.C_drewN HTK.out _) _) (fun x cs h=>by rw [k51_open h];exact k51_mkM _ _ _ x) (fun _ h=>h.elim) (fun _ _=>trivial) (δk (δi (Below.refl _ _) _) _) ((δk (δi (Below.refl _ _) _) _)).size (by simp only [List.length_nil];omega) ?_;intro v43 w43 ho43 hb43 hg hn;clear hg hn))|((refine Kd.R_append_rows_step k51 (w0:=w) (Rr:=k51.K _) w.heap.size (by rfl) (.tmp 39) (.tmp 42) 24 51 (.agg #[(.string ⟨#[]⟩),(.string ⟨#[]⟩)]) 32 (by rfl) Tryz.underlying24 info51 rfl (by decide) (by decide) _ [] (l0.take l0.length) _ _ _ (fun _=>True) (fun _=>False) (by rfl) (by rfl) (R_empty (Nat.le_refl _) (δo (heap_alloc_new _ _) _)) (Kd.C_alloc (Kd.C_alloc (Kd.C_drewN HTK.out _) _) _) (fun x cs h=>by rw [k51_open h];exact k51_mkM _ _ _ x) (fun _ h=>h.elim) (fun _ _=>trivial) (δk (δk (δi (Below.refl _ _) _) _) _) ((δk (δk (δi (Below.refl _ _) _) _) _)).size (by simp only [List.length_nil];omega) ?_;intro v43 w43 ho43 hb43 hg hn;have hq:=heap_alloc_new ((w.drewN (q'+1)).alloc (.cells #[] 51)) (.cells #[.string a1,.string a2] 51);rw [show ((w.drewN (q'+1)).alloc (.cells #[] 51)).heap.size=w.heap.size+1 by simp] at hq;have hp43:=(hg.block _ (blk_lt hq) (show some (w.heap.size+1)≠some w.heap.size by simp)).trans hq;clear hg hn hq))|((refine Kd.R_append_rows_step k51 (w0:=w) (Rr:=k51.K _) w.heap.size (by rfl) (.tmp 39) (.tmp 42) 24 51 (.agg #[(.string ⟨#[]⟩),(.string ⟨#[]⟩)]) 32 (by rfl) Tryz.underlying24 info51 rfl (by decide) (by decide) _ [] (l0.take l0.length) _ _ _ (fun _=>True) (fun _=>False) (by rfl) (by rfl) (R_empty (Nat.le_succ _) (by have hq:=heap_alloc_new ((w.drewN (q'+1)).alloc (.cells #[.string a1,.string a2] 51)) (.cells #[] 51);rw [show ((w.drewN (q'+1)).alloc (.cells #[.string a1,.string a2] 51)).heap.size=w.heap.size+1 by simp] at hq;exact hq)) (Kd.C_alloc (Kd.C_alloc (Kd.C_drewN HTK.out _) _) _) (fun x cs h=>by rw [k51_open h];exact k51_mkM _ _ _ x) (fun _ h=>h.elim) (fun _ _=>trivial) (δk (δk (δi (Below.refl _ _) _) _) _) ((δk (δk (δi (Below.refl _ _) _) _) _)).size (by simp only [List.length_nil];omega) ?_;intro v43 w43 ho43 hb43 hg hn;have hq:=δo (heap_alloc_new (w.drewN (q'+1)) (.cells #[.string a1,.string a2] 51)) (.cells #[] 51);have hp43:=(hg.block _ (blk_lt hq) (show some w.heap.size≠some (w.heap.size+1) by simp)).trans hq;clear hg hn hq))|((refine Kd.R_append_rows_step k51 (w0:=w) (Rr:=k51.K _) w.heap.size (by rfl) (.tmp 43) (.tmp 47) 24 51 (.agg #[(.string ⟨#[]⟩),(.string ⟨#[]⟩)]) 32 (by rfl) Tryz.underlying24 info51 rfl (by decide) (by decide) _ _ [⟨a1,a2⟩] _ _ _ (fun _=>True) (fun _=>False) (by rfl) (by rfl) (ζd ho43 _) (C_one (heap_alloc_new _ _)) (fun x cs h=>by rw [k51_open h];exact k51_mkM _ _ _ x) (fun _ h=>h.elim) (fun _ _=>trivial) (δk hb43 _) ((δk hb43 _)).size (by simp only [List.nil_append,δh];omega) ?_;intro v48 w48 ho48 hb48 hg hn;clear hg hn))|((refine Kd.R_append_rows_step k51 (w0:=w) (Rr:=k51.K _) w.heap.size (by rfl) (.tmp 43) (.tmp 47) 24 51 (.agg #[(.string ⟨#[]⟩),(.string ⟨#[]⟩)]) 32 (by rfl) Tryz.underlying24 info51 rfl (by decide) (by decide) _ _ [⟨a1,a2⟩] _ _ _ (fun _=>True) (fun _=>False) (by rfl) (by rfl) ho43 (C_one hp43) (fun x cs h=>by rw [k51_open h];exact k51_mkM _ _ _ x) (fun _ h=>h.elim) (fun _ _=>trivial) hb43 (hb43).size (by simp only [List.nil_append,δh];omega) ?_;intro v48 w48 ho48 hb48 hg hn;clear hg hn))|((refine Kd.R_append_rows_step k51 (w0:=w) (Rr:=k51.K _) w.heap.size (by rfl) (.tmp 48) (.tmp 51) 24 51 (.agg #[(.string ⟨#[]⟩),(.string ⟨#[]⟩)]) 32 (by rfl) Tryz.underlying24 info51 rfl (by decide) (by decide) _ _ [] _ _ _ (fun _=>True) (fun _=>False) (by rfl) (by rfl) ho48 (C_nilN (by rfl)) (fun x cs h=>by rw [k51_open h];exact k51_mkM _ _ _ x) (fun _ h=>h.elim) (fun _ _=>trivial) hb48 (hb48).size (by simp only [List.nil_append,List.length_append,δh,List.length_singleton];omega) ?_;intro v52 w52 ho52 hb52 hg hn;clear hg hn)))
  all_goals (rw [show [] ++ l0.take l0.length ++ [⟨a1,a2⟩] ++ []=l0 ++ [⟨a1,a2⟩] by simp] at ho52;have HO52:=ζa ho52;have HB52:=ζa hb52;clear ho52 hb52 ho48 hb48 ho43 hb43)
  all_goals go_wp2
  all_goals (go_ret2;exact ⟨_,rfl,⟨Or.inr HO52.out⟩,HB52.out⟩)
set_option maxHeartbeats 4000000 in
set_option maxRecDepth 100000 in
theorem spec_l03Put.calls (k:Nat) (A0:Option Addr) (c0:Nat) (l0:List S51) (a1 a2:ByteArray) (r1:List S51) (r2:Int) (w:World) (hr0:Kd.C k51 w A0 l0.length l0) (hc0:l0.length≤c0) (h:spec_l03Put.f k l0 a1 a2=some (r1,r2)) :
  Calls Tryz.prog 104 #[.slice A0 l0.length c0,.string a1,.string a2] w fun e w' => ∃ v0_:Value,e = .returned (.tuple #[v0_,.int .i64 r2])∧Sf w w' (.slice A0 l0.length c0) l0 v0_ r1∧Below w.heap.size w w':=by
 obtain ⟨t,h1,h⟩:=Option.bind_eq_some_iff.mp h
 by_cases hl:l0.length≤1000000
 ·
  rw [if_pos hl] at h
  by_cases g1:0≤t
  ·
   rw [if_pos g1] at h
   by_cases g0:t≤(l0.length:Int)
   ·
    rw [if_pos g0] at h
    obtain ⟨i,rfl⟩ : ∃ i:Nat,t=(i:Int):=⟨t.toNat,by omega⟩
    by_cases g2:(i:Int)<(l0.length:Int)∧((rd_T51 l0 (i:Int)).f0).toList=a1.toList
    ·
     rw [if_pos g2] at h
     simp only [Option.some.injEq,Prod.mk.injEq] at h
     obtain ⟨rfl,rfl⟩:=h
     obtain ⟨g2,g4⟩:=g2
     have H1:=ζa h1
     have HR0:=ζa hr0
     have HC0:=ζa hc0
     clear h1 hr0 hc0
     go_enter Tryz.func104,Tryz.ntmps104
     go_wp2_with fail
     refine (spec_l03At.calls k A0 c0 l0 a1 (i:Int) _ HR0.out HC0.out H1.out).mono ?_
     rintro e w1 ⟨rfl,⟨q',rfl⟩⟩
     obtain ⟨ad,e1,hx0,hx1⟩:=at_T51 HR0.out (i:Int) g1 g2
     simp only [Int.toNat_natCast] at hx0 hx1
     cases e1
     have g6:(((rd_T51 l0 (i:Int)).f0).toList == a1.toList)=τ:=beq_iff_eq.mpr g4
     have HX0:=ζa hx0
     clear g4
     go_wp2_with (first
      | ((with_reducible refine δx (N:=26) rfl ?_);refine Kd.R_lit k51 w.heap.size 51 ?hg (N:=26) ?hd (w0:=w) (xs:=([]:List S51)) (inner:=[]) (ok:=fun _=>True) (okp:=fun _=>True) ?hr ?hp (fun _ hk=>hk) trivial (by repeat (first|exact Below.refl _ _|apply δj|apply δi)) (by exact Nat.le_refl _) (by simp) ?_;(case hd=>rfl);(case hg=>rfl);(case hr=>first|(go_simp;done)|(go_simp;rfl));(case hp=>exact (Reps.none _ _));intro v26 w26 ho26 hb26 hg_ hnew_;clear hg_ hnew_;have HO:=ζa ho26;have HB:=ζa hb26;clear ho26 hb26)
      | ((with_reducible refine δx (N:=28) rfl ?_);refine Kd.R_append_rows (w0:=w) (Rr:=k51.K w26) k51 w.heap.size ?hg (.tmp 26) (.tmp 27) 24 51 (.agg #[(.string ⟨#[]⟩),(.string ⟨#[]⟩)]) 32 rfl Tryz.underlying24 info51 rfl (by decide) (by decide) v26 [] l0 (some ad) l0.length c0 (fun _=>True) (fun _=>False) rfl rfl HO.out (Kd.C_below HR0.out HB.out) (fun x cs h=>by rw [k51_open h];exact k51_mkM _ _ _ x) (fun _ h=>h.elim) (fun _ _=>trivial) HB.out HB.out.size (by simp only [List.length_nil];omega) ?_;(case hg=>rfl);intro v28 w28 ho28 hb28 hg_ hnew_;clear hg_ hnew_;obtain ⟨g,c,rfl,hwg⟩ : ∃ g c,v28 = .slice (some ⟨g,0,none⟩) l0.length c∧w.heap.size≤g:=(by obtain ⟨g,c,hv,hb,_⟩:=Kd.R_form ho28 (by simp only [List.nil_append];omega);exact ⟨g,c,hv,hb⟩);have HO28:Aside0 (Kd.R k51 51 w28 w.heap.size (fun _=>True) (.slice (some ⟨g,0,none⟩) l0.length c) l0):=⟨ho28⟩;have HB28:=ζa hb28;have HG:=ζa hwg;clear ho28 hb28 hwg;obtain ⟨ce,hcl,hM,hcc,hfr⟩:=Kd.R_elem HO28.out z51 (i:Int) g1 g2;obtain rfl:=k51_openM hM;have HP:=ζa (Kd.R_seg HO28.out (i:Int) g1 g2 (seg:=[.string a2]) (j:=1) hcl hcc (show 2≤2 from by decide) (x':=(⟨(rd_T51 l0 (i:Int)).f0,a2⟩:S51)) (k51_mkM _ _ _ (⟨(rd_T51 l0 (i:Int)).f0,a2⟩:S51)) (fun _ hk=>hk));have hy1:w28.cell? ⟨g,i * 2+1,none⟩=some (.string ((rd_T51 l0 (i:Int)).f1)):=hcc 1 _ rfl;have hf1:w28.frozen? ⟨g,i * 2+1,none⟩=φ:=hfr 1;clear hcl hcc hfr hM)
      | ((with_reducible refine gate_store (t:=9) (p:=33) rfl ?_);refine store_event (t:=9) (p:=33) (v:=?vo) (w1:=(w28.setCell ⟨g,i * 2+1,none⟩ (.string a2))) ?hg ?ho ?hn ?hr ?_;(case ho=>rfl);(case hg=>rfl);(case hn=>rfl);(case hr=>(go_simp;done));intro w3 hw;have HO3:Aside0 (Kd.R k51 51 w3 w.heap.size (fun _=>True) (.slice (some ⟨g,0,none⟩) l0.length c) (l0.set (i:Int).toNat ⟨(rd_T51 l0 (i:Int)).f0,a2⟩)):=⟨by rw [hw];exact HP.out.1⟩;have HB3:Aside0 (Below w.heap.size w w3):=⟨by rw [hw];exact δq HB28.out HG.out⟩;clear hw))
     go_wp2
     go_ret2
     exact ⟨_,rfl,⟨Or.inr HO3.out⟩,HB3.out⟩
    ·
     rw [if_neg g2] at h
     by_cases g3:(l0.length:Int)=400
     ·
      rw [if_pos g3] at h
      simp only [Option.some.injEq,Prod.mk.injEq] at h
      obtain ⟨rfl,rfl⟩:=h
      have H1:=ζa h1
      have HR0:=ζa hr0
      have HC0:=ζa hc0
      have HN:=ζa g2
      have c4:((l0.length:Int) == 400)=τ:=beq_iff_eq.mpr g3
      have c5:(l0.length == 400)=τ:=beq_iff_eq.mpr (by omega)
      have HB1:Aside0 (Below w.heap.size w w):=⟨Below.refl _ _⟩
      clear h1 hr0 hc0 g2 g3
      go_enter Tryz.func104,Tryz.ntmps104
      go_wp2_with fail
      refine (spec_l03At.calls k A0 c0 l0 a1 (i:Int) _ HR0.out HC0.out H1.out).mono ?_
      rintro e w1 ⟨rfl,⟨q',rfl⟩⟩
      by_cases g2:(i:Int)<(l0.length:Int)
      ·
       obtain ⟨ad,e1,hx0,hx1⟩:=at_T51 HR0.out (i:Int) g1 g2
       simp only [Int.toNat_natCast] at hx0 hx1
       cases e1
       have g6:(((rd_T51 l0 (i:Int)).f0).toList == a1.toList)=φ:=beq_eq_false_iff_ne.mpr (fun e=>HN.out ⟨g2,e⟩)
       go_wp2
       go_ret2
       exact ⟨_,rfl,⟨Or.inl ⟨rfl,rfl⟩⟩,by repeat (first|exact HB1.out|apply δi)⟩
      ·
       have g2b:decide ((i:Int)<(l0.length:Int))=φ:=decide_eq_false g2
       go_wp2
       go_ret2
       exact ⟨_,rfl,⟨Or.inl ⟨rfl,rfl⟩⟩,by repeat (first|exact HB1.out|apply δi)⟩
     ·
      rw [if_neg g3] at h
      simp only [Option.some.injEq,Prod.mk.injEq] at h
      obtain ⟨rfl,rfl⟩:=h
      exact spec_l03Put.miss k A0 c0 l0 a1 a2 i w hr0 hc0 h1 hl (by omega) (fun h5 e=>g2 ⟨h5,e⟩) g3
   · rw [if_neg g0] at h;cases h
  ·
   rw [if_neg g1] at h;cases h
 · rw [if_neg hl] at h;cases h


open Go.Proofs.YtabmfhnhmoiljaaGreatDoorW.PrintWords renaming gate_callee → δv
open List renaming map_toArray → δd, map_cons → δe, map_nil → δf

/-! ### spec_l03Get: function 102 -/
def spec_l03Get.f (k:Nat) (l0:List (S51)) (a1:ByteArray):Option (ByteArray × Bool):=(spec_l03At.f k l0 a1).bind fun t120=>(if t120<(l0.length:Int) then (if 0≤t120 then (if ((rd_T51 l0 t120).f0).toList=a1.toList then (some ((rd_T51 l0 t120).f1,τ)) else (some ((⟨#[]⟩:ByteArray),φ))) else (none)) else (some ((⟨#[]⟩:ByteArray),φ)))
set_option maxHeartbeats 8000000 in
set_option maxRecDepth 100000 in
theorem spec_l03Get.calls (k:Nat) (A0:Option Addr) (c0:Nat) (l0:List (S51)) (a1:ByteArray) (r1:ByteArray) (r2:Bool) (w:World) (hr0:Kd.C k51 w A0 l0.length l0) (hc0:l0.length≤c0) (h:spec_l03Get.f k l0 a1=some (r1,r2)) :
  Calls Tryz.prog 102 #[.slice A0 l0.length c0,.string a1] w fun e w'=>e = .returned (.tuple #[.string r1,.bool r2])∧Drawn0 w w':=by
 have HR0:=ζa hr0
 have HC0:=ζa hc0
 clear hr0 hc0
 have H:((spec_l03At.f k l0 a1).bind fun t120=>(if t120<(l0.length:Int) then (if 0≤t120 then (if ((rd_T51 l0 t120).f0).toList=a1.toList then (some ((rd_T51 l0 t120).f1,τ)) else (some ((⟨#[]⟩:ByteArray),φ))) else (none)) else (some ((⟨#[]⟩:ByteArray),φ))))=some (r1,r2):=h
 clear h
 replace H:=Option.bind_eq_some_iff.mp H
 obtain ⟨t120,A30,H⟩:=H
 replace H:(if t120<(l0.length:Int) then (if 0≤t120 then (if ((rd_T51 l0 t120).f0).toList=a1.toList then (some ((rd_T51 l0 t120).f1,τ)) else (some ((⟨#[]⟩:ByteArray),φ))) else (none)) else (some ((⟨#[]⟩:ByteArray),φ)))=some (r1,r2):=H
 have A3:=ζa A30
 clear A30
 by_cases c4:t120<(l0.length:Int)
 ·
  rw [if_pos c4] at H
  have c4b0:decide (t120<(l0.length:Int))=τ:=decide_eq_true c4
  clear c4
  by_cases c5:0≤t120
  ·
   rw [if_pos c5] at H
   have c5b0:decide (0≤t120)=τ:=decide_eq_true c5
   clear c5
   by_cases c6:((rd_T51 l0 t120).f0).toList=a1.toList
   ·
    rw [if_pos c6] at H
    have c6b0:(((rd_T51 l0 t120).f0).toList == a1.toList)=τ:=beq_iff_eq.mpr c6
    have c6b1:(((rd_T51 l0 t120).f0).toList != a1.toList)=φ:=bne_eq_false_iff_eq.mpr c6
    clear c6
    simp only [Option.some.injEq,Prod.mk.injEq] at H
    obtain ⟨rfl,rfl⟩:=H
    go_enter Tryz.func102,Tryz.ntmps102
    go_wp2_with (((with_reducible refine δv (f:=160) rfl ?_);refine goesL_ (some 9) rfl rfl Tryz.func160 (by kernel_rfl) rfl #[.slice A0 l0.length c0,.string a1] rfl (by (try simp only [δd,δe,δf]);rfl) ?_;(with_reducible refine (spec_l03At.calls k _ _ l0 a1 t120 _ ?side1 ?side2 A3.out).mono ?_);(case side1=>repeat (exact HR0.out));(case side2=>exact HC0.out);rintro e w' ⟨rfl,⟨nd,rfl⟩⟩;refine ⟨_,rfl,?_⟩;have p121:0≤(t120:Int):=of_decide_eq_true (by (with_reducible assumption));have q121:t120<(l0.length:Int):=of_decide_eq_true (by (with_reducible assumption));obtain ⟨ad121,e121,hx121_0,hx121_1⟩:=at_T51 HR0.out t120 p121 q121;cases e121;replace p121:=eq_true p121;replace q121:=eq_true q121;have p122:0≤(t120:Int):=of_decide_eq_true (by (with_reducible assumption));have q122:t120<(l0.length:Int):=of_decide_eq_true (by (with_reducible assumption));obtain ⟨ad122,e122,hx122_0,hx122_1⟩:=at_T51 HR0.out t120 p122 q122;obtain rfl:ad121=ad122:=(by injection e122);replace p122:=eq_true p122;replace q122:=eq_true q122))
    go_ret2
    exact ⟨by rfl,by repeat (first|exact Drawn0.refl _|apply Drawn0.step)⟩
   ·
    rw [if_neg c6] at H
    have c6b0:(((rd_T51 l0 t120).f0).toList == a1.toList)=φ:=beq_eq_false_iff_ne.mpr c6
    have c6b1:(((rd_T51 l0 t120).f0).toList != a1.toList)=τ:=bne_iff_ne.mpr c6
    simp only [Option.some.injEq,Prod.mk.injEq] at H
    obtain ⟨rfl,rfl⟩:=H
    go_enter Tryz.func102,Tryz.ntmps102
    go_wp2_with (((with_reducible refine δv (f:=160) rfl ?_);refine goesL_ (some 9) rfl rfl Tryz.func160 (by kernel_rfl) rfl #[.slice A0 l0.length c0,.string a1] rfl (by (try simp only [δd,δe,δf]);rfl) ?_;(with_reducible refine (spec_l03At.calls k _ _ l0 a1 t120 _ ?side1 ?side2 A3.out).mono ?_);(case side1=>repeat (exact HR0.out));(case side2=>exact HC0.out);rintro e w' ⟨rfl,⟨nd,rfl⟩⟩;refine ⟨_,rfl,?_⟩;have p121:0≤(t120:Int):=of_decide_eq_true (by (with_reducible assumption));have q121:t120<(l0.length:Int):=of_decide_eq_true (by (with_reducible assumption));obtain ⟨ad121,e121,hx121_0,hx121_1⟩:=at_T51 HR0.out t120 p121 q121;cases e121;replace p121:=eq_true p121;replace q121:=eq_true q121))
    go_ret2
    exact ⟨by rfl,by repeat (first|exact Drawn0.refl _|apply Drawn0.step)⟩
  ·
   rw [if_neg c5] at H
   exact absurd H (by simp)
 ·
  rw [if_neg c4] at H
  have c4b0:decide (t120<(l0.length:Int))=φ:=decide_eq_false c4
  clear c4
  simp only [Option.some.injEq,Prod.mk.injEq] at H
  obtain ⟨rfl,rfl⟩:=H
  go_enter Tryz.func102,Tryz.ntmps102
  go_wp2_with (((with_reducible refine δv (f:=160) rfl ?_);refine goesL_ (some 9) rfl rfl Tryz.func160 (by kernel_rfl) rfl #[.slice A0 l0.length c0,.string a1] rfl (by (try simp only [δd,δe,δf]);rfl) ?_;(with_reducible refine (spec_l03At.calls k _ _ l0 a1 t120 _ ?side1 ?side2 A3.out).mono ?_);(case side1=>repeat (exact HR0.out));(case side2=>exact HC0.out);rintro e w' ⟨rfl,⟨nd,rfl⟩⟩;refine ⟨_,rfl,?_⟩))
  go_ret2
  exact ⟨by rfl,by repeat (first|exact Drawn0.refl _|apply Drawn0.step)⟩


open Go.RowKit renaming wrap64 → ζm

/-! ### spec_l02Of: function 149 -/
mutual
def spec_l02Of.j0:Nat→ByteArray→Bool→Option (Int)
 | 0,_,_=>none
 | k+1,x0,x19=>if x19=τ then (some (-1)) else (spec_l02Of.l0 k x0 0 0)
def spec_l02Of.l0:Nat→ByteArray→Int→Int→Option (Int)
 | 0,_,_,_=>none
 | k+1,x0,x3,x4=>if x4<(x0.size:Int) then (if 0≤x4 then (if (bt x0 x4)<48 then (spec_l02Of.j2 k x0 x3 x4 τ) else (spec_l02Of.j2 k x0 x3 x4 (decide ((bt x0 x4) > 57)))) else (none)) else (some x3)
def spec_l02Of.j2:Nat→ByteArray→Int→Int→Bool→Option (Int)
 | 0,_,_,_,_=>none
 | k+1,x0,x3,x4,x35=>if x35=τ then (some (-1)) else (if 0≤x4 then (if x4<(x0.size:Int) then (if x3 > ((1000000000000000000 - (((bt x0 x4) - 48) % 256)) / 10) then (some (-1)) else (spec_l02Of.l0 k x0 (ζm ((ζm (x3 * 10))+(((bt x0 x4) - 48) % 256))) (ζm (x4+1)))) else (none)) else (none))
end
def spec_l02Of.f (k:Nat) (a0:ByteArray):Option (Int):=(spec_l01In.f (a0.size:Int) 1 19).bind fun t123=>(if t123=τ then (if (a0.size:Int) > 1 then (if 0<(a0.size:Int) then (spec_l02Of.j0 k a0 ((bt a0 0) == 48)) else (none)) else (spec_l02Of.j0 k a0 φ)) else (spec_l02Of.j0 k a0 τ))
set_option maxHeartbeats 8000000 in
set_option maxRecDepth 100000 in
theorem spec_l02Of.calls (k:Nat) (a0:ByteArray) (r:Int) (w:World) (h:spec_l02Of.f k a0=some r) :
  Calls Tryz.prog 149 #[.string a0] w fun e w'=>e = .returned (.int .i64 r)∧Drawn0 w w':=by
 have H:((spec_l01In.f (a0.size:Int) 1 19).bind fun t123=>(if t123=τ then (if (a0.size:Int) > 1 then (if 0<(a0.size:Int) then (spec_l02Of.j0 k a0 ((bt a0 0) == 48)) else (none)) else (spec_l02Of.j0 k a0 φ)) else (spec_l02Of.j0 k a0 τ)))=some r:=h
 clear h
 have HC2:=ζa H
 clear H
 go_enter Tryz.func149,Tryz.ntmps149
 go_upto_region 1 with (fail)
 go_cut [19] (fun v19 wc => ∃ (kq:Nat) (x19_1:Bool),v19 = .bool x19_1∧Aside0 (spec_l02Of.j0 kq a0 x19_1=some r)∧Aside0 (kq≤k)∧Drawn0 w wc)
 case first =>
  have H:=HC2.out
  clear HC2
  replace H:=Option.bind_eq_some_iff.mp H
  obtain ⟨t123,A30,H⟩:=H
  replace H:(if t123=τ then (if (a0.size:Int) > 1 then (if 0<(a0.size:Int) then (spec_l02Of.j0 k a0 ((bt a0 0) == 48)) else (none)) else (spec_l02Of.j0 k a0 φ)) else (spec_l02Of.j0 k a0 τ))=some r:=H
  have A3:=ζa A30
  clear A30
  by_cases c4:t123=τ
  ·
   subst c4
   have H1:(if (a0.size:Int) > 1 then (if 0<(a0.size:Int) then (spec_l02Of.j0 k a0 ((bt a0 0) == 48)) else (none)) else (spec_l02Of.j0 k a0 φ))=some r:=by rw [if_pos rfl] at H;exact H
   clear H
   have H:=H1
   clear H1
   by_cases c5:(a0.size:Int) > 1
   ·
    rw [if_pos c5] at H
    have c5b0:decide (1<(a0.size:Int))=τ:=decide_eq_true c5
    have c5b1:decide (1<a0.size)=τ:=decide_eq_true (by omega)
    clear c5
    (skip)
    by_cases c6:0<(a0.size:Int)
    ·
     rw [if_pos c6] at H
     have c6b0:decide (0<(a0.size:Int))=τ:=decide_eq_true c6
     have c6b1:decide (0<a0.size)=τ:=decide_eq_true (by omega)
     clear c6
     have H':=ζa H
     clear H
     go_wp2_with (((with_reducible refine δv (f:=77) rfl ?_);refine goesL_ (some 8) rfl rfl Tryz.func77 (by kernel_rfl) rfl #[.int .i64 (a0.size:Int),.int .i64 1,.int .i64 19] rfl (by (try simp only [δd,δe,δf]);rfl) ?_;(with_reducible refine (spec_l01In.calls (a0.size:Int) 1 19 τ _ A3.out).mono ?_);rintro e w' ⟨rfl,⟨nd,rfl⟩⟩;refine ⟨_,rfl,?_⟩;have p7:0≤(0:Int):=(by omega);have q7:0<a0.size:=(by have:(0:Int)<(a0.size:Int):=of_decide_eq_true (by (with_reducible assumption));omega);have hx7 : ∀ h:0<a0.size,((a0[0]'h).toNat:Int)=bt a0 0:=bt_at a0 0;clear p7;have qi7:(0<(a0.size:Int))=True:=eq_true (of_decide_eq_true (by (with_reducible assumption)));replace q7:=eq_true q7))
     go_meet
     case rel=>exact ⟨_,(((bt a0 0) == 48)),(by rfl),H',⟨by omega⟩,by repeat (first|exact Drawn0.refl _|apply Drawn0.step)⟩
    ·
     rw [if_neg c6] at H
     exact absurd H (by simp)
   ·
    rw [if_neg c5] at H
    have c5b0:decide (1<(a0.size:Int))=φ:=decide_eq_false c5
    have c5b1:decide (1<a0.size)=φ:=decide_eq_false (by omega)
    clear c5
    (skip)
    have H':=ζa H
    clear H
    go_wp2_with (((with_reducible refine δv (f:=77) rfl ?_);refine goesL_ (some 8) rfl rfl Tryz.func77 (by kernel_rfl) rfl #[.int .i64 (a0.size:Int),.int .i64 1,.int .i64 19] rfl (by (try simp only [δd,δe,δf]);rfl) ?_;(with_reducible refine (spec_l01In.calls (a0.size:Int) 1 19 τ _ A3.out).mono ?_);rintro e w' ⟨rfl,⟨nd,rfl⟩⟩;refine ⟨_,rfl,?_⟩))
    go_meet
    case rel=>exact ⟨_,(φ),(by rfl),H',⟨by omega⟩,by repeat (first|exact Drawn0.refl _|apply Drawn0.step)⟩
  ·
   replace c4:=Bool.eq_false_iff.mpr c4
   subst c4
   have H1:(spec_l02Of.j0 k a0 τ)=some r:=by rw [if_neg (show ¬ (φ=τ) by decide)] at H;exact H
   clear H
   have H:=H1
   clear H1
   have H':=ζa H
   clear H
   go_wp2_with (((with_reducible refine δv (f:=77) rfl ?_);refine goesL_ (some 8) rfl rfl Tryz.func77 (by kernel_rfl) rfl #[.int .i64 (a0.size:Int),.int .i64 1,.int .i64 19] rfl (by (try simp only [δd,δe,δf]);rfl) ?_;(with_reducible refine (spec_l01In.calls (a0.size:Int) 1 19 φ _ A3.out).mono ?_);rintro e w' ⟨rfl,⟨nd,rfl⟩⟩;refine ⟨_,rfl,?_⟩))
   go_meet
   case rel=>exact ⟨_,(τ),(by rfl),H',⟨by omega⟩,by repeat (first|exact Drawn0.refl _|apply Drawn0.step)⟩
 case rest =>
  clear HC2
  try clear c1
  try clear p2
  try clear c4
  try clear c5
  try clear c5b0
  try clear c5b1
  try clear c6
  try clear c6b0
  try clear c6b1
  try clear c7
  try clear p7
  try clear q7
  try clear hx7
  try clear qi7
  try clear p7
  try clear q7
  obtain ⟨kq,x19_1,rfl,HA,HJ1,⟨mc1,rfl⟩⟩:=hcut
  cases kq with
  | zero=>exact absurd HA.out (by simp [spec_l02Of.j0])
  | succ kj1 =>
   have H:=HA.out
   clear HA
   simp only [spec_l02Of.j0] at H
   by_cases c8:x19_1=τ
   ·
    subst c8
    have H1:(some (-1))=some r:=by rw [if_pos rfl] at H;exact H
    clear H
    have H:=H1
    clear H1
    obtain rfl:=Option.some.inj H
    go_wp2
    go_ret
    exact ⟨by rfl,by repeat (first|exact Drawn0.refl _|apply Drawn0.step)⟩
   ·
    replace c8:=Bool.eq_false_iff.mpr c8
    subst c8
    have H1:(spec_l02Of.l0 kj1 a0 0 0)=some r:=by rw [if_neg (show ¬ (φ=τ) by decide)] at H;exact H
    clear H
    have H:=H1
    clear H1
    have H':=ζa H
    clear H
    go_wp2
    go_loopg [3,4] kj1 (fun kq v3 v4 w' => ∃ (x3_2:Int) (x4_2:Int),v3 = .int .i64 x3_2∧v4 = .int .i64 x4_2∧Aside0 (spec_l02Of.l0 kq a0 x3_2 x4_2=some r)∧Aside0 (kq≤kj1)∧Drawn0 w w')
    case atStart=>exact ⟨(0),(0),(by rfl),(by rfl),H',⟨Nat.le_refl _⟩,by repeat (first|exact Drawn0.refl _|apply Drawn0.step)⟩
    case round =>
     clear H'
     try clear c1
     try clear p2
     try clear c4
     try clear c5
     try clear c5b0
     try clear c5b1
     try clear c6
     try clear c6b0
     try clear c6b1
     try clear c7
     try clear p7
     try clear q7
     try clear hx7
     try clear qi7
     try clear c8
     try clear p2
     try clear p7
     try clear q7
     obtain ⟨x3_2,x4_2,rfl,rfl,HA,HK2,⟨m2,rfl⟩⟩:=hrel
     cases gk with
     | zero=>exact absurd HA.out (by simp [spec_l02Of.l0])
     | succ k2 =>
      have H:=HA.out
      clear HA
      simp only [spec_l02Of.l0] at H
      by_cases c9:x4_2<(a0.size:Int)
      ·
       rw [if_pos c9] at H
       have c9b0:decide (x4_2<(a0.size:Int))=τ:=decide_eq_true c9
       clear c9
       have HC10:=ζa H
       clear H
       go_upto_region 7 with (fail)
       go_cut [35] (fun v35 wc => ∃ (kq:Nat) (x35_9:Bool),v35 = .bool x35_9∧Aside0 (spec_l02Of.j2 kq a0 x3_2 x4_2 x35_9=some r)∧Aside0 (kq≤k2)∧Drawn0 w wc)
       case first =>
        have H:=HC10.out
        clear HC10
        by_cases c11:0≤x4_2
        ·
         rw [if_pos c11] at H
         have c11b0:decide (0≤x4_2)=τ:=decide_eq_true c11
         clear c11
         (skip)
         by_cases c13:(bt a0 x4_2)<48
         ·
          rw [if_pos c13] at H
          have c13b0:decide ((bt a0 x4_2)<48)=τ:=decide_eq_true c13
          clear c13
          have H':=ζa H
          clear H
          have p12:0≤(x4_2:Int):=of_decide_eq_true (by (with_reducible assumption))
          have q12:x4_2<(a0.size:Int):=of_decide_eq_true (by (with_reducible assumption))
          have hx12:=bt_at a0 x4_2
          replace p12:=eq_true p12
          replace q12:=eq_true q12
          go_wp2
          go_meet
          case rel=>exact ⟨_,(τ),(by rfl),H',⟨by have:=HJ1.out;have:=HK2.out;omega⟩,by repeat (first|exact Drawn0.refl _|apply Drawn0.step)⟩
         ·
          rw [if_neg c13] at H
          have c13b0:decide ((bt a0 x4_2)<48)=φ:=decide_eq_false c13
          clear c13
          have H':=ζa H
          clear H
          have p12:0≤(x4_2:Int):=of_decide_eq_true (by (with_reducible assumption))
          have q12:x4_2<(a0.size:Int):=of_decide_eq_true (by (with_reducible assumption))
          have hx12:=bt_at a0 x4_2
          replace p12:=eq_true p12
          replace q12:=eq_true q12
          have p14:0≤(x4_2:Int):=of_decide_eq_true (by (with_reducible assumption))
          have q14:x4_2<(a0.size:Int):=of_decide_eq_true (by (with_reducible assumption))
          have hx14:=bt_at a0 x4_2
          replace p14:=eq_true p14
          replace q14:=eq_true q14
          go_wp2
          go_meet
          case rel=>exact ⟨_,(decide ((bt a0 x4_2) > 57)),(by rfl),H',⟨by have:=HJ1.out;have:=HK2.out;omega⟩,by repeat (first|exact Drawn0.refl _|apply Drawn0.step)⟩
        ·
         rw [if_neg c11] at H
         exact absurd H (by simp)
       case rest =>
        clear HC10
        try clear c1
        try clear p1
        try clear q1
        try clear hx1
        try clear p2
        try clear c4
        try clear c5
        try clear c5b0
        try clear c5b1
        try clear c6
        try clear c6b0
        try clear c6b1
        try clear c7
        try clear p7
        try clear q7
        try clear hx7
        try clear qi7
        try clear c8
        try clear c9
        try clear c9b0
        try clear c11
        try clear c11b0
        try clear p12
        try clear q12
        try clear hx12
        try clear c13
        try clear c13b0
        try clear c14
        try clear p14
        try clear q14
        try clear hx14
        try clear p12
        try clear p14
        try clear p2
        try clear p7
        try clear q12
        try clear q14
        try clear q7
        obtain ⟨kq,x35_9,rfl,HA,HJ9,⟨mc9,rfl⟩⟩:=hcut
        cases kq with
        | zero=>exact absurd HA.out (by simp [spec_l02Of.j2])
        | succ kj9 =>
         have H:=HA.out
         clear HA
         simp only [spec_l02Of.j2] at H
         by_cases c15:x35_9=τ
         ·
          subst c15
          have H1:(some (-1))=some r:=by rw [if_pos rfl] at H;exact H
          clear H
          have H:=H1
          clear H1
          obtain rfl:=Option.some.inj H
          go_wp2
          go_ret
          exact ⟨by rfl,by repeat (first|exact Drawn0.refl _|apply Drawn0.step)⟩
         ·
          replace c15:=Bool.eq_false_iff.mpr c15
          subst c15
          have H1:(if 0≤x4_2 then (if x4_2<(a0.size:Int) then (if x3_2 > ((1000000000000000000 - (((bt a0 x4_2) - 48) % 256)) / 10) then (some (-1)) else (spec_l02Of.l0 kj9 a0 (ζm ((ζm (x3_2 * 10))+(((bt a0 x4_2) - 48) % 256))) (ζm (x4_2+1)))) else (none)) else (none))=some r:=by rw [if_neg (show ¬ (φ=τ) by decide)] at H;exact H
          clear H
          have H:=H1
          clear H1
          by_cases c16:0≤x4_2
          ·
           rw [if_pos c16] at H
           have c16b0:decide (0≤x4_2)=τ:=decide_eq_true c16
           clear c16
           by_cases c17:x4_2<(a0.size:Int)
           ·
            rw [if_pos c17] at H
            have c17b0:decide (x4_2<(a0.size:Int))=τ:=decide_eq_true c17
            clear c17
            by_cases c19:x3_2 > ((1000000000000000000 - (((bt a0 x4_2) - 48) % 256)) / 10)
            ·
             rw [if_pos c19] at H
             have c19b0:decide (((1000000000000000000 - (((bt a0 x4_2) - 48) % 256)) / 10)<x3_2)=τ:=decide_eq_true c19
             clear c19
             obtain rfl:=Option.some.inj H
             have p18:0≤(x4_2:Int):=of_decide_eq_true (by (with_reducible assumption))
             have q18:x4_2<(a0.size:Int):=of_decide_eq_true (by (with_reducible assumption))
             have hx18:=bt_at a0 x4_2
             replace p18:=eq_true p18
             replace q18:=eq_true q18
             go_wp2
             go_ret
             exact ⟨by rfl,by repeat (first|exact Drawn0.refl _|apply Drawn0.step)⟩
            ·
             rw [if_neg c19] at H
             have c19b0:decide (((1000000000000000000 - (((bt a0 x4_2) - 48) % 256)) / 10)<x3_2)=φ:=decide_eq_false c19
             clear c19
             have H':=ζa H
             clear H
             have p18:0≤(x4_2:Int):=of_decide_eq_true (by (with_reducible assumption))
             have q18:x4_2<(a0.size:Int):=of_decide_eq_true (by (with_reducible assumption))
             have hx18:=bt_at a0 x4_2
             replace p18:=eq_true p18
             replace q18:=eq_true q18
             go_wp2
             go_roundg kj9
             case measure=>have:=HJ1.out;have:=HK2.out;have:=HJ9.out;omega
             case rel=>exact ⟨(ζm ((ζm (x3_2 * 10))+(((bt a0 x4_2) - 48) % 256))),(ζm (x4_2+1)),(by rfl),(by rfl),H',⟨by have:=HJ1.out;have:=HK2.out;have:=HJ9.out;omega⟩,by repeat (first|exact Drawn0.refl _|apply Drawn0.step)⟩
           ·
            rw [if_neg c17] at H
            exact absurd H (by simp)
          ·
           rw [if_neg c16] at H
           exact absurd H (by simp)
      ·
       rw [if_neg c9] at H
       have c9b0:decide (x4_2<(a0.size:Int))=φ:=decide_eq_false c9
       clear c9
       obtain rfl:=Option.some.inj H
       go_wp2
       go_ret
       exact ⟨by rfl,by repeat (first|exact Drawn0.refl _|apply Drawn0.step)⟩


open Go.Proofs.YtabmfhnhmoiljaaGreatDoorW.PrintWords renaming gate_callee → δv, pw_below_drewN → δi

/-! ### spec_l05Read: function 183 -/
def spec_l05Read.f (k:Nat) (l0:List (S51)) (a1:ByteArray):Option (Int):=(spec_l03Get.f k l0 a1).bind fun bt124=>(if bt124.2=τ then ((spec_l02Of.f k bt124.1).bind fun t126=>(some (mx 0 t126))) else (some 0))
set_option maxHeartbeats 8000000 in
set_option maxRecDepth 100000 in
theorem spec_l05Read.calls (k:Nat) (A0:Option Addr) (c0:Nat) (l0:List (S51)) (a1:ByteArray) (r:Int) (w:World) (hr0:Kd.C k51 w A0 l0.length l0) (hc0:l0.length≤c0) (h:spec_l05Read.f k l0 a1=some r) :
  Calls Tryz.prog 183 #[.slice A0 l0.length c0,.string a1] w fun e w'=>e = .returned (.int .i64 r)∧Below w.heap.size w w':=by
 have HR0:=ζa hr0
 have HC0:=ζa hc0
 clear hr0 hc0
 have HB:=ζa (Below.refl w.heap.size w)
 have H:((spec_l03Get.f k l0 a1).bind fun bt124=>(if bt124.2=τ then ((spec_l02Of.f k bt124.1).bind fun t126=>(some (mx 0 t126))) else (some 0)))=some r:=h
 clear h
 replace H:=Option.bind_eq_some_iff.mp H
 obtain ⟨⟨t124,t125⟩,A30,H⟩:=H
 replace H:(if t125=τ then ((spec_l02Of.f k t124).bind fun t126=>(some (mx 0 t126))) else (some 0))=some r:=H
 have A3:=ζa A30
 clear A30
 by_cases c4:t125=τ
 ·
  subst c4
  have H1:((spec_l02Of.f k t124).bind fun t126=>(some (mx 0 t126)))=some r:=by rw [if_pos rfl] at H;exact H
  clear H
  have H:=H1
  clear H1
  replace H:=Option.bind_eq_some_iff.mp H
  obtain ⟨t126,A50,H⟩:=H
  replace H:(some (mx 0 t126))=some r:=H
  have A5:=ζa A50
  clear A50
  obtain ⟨ji6,hji6⟩ : ∃ j_:Int,(mx 0 t126)=j_:=⟨_,rfl⟩
  replace H:(some ji6)=some r:=by (rw [hji6] at H;exact H)
  (try rw [hji6] at A3)
  (try rw [hji6] at A5)
  (try (have hji6l:0≤ji6:=by (rw [← hji6];unfold mx;(repeat' split) <;> omega)))
  (try (have hji6m:0≤ji6:=by omega))
  have hji6_:(if 0<t126 then t126 else 0)=ji6:=hji6
  obtain rfl:=Option.some.inj H
  go_enter Tryz.func183,Tryz.ntmps183
  go_wp2_with (first|((with_reducible refine δv (f:=102) rfl ?_);refine goesL_ (some 10) rfl rfl Tryz.func102 (by kernel_rfl) rfl #[.slice A0 l0.length c0,.string a1] rfl (by (try simp only [δd,δe,δf]);rfl) ?_;(with_reducible refine (spec_l03Get.calls k _ _ l0 a1 t124 τ _ ?side1 ?side2 A3.out).mono ?_);(case side1=>repeat (exact HR0.out));(case side2=>exact HC0.out);rintro e w' ⟨rfl,⟨nd,rfl⟩⟩;refine ⟨_,rfl,?_⟩)|((with_reducible refine δv (f:=149) rfl ?_);refine goesL_ (some 16) rfl rfl Tryz.func149 (by kernel_rfl) rfl #[.string t124] rfl (by (try simp only [δd,δe,δf]);rfl) ?_;(with_reducible refine (spec_l02Of.calls k t124 t126 _ A5.out).mono ?_);rintro e w' ⟨rfl,⟨nd,rfl⟩⟩;refine ⟨_,rfl,?_⟩))
  go_ret
  exact ⟨by rfl,by repeat ((with_reducible first|exact HB.out|apply δi))⟩
 ·
  replace c4:=Bool.eq_false_iff.mpr c4
  subst c4
  have H1:(some 0)=some r:=by rw [if_neg (show ¬ (φ=τ) by decide)] at H;exact H
  clear H
  have H:=H1
  clear H1
  obtain rfl:=Option.some.inj H
  go_enter Tryz.func183,Tryz.ntmps183
  go_wp2_with (((with_reducible refine δv (f:=102) rfl ?_);refine goesL_ (some 10) rfl rfl Tryz.func102 (by kernel_rfl) rfl #[.slice A0 l0.length c0,.string a1] rfl (by (try simp only [δd,δe,δf]);rfl) ?_;(with_reducible refine (spec_l03Get.calls k _ _ l0 a1 t124 φ _ ?side1 ?side2 A3.out).mono ?_);(case side1=>repeat (exact HR0.out));(case side2=>exact HC0.out);rintro e w' ⟨rfl,⟨nd,rfl⟩⟩;refine ⟨_,rfl,?_⟩))
  go_ret
  exact ⟨by rfl,by repeat ((with_reducible first|exact HB.out|apply δi))⟩


open Go.Proofs.YtabmfhnhmoiljaaGreatDoorW.PrintWords renaming gate_callee → δv, below_step → δr, gate_dst → δx, below_size → δs, below_drew1 → δj
open List renaming map_toArray → δd, map_cons → δe, map_nil → δf, setIfInBounds_toArray → δa, set_cons_zero → δb, set_cons_succ → δc
open Go.Proofs.YtabmfhnhmoiljaaGreatDoorW.PrintLast renaming pure_ → ζk, any_of → ζj
open Go.Act renaming put → ζl
open Go.Proofs.YtabmfhnhmoiljaaGreatDoorW.PrintWords.Kd renaming R_below → ζh

/-! ### spec_l00Digits: function 137 -/
def spec_l00Digits.f:Nat→Int→Option (ByteArray)
 | 0,_=>none
 | k+1,a0=>if a0=(-9223372036854775808) then (some (⟨#[45,57,50,50,51,51,55,50,48,51,54,56,53,52,55,55,53,56,48,56]⟩:ByteArray)) else (if a0<0 then ((spec_l00Digits.f k (ζm (-a0))).bind fun t127=>(if 1+t127.size≤9223372036854775807 then (some ((⟨#[45]⟩:ByteArray) ++ t127)) else (none))) else (if a0<10 then (some (strOfNums (([(ζm (48+a0)) % 256]:List Int)))) else ((spec_l00Digits.f k (ζm (Int.tdiv a0 10))).bind fun t131=>((some (([(ζm (48+(Int.tmod a0 10))) % 256]:List Int):List Int)).bind fun y132=>(if t131.size+(strOfNums y132).size≤9223372036854775807 then (some (t131 ++ (strOfNums y132))) else (none))))))
def spec_l00Digits.T7:Bool × List (List Nat × List Nat):=(τ,[([],[]),([0],[0]),([1],[1]),([],[]),([3],[3]),([4],[4]),([5],[5]),([6],[6]),([7],[7]),([2,8],[2,8]),([9,2,0,1,2,3,4,5,6,7,8,9],[9])])
def spec_l00Digits.B7:List Nat:=[0,1,3,0,8,24,56,120,248,511,1023]
theorem spec_l00Digits.tab7:rtab .any (opsOf Tryz.f137 7)=spec_l00Digits.T7:=by kernel_rfl
theorem spec_l00Digits.bits7:waitsOk spec_l00Digits.T7.2 spec_l00Digits.B7=τ:=by kernel_rfl
set_option maxHeartbeats 8000000 in
set_option maxRecDepth 100000 in
theorem spec_l00Digits.calls (k:Nat) : ∀ (a0:Int) (r:ByteArray) (w:World) (h:spec_l00Digits.f k a0=some r),
  Calls Tryz.prog 137 #[.int .i64 a0] w fun e w'=>e = .returned (.string r)∧Below w.heap.size w w':=by
 induction k using Nat.strongRecOn with
 | _ k ih =>
 intro a0 r w h
 cases k with
 | zero=>exact absurd h (by simp [spec_l00Digits.f])
 | succ k =>
 simp only [spec_l00Digits.f] at h
 have HB:=ζa (Below.refl w.heap.size w)
 have H:(if a0=(-9223372036854775808) then (some (⟨#[45,57,50,50,51,51,55,50,48,51,54,56,53,52,55,55,53,56,48,56]⟩:ByteArray)) else (if a0<0 then ((spec_l00Digits.f k (ζm (-a0))).bind fun t127=>(if 1+t127.size≤9223372036854775807 then (some ((⟨#[45]⟩:ByteArray) ++ t127)) else (none))) else (if a0<10 then (some (strOfNums (([(ζm (48+a0)) % 256]:List Int)))) else ((spec_l00Digits.f k (ζm (Int.tdiv a0 10))).bind fun t131=>((some (([(ζm (48+(Int.tmod a0 10))) % 256]:List Int):List Int)).bind fun y132=>(if t131.size+(strOfNums y132).size≤9223372036854775807 then (some (t131 ++ (strOfNums y132))) else (none)))))))=some r:=h
 clear h
 by_cases c2:a0=(-9223372036854775808)
 ·
  rw [if_pos c2] at H
  have c2b0:(a0 == (-9223372036854775808))=τ:=beq_iff_eq.mpr c2
  have c2b1:(a0 != (-9223372036854775808))=φ:=bne_eq_false_iff_eq.mpr c2
  clear c2
  obtain rfl:=Option.some.inj H
  go_enter Tryz.func137,Tryz.ntmps137
  go_wp2
  go_ret
  exact ⟨by rfl,by repeat ((with_reducible exact HB.out))⟩
 ·
  rw [if_neg c2] at H
  have c2b0:(a0 == (-9223372036854775808))=φ:=beq_eq_false_iff_ne.mpr c2
  have c2b1:(a0 != (-9223372036854775808))=τ:=bne_iff_ne.mpr c2
  by_cases c3:a0<0
  ·
   rw [if_pos c3] at H
   have c3b0:decide (a0<0)=τ:=decide_eq_true c3
   clear c3
   replace H:=Option.bind_eq_some_iff.mp H
   obtain ⟨t127,A40,H⟩:=H
   replace H:(if 1+t127.size≤9223372036854775807 then (some ((⟨#[45]⟩:ByteArray) ++ t127)) else (none))=some r:=H
   have A4:=ζa A40
   clear A40
   by_cases c5:1+t127.size≤9223372036854775807
   ·
    rw [if_pos c5] at H
    have c5b0:=eq_true c5
    have c5b1:decide (1+t127.size≤9223372036854775807)=τ:=decide_eq_true c5
    try have c5b2:(9223372036854775807<1+t127.size)=False:=eq_false (Nat.not_lt.2 c5)
    obtain rfl:=Option.some.inj H
    go_enter Tryz.func137,Tryz.ntmps137
    go_wp2_with (((with_reducible refine δv (f:=137) rfl ?_);refine goesL_ (some 9) rfl rfl Tryz.func137 (by kernel_rfl) rfl #[.int .i64 (ζm (-a0))] rfl (by (try simp only [δd,δe,δf]);rfl) ?_;(with_reducible refine (ih k (by omega) (ζm (-a0)) t127 _ A4.out).mono ?_);rintro e w6 ⟨rfl,hb⟩;refine ⟨_,rfl,?_⟩;have n0_:=ζa (δr (by exact HB.out) hb);clear HB;have HB:=n0_;clear n0_;(try clear hb);(try clear hb2);(try clear hk);(try clear hi)))
    go_ret
    exact ⟨by rfl,by repeat ((with_reducible exact HB.out))⟩
   ·
    rw [if_neg c5] at H
    exact absurd H (by simp)
  ·
   rw [if_neg c3] at H
   have c3b0:decide (a0<0)=φ:=decide_eq_false c3
   clear c3
   by_cases c7:a0<10
   ·
    rw [if_pos c7] at H
    have c7b0:decide (a0<10)=τ:=decide_eq_true c7
    clear c7
    obtain ⟨y128,hy128⟩ : ∃ y_:List Int,y_=(([(ζm (48+a0)) % 256]:List Int)):=⟨_,rfl⟩
    replace H:(some (strOfNums y128))=some r:=by (rw [hy128];with_reducible exact H)
    have Ny128:=ζa hy128
    clear hy128
    obtain rfl:=Option.some.inj H
    go_enter Tryz.func137,Tryz.ntmps137
    go_wp2_with (((with_reducible refine δx (N:=16) rfl ?_);refine Kd.R_lit (Kd.int .u8) _ 5 ?hg (N:=16) ?hd (xs:=([(ζm (48+a0)) % 256]:List Int)) (inner:=[.int .u8 ((ζm (48+a0)) % 256)]) (ok:=fun _=>True) (okp:=fun _=>True) ?hr ?hp (fun _ hk=>hk) trivial (Below.refl _ _) (Nat.le_refl _) (by simp) ?_;(case hd=>rfl);(case hg=>rfl);(case hr=>(go_simp;done));(case hp=>exact (Reps.one (show Kd.M (Kd.int .u8) _ _ _ ((ζm (48+a0)) % 256) [.int .u8 ((ζm (48+a0)) % 256)] from rfl) (Reps.none _ _)));intro v129 w8 ho9 hb hg_ hnew_;clear hg_ hnew_;(rw [← Ny128.out] at ho9);have n0_:=ζa (Kd.R_lower ho9 (δs (by exact HB.out)));have n1_:=ζa (δr (by exact HB.out) hb);clear HB;have HO130:=n0_;have HB:=n1_;clear n0_ n1_;clear hb ho9;have hcv10:=own_string (P:=Tryz.prog) Tryz.underlying82 Tryz.underlying5 Tryz.underlying9 (Kd.own_of_R HO130.out)))
    go_ret
    exact ⟨by rfl,by repeat ((with_reducible exact HB.out))⟩
   ·
    rw [if_neg c7] at H
    have c7b0:decide (a0<10)=φ:=decide_eq_false c7
    clear c7
    replace H:=Option.bind_eq_some_iff.mp H
    obtain ⟨t131,A110,H⟩:=H
    replace H:((some (([(ζm (48+(Int.tmod a0 10))) % 256]:List Int):List Int)).bind fun y132=>(if t131.size+(strOfNums y132).size≤9223372036854775807 then (some (t131 ++ (strOfNums y132))) else (none)))=some r:=H
    have A11:=ζa A110
    clear A110
    obtain ⟨y132,hy132⟩ : ∃ y_:List Int,y_=(([(ζm (48+(Int.tmod a0 10))) % 256]:List Int)):=⟨_,rfl⟩
    replace H:(if t131.size+(strOfNums y132).size≤9223372036854775807 then (some (t131 ++ (strOfNums y132))) else (none))=some r:=by (have H2_:=(Option.bind_some _ _).symm.trans H;rw [hy132];with_reducible exact H2_)
    have Ny132:=ζa hy132
    clear hy132
    by_cases c12:t131.size+(strOfNums y132).size≤9223372036854775807
    ·
     rw [if_pos c12] at H
     have c12b0:=eq_true c12
     have c12b1:decide (t131.size+(strOfNums y132).size≤9223372036854775807)=τ:=decide_eq_true c12
     try have c12b2:(9223372036854775807<t131.size+(strOfNums y132).size)=False:=eq_false (Nat.not_lt.2 c12)
     obtain rfl:=Option.some.inj H
     go_enter Tryz.func137,Tryz.ntmps137
     try go_wp2
     have n0_:=ζa (δj HB.out)
     clear HB
     have HB:=n0_
     clear n0_
     refine start_ (n:=11) (S:=fun w'=>True) (ds:=[]) #[φ,φ,φ,φ,φ,φ,φ,φ,φ,φ,φ] (by kernel_rfl) rfl rfl trivial (fun hHeld => ?_);refine with_tabW spec_l00Digits.tab7 spec_l00Digits.bits7 (fun HT_ HW_ => ?_)
     generalize w.drew=w13 at HB hHeld ⊢
     refine ζk (i:=0) (N:=some 18) (v:=?_) (a':=?_) #[τ,φ,φ,φ,φ,φ,φ,φ,φ,φ,φ] rfl rfl (ζj HT_.out (by kernel_rfl)) (fun _ _ _ h=>h) (Or.inl ⟨by rfl,?_⟩) ?_ ?_
     rotate_left
     · intro w';go_simp;with_reducible rfl
     rotate_left
     · simp only [ζl,δa,δb,δc,i64_w,i32_w];rfl
     refine ζk (i:=1) (N:=some 19) (v:=?_) (a':=?_) #[τ,τ,φ,φ,φ,φ,φ,φ,φ,φ,φ] rfl rfl (ζj HT_.out (by kernel_rfl)) (fun _ _ _ h=>h) (Or.inl ⟨by rfl,?_⟩) ?_ ?_
     rotate_left
     · intro w';go_simp;with_reducible rfl
     rotate_left
     · simp only [ζl,δa,δb,δc,i64_w,i32_w];rfl
     refine ζk (i:=3) (N:=some 21) (v:=?_) (a':=?_) #[τ,τ,φ,τ,φ,φ,φ,φ,φ,φ,φ] rfl rfl (ζj HT_.out (by kernel_rfl)) (fun _ _ _ h=>h) (Or.inl ⟨by rfl,?_⟩) ?_ ?_
     rotate_left
     · intro w';go_simp;with_reducible rfl
     rotate_left
     · simp only [ζl,δa,δb,δc,i64_w,i32_w];rfl
     refine ζk (i:=4) (N:=some 22) (v:=?_) (a':=?_) #[τ,τ,φ,τ,τ,φ,φ,φ,φ,φ,φ] rfl rfl (ζj HT_.out (by kernel_rfl)) (fun _ _ _ h=>h) (Or.inl ⟨by rfl,?_⟩) ?_ ?_
     rotate_left
     · intro w';go_simp;with_reducible rfl
     rotate_left
     · simp only [ζl,δa,δb,δc,i64_w,i32_w];rfl
     refine ζk (i:=5) (N:=some 23) (v:=?_) (a':=?_) #[τ,τ,φ,τ,τ,τ,φ,φ,φ,φ,φ] rfl rfl (ζj HT_.out (by kernel_rfl)) (fun _ _ _ h=>h) (Or.inl ⟨by rfl,?_⟩) ?_ ?_
     rotate_left
     · intro w';go_simp;with_reducible rfl
     rotate_left
     · simp only [ζl,δa,δb,δc,i64_w,i32_w];rfl
     refine ζk (i:=6) (N:=some 24) (v:=?_) (a':=?_) #[τ,τ,φ,τ,τ,τ,τ,φ,φ,φ,φ] rfl rfl (ζj HT_.out (by kernel_rfl)) (fun _ _ _ h=>h) (Or.inl ⟨by rfl,?_⟩) ?_ ?_
     rotate_left
     · intro w';go_simp;with_reducible rfl
     rotate_left
     · simp only [ζl,δa,δb,δc,i64_w,i32_w];rfl
     refine join_ (σ:=Value) 2 #[τ,τ,τ,τ,τ,τ,τ,τ,τ,φ,φ] (fun s_ => [(20,.string t131),(25,s_),(26,.string (strOfNums y132))]) (fun s_ w'=>(Kd.R (Kd.int .u8) 5 w' w.heap.size (fun _=>True) s_ y132)∧(Below w.heap.size w w')) ?_ ?_
     rotate_left
     ·
      intro hCont
      refine two_ (i:=2) (j:=7) (Ni:=some 20) (Nj:=some 25) #[τ,τ,τ,τ,τ,τ,τ,φ,φ,φ,φ] #[τ,τ,φ,τ,τ,τ,τ,τ,φ,φ,φ] rfl rfl rfl rfl (two_of HT_.out (by kernel_rfl)) (by decide) (by decide) (fun K hK => ?_) (fun K hK => ?_)
      ·
       skip
       refine goes_ Tryz.func137 (by kernel_rfl) rfl #[.int .i64 (ζm (Int.tdiv a0 10))] (by rfl) rfl rfl (by (try simp only [δd,δe,δf]);rfl) ?_
       with_reducible refine (ih k (by omega) (ζm (Int.tdiv a0 10)) t131 _ A11.out).mono ?_
       rintro e w14 ⟨rfl,hb⟩
       refine ⟨_,rfl,?_⟩
       have n0_:=ζa (δr (by exact HB.out) hb)
       clear HB
       have HB:=n0_
       clear n0_
       (try clear hb)
       (try clear hb2)
       (try clear hk)
       (try clear hi)
       refine hK.out _ _ trivial (fun hHeld => ?_)
       clear hK K
       refine norm_ (a':=?_) ?_ ?_
       rotate_left
       ·
        show ζl _ (some 20) _=_
        simp only [ζl,δa,δb,δc,i64_w,i32_w];rfl
       refine one_ (i:=7) (N:=some 25) #[τ,τ,τ,τ,τ,τ,τ,τ,φ,φ,φ] rfl rfl (one_of HT_.out (by kernel_rfl)) (by decide) (fun K hK => ?_)
       refine Kd.R_lit_step (Kd.int .u8) _ 5 ?hg (N:=25) ?hd (xs:=([(ζm (48+(Int.tmod a0 10))) % 256]:List Int)) (inner:=[.int .u8 ((ζm (48+(Int.tmod a0 10))) % 256)]) (ok:=fun _=>True) (okp:=fun _=>True) ?hr ?hp (fun _ hk=>hk) trivial (Below.refl _ _) (Nat.le_refl _) (by simp) ?_;(case hd=>rfl);(case hg=>rfl);(case hr=>(go_simp;rfl));(case hp=>exact (Reps.one (show Kd.M (Kd.int .u8) _ _ _ ((ζm (48+(Int.tmod a0 10))) % 256) [.int .u8 ((ζm (48+(Int.tmod a0 10))) % 256)] from rfl) (Reps.none _ _)))
       intro v133 w15 ho16 hb hg_ hnew_
       clear hg_ hnew_
       (rw [← Ny132.out] at ho16)
       have n0_:=ζa (Kd.R_lower ho16 (δs (by exact HB.out)))
       have n1_:=ζa (δr (by exact HB.out) hb)
       clear HB
       have HO134:=n0_
       have HB:=n1_
       clear n0_ n1_
       clear hb ho16
       refine hK.out _ _ trivial (fun hHeld => ?_)
       clear hK K
       refine norm_ (a':=?_) ?_ ?_
       rotate_left
       ·
        show ζl _ (some 25) _=_
        simp only [ζl,δa,δb,δc,i64_w,i32_w];rfl
       refine one_ (i:=8) (N:=some 26) #[τ,τ,τ,τ,τ,τ,τ,τ,τ,φ,φ] rfl rfl (one_of HT_.out (by kernel_rfl)) (by decide) (fun K hK => ?_)
       have hcv17:=own_string (P:=Tryz.prog) Tryz.underlying82 Tryz.underlying5 Tryz.underlying9 (Kd.own_of_R HO134.out)
       refine value_ (w1:=?_) (v:=?_) (by rfl) rfl ?_ ?_
       rotate_left 2
       ·
        go_simp
        constructor
        · rfl
        ·
         rfl
       clear hcv17
       refine hK.out _ _ trivial (fun hHeld => ?_)
       clear hK K
       refine norm_ (a':=?_) ?_ ?_
       rotate_left
       ·
        show ζl _ (some 26) _=_
        simp only [ζl,δa,δb,δc,i64_w,i32_w];rfl
       exact norm_ (by simp only [putAll,ζl,δa,δb,δc]) (hCont (v133) _ ⟨(by exact HO134.out),(by exact HB.out)⟩)
      ·
       skip
       refine Kd.R_lit_step (Kd.int .u8) _ 5 ?hg (N:=25) ?hd (xs:=([(ζm (48+(Int.tmod a0 10))) % 256]:List Int)) (inner:=[.int .u8 ((ζm (48+(Int.tmod a0 10))) % 256)]) (ok:=fun _=>True) (okp:=fun _=>True) ?hr ?hp (fun _ hk=>hk) trivial (Below.refl _ _) (Nat.le_refl _) (by simp) ?_;(case hd=>rfl);(case hg=>rfl);(case hr=>(go_simp;rfl));(case hp=>exact (Reps.one (show Kd.M (Kd.int .u8) _ _ _ ((ζm (48+(Int.tmod a0 10))) % 256) [.int .u8 ((ζm (48+(Int.tmod a0 10))) % 256)] from rfl) (Reps.none _ _)))
       intro v133 w14 ho15 hb hg_ hnew_
       clear hg_ hnew_
       (rw [← Ny132.out] at ho15)
       have n0_:=ζa (Kd.R_lower ho15 (δs (by exact HB.out)))
       have n1_:=ζa (δr (by exact HB.out) hb)
       clear HB
       have HO134:=n0_
       have HB:=n1_
       clear n0_ n1_
       clear hb ho15
       refine hK.out _ _ trivial (fun hHeld => ?_)
       clear hK K
       refine norm_ (a':=?_) ?_ ?_
       rotate_left
       ·
        show ζl _ (some 25) _=_
        simp only [ζl,δa,δb,δc,i64_w,i32_w];rfl
       refine two_ (i:=2) (j:=8) (Ni:=some 20) (Nj:=some 26) #[τ,τ,τ,τ,τ,τ,τ,τ,φ,φ,φ] #[τ,τ,φ,τ,τ,τ,τ,τ,τ,φ,φ] rfl rfl rfl rfl (two_of HT_.out (by kernel_rfl)) (by decide) (by decide) (fun K hK => ?_) (fun K hK => ?_)
       ·
        skip
        refine goes_ Tryz.func137 (by kernel_rfl) rfl #[.int .i64 (ζm (Int.tdiv a0 10))] (by rfl) rfl rfl (by (try simp only [δd,δe,δf]);rfl) ?_
        with_reducible refine (ih k (by omega) (ζm (Int.tdiv a0 10)) t131 _ A11.out).mono ?_
        rintro e w16 ⟨rfl,hb⟩
        refine ⟨_,rfl,?_⟩
        have n0_:=ζa (ζh (by exact HO134.out) hb)
        have n1_:=ζa (δr (by exact HB.out) hb)
        clear HO134
        clear HB
        have HO134:=n0_
        have HB:=n1_
        clear n0_ n1_
        (try clear hb)
        (try clear hb2)
        (try clear hk)
        (try clear hi)
        refine hK.out _ _ trivial (fun hHeld => ?_)
        clear hK K
        refine norm_ (a':=?_) ?_ ?_
        rotate_left
        ·
         show ζl _ (some 20) _=_
         simp only [ζl,δa,δb,δc,i64_w,i32_w];rfl
        refine one_ (i:=8) (N:=some 26) #[τ,τ,τ,τ,τ,τ,τ,τ,τ,φ,φ] rfl rfl (one_of HT_.out (by kernel_rfl)) (by decide) (fun K hK => ?_)
        have hcv17:=own_string (P:=Tryz.prog) Tryz.underlying82 Tryz.underlying5 Tryz.underlying9 (Kd.own_of_R HO134.out)
        refine value_ (w1:=?_) (v:=?_) (by rfl) rfl ?_ ?_
        rotate_left 2
        ·
         go_simp
         constructor
         · rfl
         ·
          rfl
        clear hcv17
        refine hK.out _ _ trivial (fun hHeld => ?_)
        clear hK K
        refine norm_ (a':=?_) ?_ ?_
        rotate_left
        ·
         show ζl _ (some 26) _=_
         simp only [ζl,δa,δb,δc,i64_w,i32_w];rfl
        exact norm_ (by simp only [putAll,ζl,δa,δb,δc]) (hCont (v133) _ ⟨(by exact HO134.out),(by exact HB.out)⟩)
       ·
        skip
        have hcv16:=own_string (P:=Tryz.prog) Tryz.underlying82 Tryz.underlying5 Tryz.underlying9 (Kd.own_of_R HO134.out)
        refine value_ (w1:=?_) (v:=?_) (by rfl) rfl ?_ ?_
        rotate_left 2
        ·
         go_simp
         constructor
         · rfl
         ·
          rfl
        clear hcv16
        refine hK.out _ _ trivial (fun hHeld => ?_)
        clear hK K
        refine norm_ (a':=?_) ?_ ?_
        rotate_left
        ·
         show ζl _ (some 26) _=_
         simp only [ζl,δa,δb,δc,i64_w,i32_w];rfl
        refine one_ (i:=2) (N:=some 20) #[τ,τ,τ,τ,τ,τ,τ,τ,τ,φ,φ] rfl rfl (one_of HT_.out (by kernel_rfl)) (by decide) (fun K hK => ?_)
        refine goes_ Tryz.func137 (by kernel_rfl) rfl #[.int .i64 (ζm (Int.tdiv a0 10))] (by rfl) rfl rfl (by (try simp only [δd,δe,δf]);rfl) ?_
        with_reducible refine (ih k (by omega) (ζm (Int.tdiv a0 10)) t131 _ A11.out).mono ?_
        rintro e w17 ⟨rfl,hb⟩
        refine ⟨_,rfl,?_⟩
        have n0_:=ζa (ζh (by exact HO134.out) hb)
        have n1_:=ζa (δr (by exact HB.out) hb)
        clear HO134
        clear HB
        have HO134:=n0_
        have HB:=n1_
        clear n0_ n1_
        (try clear hb)
        (try clear hb2)
        (try clear hk)
        (try clear hi)
        refine hK.out _ _ trivial (fun hHeld => ?_)
        clear hK K
        refine norm_ (a':=?_) ?_ ?_
        rotate_left
        ·
         show ζl _ (some 20) _=_
         simp only [ζl,δa,δb,δc,i64_w,i32_w];rfl
        exact norm_ (by simp only [putAll,ζl,δa,δb,δc]) (hCont (v133) _ ⟨(by exact HO134.out),(by exact HB.out)⟩)
     rintro v133 w18 ⟨h0_,h1_⟩
     have n0_:Aside0 (Kd.R (Kd.int .u8) 5 w18 w.heap.size (fun _=>True) v133 y132):=⟨h0_⟩
     have n1_:Aside0 (Below w.heap.size w w18):=⟨h1_⟩
     clear HB
     clear h0_ h1_
     have HO134:=n0_
     have HB:=n1_
     clear n0_ n1_
     have hHeld:=trivial
     refine norm_ (a':=?_) ?_ ?_
     rotate_left
     · simp only [putAll,ζl,δa,δb,δc];rfl
     refine ζk (i:=9) (N:=some 27) (v:=?_) (a':=?_) #[τ,τ,τ,τ,τ,τ,τ,τ,τ,τ,φ] rfl rfl (ζj HT_.out (by kernel_rfl)) (fun _ _ _ h=>h) (Or.inl ⟨by rfl,?_⟩) ?_ ?_
     rotate_left
     · intro w';go_simp;with_reducible rfl
     rotate_left
     · simp only [ζl,δa,δb,δc,i64_w,i32_w];rfl
     refine ζk (i:=10) (N:=some 2) (v:=?_) (a':=?_) #[τ,τ,τ,τ,τ,τ,τ,τ,τ,τ,τ] rfl rfl (ζj HT_.out (by kernel_rfl)) (fun _ _ _ h=>h) (Or.inl ⟨by rfl,?_⟩) ?_ ?_
     rotate_left
     · intro w';go_simp;with_reducible rfl
     rotate_left
     · simp only [ζl,δa,δb,δc,i64_w,i32_w];rfl
     refine done_ (done_of HT_.out (by kernel_rfl)) ?_
     try go_wp2
     go_ret
     exact ⟨by rfl,by repeat ((with_reducible exact HB.out))⟩
    ·
     rw [if_neg c12] at H
     exact absurd H (by simp)


open Go.Proofs.YtabmfhnhmoiljaaGreatDoorW.PrintWords renaming below_step → δr

/-! ### spec_l05Write: function 184 -/
def spec_l05Write.f (k:Nat) (list:List S51) (key:ByteArray) (n:Int):Option (List S51 × Int) :=
 if n=0 then ((spec_l03Drop.f k list key).bind fun q1=>some (q1.1,0)) else ((spec_l00Digits.f k n).bind fun q2=>(spec_l03Put.f k list key q2).bind fun q3=>some (q3.1,q3.2))
set_option maxHeartbeats 4000000 in
set_option maxRecDepth 100000 in
theorem spec_l05Write.calls (k:Nat) (A_list:Option Addr) (c_list:Nat) (list:List S51) (key:ByteArray) (n:Int) (r1:List S51) (r2:Int) (w:World) (hr0_list:Kd.C k51 w A_list list.length list) (hc0_list:list.length≤c_list) (h:spec_l05Write.f k list key n=some (r1,r2)) :
  Calls Tryz.prog 184 #[.slice A_list list.length c_list,.string key,.int .i64 n] w fun e w' => ∃ v0_:Value,e = .returned (.tuple #[v0_,.int .i64 r2])∧Sf w w' (.slice A_list list.length c_list) list v0_ r1∧Below w.heap.size w w':=by
 have HR0_list:=ζa hr0_list
 have HC0_list:=ζa hc0_list
 clear hr0_list hc0_list
 have HB0:=ζa (Below.refl w.heap.size w)
 unfold spec_l05Write.f at h
 have HH:=ζa h
 clear h
 go_enter Tryz.func184,Tryz.ntmps184
 have h:=HH.out
 clear HH
 by_cases cc1:n=0
 ·
  rw [if_pos cc1] at h
  have HH:=ζa h
  clear h
  have f1a:(n == 0)=τ:=beq_iff_eq.mpr cc1
  have f1b:(n != 0)=φ:=bne_eq_false_iff_eq.mpr cc1
  have C1:=ζa cc1
  clear cc1
  have h:=HH.out
  clear HH
  obtain ⟨⟨o1,c1⟩,h2_,h⟩:=Option.bind_eq_some_iff.mp h
  have HH:=ζa h
  have H2:=ζa h2_
  clear h h2_
  go_wp2_with fail
  refine (spec_l03Drop.calls k A_list c_list list key o1 c1 _ (by repeat (exact Kd.C_below HR0_list.out HB0.out)) HC0_list.out H2.out).mono ?_
  rintro e w2 ⟨v2,rfl,ho,hb⟩
  have hsf:=Sf.trans (by exact ⟨Or.inl ⟨rfl,rfl⟩⟩) ho hb (Below.size (show Below w.heap.size w _ from by repeat (exact HB0.out)))
  obtain ⟨adr2,cap2,rfl,hl2,hq2⟩:=Sf.reads ho (Kd.C_below HR0_list.out (δr (by repeat (exact HB0.out)) hb)) HC0_list.out
  have HC2:=ζa hl2
  have HRn2:=ζa hq2
  have HS2:=ζa hsf
  clear hl2 hq2 ho hsf
  have m_:=ζa (δr (by repeat (exact HB0.out)) hb)
  clear hb
  have HB2:=m_
  clear m_
  have h:=HH.out
  clear HH
  simp only [Option.some.injEq,Prod.mk.injEq] at h
  obtain ⟨rfl,rfl⟩:=h
  go_wp2
  go_ret2
  exact ⟨_,rfl,(by repeat (exact HS2.out)),(by repeat (exact HB2.out))⟩
 ·
  rw [if_neg cc1] at h
  have HH:=ζa h
  clear h
  have f1a:(n == 0)=φ:=beq_eq_false_iff_ne.mpr cc1
  have f1b:(n != 0)=τ:=bne_iff_ne.mpr cc1
  have C1:=ζa cc1
  clear cc1
  have h:=HH.out
  clear HH
  obtain ⟨t1,h3_,h⟩:=Option.bind_eq_some_iff.mp h
  have HH:=ζa h
  have H3:=ζa h3_
  clear h h3_
  go_wp2_with fail
  refine (spec_l00Digits.calls k n t1 _ H3.out).mono ?_
  rintro e w3 ⟨rfl,hb⟩
  have m_:=ζa (δr (by repeat (exact HB0.out)) hb)
  clear hb
  have HB3:=m_
  clear m_
  have h:=HH.out
  clear HH
  obtain ⟨⟨o2,c2⟩,h4_,h⟩:=Option.bind_eq_some_iff.mp h
  have HH:=ζa h
  have H4:=ζa h4_
  clear h h4_
  go_wp2_with fail
  refine (spec_l03Put.calls k A_list c_list list key t1 o2 c2 _ (by repeat (exact Kd.C_below HR0_list.out HB3.out)) HC0_list.out H4.out).mono ?_
  rintro e w4 ⟨v4,rfl,ho,hb⟩
  have hsf:=Sf.trans (by exact ⟨Or.inl ⟨rfl,rfl⟩⟩) ho hb (Below.size (show Below w.heap.size w _ from by repeat (exact HB3.out)))
  obtain ⟨adr4,cap4,rfl,hl4,hq4⟩:=Sf.reads ho (Kd.C_below HR0_list.out (δr (by repeat (exact HB3.out)) hb)) HC0_list.out
  have HC4:=ζa hl4
  have HRn4:=ζa hq4
  have HS4:=ζa hsf
  clear hl4 hq4 ho hsf
  have m_:=ζa (δr (by repeat (exact HB3.out)) hb)
  clear hb
  have HB4:=m_
  clear m_
  have h:=HH.out
  clear HH
  simp only [Option.some.injEq,Prod.mk.injEq] at h
  obtain ⟨rfl,rfl⟩:=h
  go_wp2
  go_ret2
  exact ⟨_,rfl,(by repeat (exact HS4.out)),(by repeat (exact HB4.out))⟩



/-! ### spec_l05Add: function 134 -/
def spec_l05Add.f (k:Nat) (list:List S51) (key:ByteArray) (n:Int):Option (List S51 × Int) :=
 (spec_l05Read.f k list key).bind fun q1=>if ζm (q1+n)<0 then (some (list,12)) else (if 1000000000000000000<ζm (q1+n) then (some (list,13)) else ((spec_l05Write.f k list key (ζm (q1+n))).bind fun q2=>some (q2.1,q2.2)))
set_option maxHeartbeats 4000000 in
set_option maxRecDepth 100000 in
theorem spec_l05Add.calls (k:Nat) (A_list:Option Addr) (c_list:Nat) (list:List S51) (key:ByteArray) (n:Int) (r1:List S51) (r2:Int) (w:World) (hr0_list:Kd.C k51 w A_list list.length list) (hc0_list:list.length≤c_list) (h:spec_l05Add.f k list key n=some (r1,r2)) :
  Calls Tryz.prog 134 #[.slice A_list list.length c_list,.string key,.int .i64 n] w fun e w' => ∃ v0_:Value,e = .returned (.tuple #[v0_,.int .i64 r2])∧Sf w w' (.slice A_list list.length c_list) list v0_ r1∧Below w.heap.size w w':=by
 have HR0_list:=ζa hr0_list
 have HC0_list:=ζa hc0_list
 clear hr0_list hc0_list
 have HB0:=ζa (Below.refl w.heap.size w)
 unfold spec_l05Add.f at h
 have HH:=ζa h
 clear h
 go_enter Tryz.func134,Tryz.ntmps134
 have h:=HH.out
 clear HH
 obtain ⟨a1,h1_,h⟩:=Option.bind_eq_some_iff.mp h
 have HH:=ζa h
 have H1:=ζa h1_
 clear h h1_
 go_wp2_with fail
 refine (spec_l05Read.calls k A_list c_list list key a1 _ (by repeat (exact Kd.C_below HR0_list.out HB0.out)) HC0_list.out H1.out).mono ?_
 rintro e w1 ⟨rfl,hb⟩
 have m_:=ζa (δr (by repeat (exact HB0.out)) hb)
 clear hb
 have HB1:=m_
 clear m_
 have h:=HH.out
 clear HH
 by_cases cc2:ζm (a1+n)<0
 ·
  rw [if_pos cc2] at h
  have HH:=ζa h
  clear h
  have f2a:decide (ζm (a1+n)<0)=τ:=decide_eq_true cc2
  have C2:=ζa cc2
  clear cc2
  have h:=HH.out
  clear HH
  simp only [Option.some.injEq,Prod.mk.injEq] at h
  obtain ⟨rfl,rfl⟩:=h
  go_wp2
  go_ret2
  exact ⟨_,rfl,⟨Or.inl ⟨rfl,rfl⟩⟩,(by repeat (exact HB1.out))⟩
 ·
  rw [if_neg cc2] at h
  have HH:=ζa h
  clear h
  have f2a:decide (ζm (a1+n)<0)=φ:=decide_eq_false cc2
  have C2:=ζa cc2
  clear cc2
  have h:=HH.out
  clear HH
  by_cases cc3:1000000000000000000<ζm (a1+n)
  ·
   rw [if_pos cc3] at h
   have HH:=ζa h
   clear h
   have f3a:decide (1000000000000000000<ζm (a1+n))=τ:=decide_eq_true cc3
   have C3:=ζa cc3
   clear cc3
   have h:=HH.out
   clear HH
   simp only [Option.some.injEq,Prod.mk.injEq] at h
   obtain ⟨rfl,rfl⟩:=h
   go_wp2
   go_ret2
   exact ⟨_,rfl,⟨Or.inl ⟨rfl,rfl⟩⟩,(by repeat (exact HB1.out))⟩
  ·
   rw [if_neg cc3] at h
   have HH:=ζa h
   clear h
   have f3a:decide (1000000000000000000<ζm (a1+n))=φ:=decide_eq_false cc3
   have C3:=ζa cc3
   clear cc3
   have h:=HH.out
   clear HH
   obtain ⟨⟨o1,c1⟩,h4_,h⟩:=Option.bind_eq_some_iff.mp h
   have HH:=ζa h
   have H4:=ζa h4_
   clear h h4_
   go_wp2_with fail
   refine (spec_l05Write.calls k A_list c_list list key (ζm (a1+n)) o1 c1 _ (by repeat (exact Kd.C_below HR0_list.out HB1.out)) HC0_list.out H4.out).mono ?_
   rintro e w4 ⟨v4,rfl,ho,hb⟩
   have hsf:=Sf.trans (by exact ⟨Or.inl ⟨rfl,rfl⟩⟩) ho hb (Below.size (show Below w.heap.size w _ from by repeat (exact HB1.out)))
   obtain ⟨adr4,cap4,rfl,hl4,hq4⟩:=Sf.reads ho (Kd.C_below HR0_list.out (δr (by repeat (exact HB1.out)) hb)) HC0_list.out
   have HC4:=ζa hl4
   have HRn4:=ζa hq4
   have HS4:=ζa hsf
   clear hl4 hq4 ho hsf
   have m_:=ζa (δr (by repeat (exact HB1.out)) hb)
   clear hb
   have HB4:=m_
   clear m_
   have h:=HH.out
   clear HH
   simp only [Option.some.injEq,Prod.mk.injEq] at h
   obtain ⟨rfl,rfl⟩:=h
   go_wp2
   go_ret2
   exact ⟨_,rfl,(by repeat (exact HS4.out)),(by repeat (exact HB4.out))⟩



/-! ### spec_l05Key: function 135 -/
def spec_l05Key.f (a0:ByteArray) (a1:ByteArray):Option (ByteArray):=if a0.size+a1.size≤1000000000000 then some ((((⟨#[98,47]⟩:ByteArray) ++ a1) ++ (⟨#[47]⟩:ByteArray)) ++ a0) else none
set_option maxHeartbeats 1000000 in
theorem spec_l05Key.calls (a0:ByteArray) (a1:ByteArray) (r:ByteArray) (w:World) (h:spec_l05Key.f a0 a1=some r) :
  Calls Tryz.prog 135 #[.string a0,.string a1] w fun e w'=>e = .returned (.string r)∧Drawn0 w w':=by
 unfold spec_l05Key.f at h
 by_cases c:a0.size+a1.size≤1000000000000
 ·
  rw [if_pos c] at h
  obtain rfl:=Option.some.inj h
  have c1:(2+a1.size≤9223372036854775807)=True:=eq_true (by omega)
  have c2:(9223372036854775807<2+a1.size)=False:=eq_false (by omega)
  have c3:(2+a1.size+1≤9223372036854775807)=True:=eq_true (by omega)
  have c4:(9223372036854775807<2+a1.size+1)=False:=eq_false (by omega)
  have c5:(2+a1.size+1+a0.size≤9223372036854775807)=True:=eq_true (by omega)
  have c6:(9223372036854775807<2+a1.size+1+a0.size)=False:=eq_false (by omega)
  clear c
  go_enter Tryz.func135,Tryz.ntmps135
  go_wp2
  go_ret
  exact ⟨by rfl,by repeat (exact Drawn0.refl _)⟩
 · rw [if_neg c] at h;cases h



/-! ### spec_l05Move: function 78 -/
def spec_l05Move.f (k:Nat) (list:List S51) (from_:ByteArray) (to_:ByteArray) (denom:ByteArray) (n:Int):Option (List S51 × Int) :=
 (spec_l05Key.f from_ denom).bind fun q1=>(spec_l05Add.f k list q1 (ζm (-n))).bind fun q2=>if q2.2=0 then ((spec_l05Key.f to_ denom).bind fun q3=>(spec_l05Add.f k q2.1 q3 n).bind fun q4=>if q4.2=0 then (some (q4.1,0)) else (some (list,q4.2))) else (some (list,q2.2))
set_option maxHeartbeats 4000000 in
set_option maxRecDepth 100000 in
theorem spec_l05Move.calls (k:Nat) (A_list:Option Addr) (c_list:Nat) (list:List S51) (from_:ByteArray) (to_:ByteArray) (denom:ByteArray) (n:Int) (r1:List S51) (r2:Int) (w:World) (hr0_list:Kd.C k51 w A_list list.length list) (hc0_list:list.length≤c_list) (h:spec_l05Move.f k list from_ to_ denom n=some (r1,r2)) :
  Calls Tryz.prog 78 #[.slice A_list list.length c_list,.string from_,.string to_,.string denom,.int .i64 n] w fun e w' => ∃ v0_:Value,e = .returned (.tuple #[v0_,.int .i64 r2])∧Sf w w' (.slice A_list list.length c_list) list v0_ r1∧Below w.heap.size w w':=by
 have HR0_list:=ζa hr0_list
 have HC0_list:=ζa hc0_list
 clear hr0_list hc0_list
 have HB0:=ζa (Below.refl w.heap.size w)
 unfold spec_l05Move.f at h
 have HH:=ζa h
 clear h
 go_enter Tryz.func78,Tryz.ntmps78
 have h:=HH.out
 clear HH
 obtain ⟨k1,h1_,h⟩:=Option.bind_eq_some_iff.mp h
 have HH:=ζa h
 have H1:=ζa h1_
 clear h h1_
 go_wp2_with fail
 refine (spec_l05Key.calls from_ denom k1 _ H1.out).mono ?_
 rintro e w1 ⟨rfl,hd⟩
 have hb:=hd.below
 clear hd
 have m_:=ζa (δr (by repeat (exact HB0.out)) hb)
 clear hb
 have HB1:=m_
 clear m_
 have h:=HH.out
 clear HH
 obtain ⟨⟨o1,c1⟩,h2_,h⟩:=Option.bind_eq_some_iff.mp h
 have HH:=ζa h
 have H2:=ζa h2_
 clear h h2_
 go_wp2_with fail
 refine (spec_l05Add.calls k A_list c_list list k1 (ζm (-n)) o1 c1 _ (by repeat (exact Kd.C_below HR0_list.out HB1.out)) HC0_list.out H2.out).mono ?_
 rintro e w2 ⟨v2,rfl,ho,hb⟩
 have hsf:=Sf.trans (by exact ⟨Or.inl ⟨rfl,rfl⟩⟩) ho hb (Below.size (show Below w.heap.size w _ from by repeat (exact HB1.out)))
 obtain ⟨adr2,cap2,rfl,hl2,hq2⟩:=Sf.reads ho (Kd.C_below HR0_list.out (δr (by repeat (exact HB1.out)) hb)) HC0_list.out
 have HC2:=ζa hl2
 have HRn2:=ζa hq2
 have HS2:=ζa hsf
 clear hl2 hq2 ho hsf
 have m_:=ζa (δr (by repeat (exact HB1.out)) hb)
 clear hb
 have HB2:=m_
 clear m_
 have h:=HH.out
 clear HH
 by_cases cc3:c1=0
 ·
  rw [if_pos cc3] at h
  have HH:=ζa h
  clear h
  have f3a:(c1 == 0)=τ:=beq_iff_eq.mpr cc3
  have f3b:(c1 != 0)=φ:=bne_eq_false_iff_eq.mpr cc3
  have C3:=ζa cc3
  clear cc3
  have h:=HH.out
  clear HH
  obtain ⟨k2,h4_,h⟩:=Option.bind_eq_some_iff.mp h
  have HH:=ζa h
  have H4:=ζa h4_
  clear h h4_
  go_wp2_with fail
  refine (spec_l05Key.calls to_ denom k2 _ H4.out).mono ?_
  rintro e w4 ⟨rfl,hd⟩
  have hb:=hd.below
  clear hd
  have m_:=ζa (Kd.C_below (by repeat (exact HRn2.out)) hb)
  clear HRn2
  have HRn2:=m_
  clear m_
  have m_:=ζa (Sf.below (by repeat (exact HS2.out)) hb)
  clear HS2
  have HS2:=m_
  clear m_
  have m_:=ζa (δr (by repeat (exact HB2.out)) hb)
  clear hb
  have HB4:=m_
  clear m_
  have h:=HH.out
  clear HH
  obtain ⟨⟨o2,c2⟩,h5_,h⟩:=Option.bind_eq_some_iff.mp h
  have HH:=ζa h
  have H5:=ζa h5_
  clear h h5_
  go_wp2_with fail
  refine (spec_l05Add.calls k adr2 cap2 o1 k2 n o2 c2 _ (by repeat (exact HRn2.out)) HC2.out H5.out).mono ?_
  rintro e w5 ⟨v5,rfl,ho,hb⟩
  have hsf:=Sf.trans (by repeat (exact HS2.out)) ho hb (Below.size (show Below w.heap.size w _ from by repeat (exact HB4.out)))
  have m_:=ζa (Kd.C_below (by repeat (exact HRn2.out)) hb)
  clear HRn2
  have HRn2:=m_
  clear m_
  have m_:=ζa (Sf.below (by repeat (exact HS2.out)) hb)
  clear HS2
  have HS2:=m_
  clear m_
  obtain ⟨adr5,cap5,rfl,hl5,hq5⟩:=Sf.reads ho (HRn2.out) HC2.out
  have HC5:=ζa hl5
  have HRn5:=ζa hq5
  have HS5:=ζa hsf
  clear hl5 hq5 ho hsf
  have m_:=ζa (δr (by repeat (exact HB4.out)) hb)
  clear hb
  have HB5:=m_
  clear m_
  have h:=HH.out
  clear HH
  by_cases cc6:c2=0
  ·
   rw [if_pos cc6] at h
   have HH:=ζa h
   clear h
   have f6a:(c2 == 0)=τ:=beq_iff_eq.mpr cc6
   have f6b:(c2 != 0)=φ:=bne_eq_false_iff_eq.mpr cc6
   have C6:=ζa cc6
   clear cc6
   have h:=HH.out
   clear HH
   simp only [Option.some.injEq,Prod.mk.injEq] at h
   obtain ⟨rfl,rfl⟩:=h
   go_wp2
   go_ret2
   exact ⟨_,rfl,(by repeat (exact HS5.out)),(by repeat (exact HB5.out))⟩
  ·
   rw [if_neg cc6] at h
   have HH:=ζa h
   clear h
   have f6a:(c2 == 0)=φ:=beq_eq_false_iff_ne.mpr cc6
   have f6b:(c2 != 0)=τ:=bne_iff_ne.mpr cc6
   have C6:=ζa cc6
   clear cc6
   have h:=HH.out
   clear HH
   simp only [Option.some.injEq,Prod.mk.injEq] at h
   obtain ⟨rfl,rfl⟩:=h
   go_wp2
   go_ret2
   exact ⟨_,rfl,⟨Or.inl ⟨rfl,rfl⟩⟩,(by repeat (exact HB5.out))⟩
 ·
  rw [if_neg cc3] at h
  have HH:=ζa h
  clear h
  have f3a:(c1 == 0)=φ:=beq_eq_false_iff_ne.mpr cc3
  have f3b:(c1 != 0)=τ:=bne_iff_ne.mpr cc3
  have C3:=ζa cc3
  clear cc3
  have h:=HH.out
  clear HH
  simp only [Option.some.injEq,Prod.mk.injEq] at h
  obtain ⟨rfl,rfl⟩:=h
  go_wp2
  go_ret2
  exact ⟨_,rfl,⟨Or.inl ⟨rfl,rfl⟩⟩,(by repeat (exact HB2.out))⟩


open Bool renaming true → τ

/-! ### spec_l09Key: function 103 -/
def spec_l09Key.f (a0:ByteArray):Option (ByteArray):=if 2+a0.size≤9223372036854775807 then (some ((⟨#[111,47]⟩:ByteArray) ++ a0)) else (none)
set_option maxHeartbeats 8000000 in
set_option maxRecDepth 100000 in
theorem spec_l09Key.calls (a0:ByteArray) (r:ByteArray) (w:World) (h:spec_l09Key.f a0=some r) :
  Calls Tryz.prog 103 #[.string a0] w fun e w'=>e = .returned (.string r)∧Drawn0 w w':=by
 have H:(if 2+a0.size≤9223372036854775807 then (some ((⟨#[111,47]⟩:ByteArray) ++ a0)) else (none))=some r:=h
 clear h
 by_cases c2:2+a0.size≤9223372036854775807
 ·
  rw [if_pos c2] at H
  have c2b0:=eq_true c2
  have c2b1:decide (2+a0.size≤9223372036854775807)=τ:=decide_eq_true c2
  try have c2b2:(9223372036854775807<2+a0.size)=False:=eq_false (Nat.not_lt.2 c2)
  obtain rfl:=Option.some.inj H
  go_enter Tryz.func103,Tryz.ntmps103
  go_wp2
  go_ret
  exact ⟨by rfl,by repeat (exact Drawn0.refl _)⟩
 ·
  rw [if_neg c2] at H
  exact absurd H (by simp)


open Go.Proofs.YtabmfhnhmoiljaaGreatDoorW.PrintWords renaming gate_dst → δx, below_step → δr, below_drew1 → δj
open Go.Proofs.YtabmfhnhmoiljaaGreatDoorW.PrintWords.Kd renaming R_drew → ζe, R_below → ζh
open Go.Proofs.YtabmfhnhmoiljaaGreatDoorW.PrintLast renaming pure_ → ζk

/-! ### spec_l02Fields: function 136 -/
def spec_l02Fields.l0:Nat→List ByteArray→List Int→Int→Option (List Int)
 | 0,_,_,_=>none
 | k+1,l,out,i=>if i<(l.length:Int) then (if 0≤i then (if out.length+2+(rdOf ByteArray.empty l i).size≤140737488355328 then spec_l02Fields.l0 k l (out ++ [((rdOf ByteArray.empty l i).size:Int) / 256 % 256,((rdOf ByteArray.empty l i).size:Int) % 256] ++ bytesOf (rdOf ByteArray.empty l i)) (ζm (i+1)) else none) else none) else some out
def spec_l02Fields.f (k:Nat) (l0:List ByteArray):Option (List Int):=spec_l02Fields.l0 k l0 [(l0.length:Int) % 256] 0
theorem spec_l02Fields.str_step {P:Program} {ops:Array Oper} {o:Oper} {a:Act} {Q:Exit→Act→World→Prop} {Kc:Act→World→Prop} {w0 W:World} (base:Nat)
  (hw:Region.wanted o (yielded ops a.tmps)=τ) (s x:Operand) (t u e:TypeId)
  (ho:o.op = .call { callee:=.builtin .append,args:=#[s,x],argTypes:=#[t,u] })
  (ht:P.underlying t=some (.slice e)) (hu:P.underlying u=some .string) (hinfo:(P.info? e).map (fun i=>(i.zero,i.size,i.bytes))=some (some (.int .u8 0),1,1))
  (v:Value) (xs:List Int) (y:ByteArray) (hs:a.eval s=v) (hx:a.eval x = .string y)
  (HO:W.ownsRow base e 1 v xs.length (nums .u8 xs)) (HB:Below base w0 W) (hbase:base≤W.heap.size) (hl:xs.length+y.size≤140737488355328)
  (h : ∀ v1 w1,w1.ownsRow base e 1 v1 (xs ++ bytesOf y).length (nums .u8 (xs ++ bytesOf y))→Below base w0 w1→W.grownBy w1 v.ownBlock→Kc (a.put o.dst v1) w1) :
  if Region.wanted o (yielded ops a.tmps)=τ then Oper.wp P o a W Kc Q else Kc (a.put o.dst undef) W:=by
 rw [if_pos hw]
 obtain ⟨i0,hi,hzz⟩:=Option.map_eq_some_iff.1 hinfo
 simp only [Prod.mk.injEq] at hzz
 obtain ⟨hz0,hz1,hz2⟩:=hzz
 obtain ⟨v1,w1,hr,h2,h3,h4⟩:=Lib.run_append_own_string (P:=P) (w:=W) base t u o.type e i0 ht hu hi hz0 hz1 hz2 v xs.length (nums .u8 xs) HO y (by simp only [maxLen];omega) hl hbase
 have hl2:(xs ++ bytesOf y).length=xs.length+y.size:=by rw [List.length_append,bytesOf_length]
 have hc:nums .u8 (xs ++ bytesOf y)=nums .u8 xs ++ Lib.strCells y:=by
  rw [nums_append]
  congr 1
  simp [nums,bytesOf,Lib.strCells]
 unfold Oper.wp execOp
 simp only [ho,resolve,invoke,builtin,Sem.run_bind,Sem.run_pure,Result.andThen_ok,δd,δe,δf,hs,hx,hr]
 exact h v1 w1 (by rw [hl2,hc];exact h2) (HB.grown h3 hbase (own_base HO)) h3
set_option maxHeartbeats 8000000 in
set_option maxRecDepth 100000 in
theorem spec_l02Fields.calls (k:Nat) (A0:Option Addr) (c0:Nat) (l0:List ByteArray) (r:List Int) (w:World) (hr0:Kd.C Kd.string w A0 l0.length l0) (hc0:l0.length≤c0) (h:spec_l02Fields.f k l0=some r) :
  Calls Tryz.prog 136 #[.slice A0 l0.length c0] w fun e w' => ∃ v0_:Value,e = .returned (v0_)∧Kd.R (Kd.int .u8) 5 w' w.heap.size (fun _=>True) v0_ r∧Below w.heap.size w w':=by
 have HR0:=ζa hr0
 clear hr0 hc0
 have HB:=ζa (Below.refl w.heap.size w)
 have H':=ζa (show spec_l02Fields.l0 k l0 [(l0.length:Int) % 256] 0=some r from h)
 clear h
 go_enter Tryz.func136,Tryz.ntmps136
 go_wp2_with (((with_reducible refine δx (N:=8) rfl ?_);refine Kd.R_lit (Kd.int .u8) _ 5 ?hg (N:=8) ?hd (xs:=([(l0.length:Int) % 256]:List Int)) (inner:=[.int .u8 ((l0.length:Int) % 256)]) (ok:=fun _=>True) (okp:=fun _=>True) ?hr ?hp (fun _ hk=>hk) trivial (Below.refl _ _) (Nat.le_refl _) (by simp) ?_;(case hd=>rfl);(case hg=>rfl);(case hr=>(go_simp;done));(case hp=>exact (Reps.one (show Kd.M (Kd.int .u8) _ _ _ ((l0.length:Int) % 256) [.int .u8 ((l0.length:Int) % 256)] from rfl) (Reps.none _ _)));intro v8 w8 ho8 hb8 hg_ hnew_;clear hg_ hnew_;have HO:=ζa ho8;have n1_:=ζa (δr HB.out hb8);clear HB;have HB:=n1_;clear n1_ hb8 ho8))
 go_loopg [3,4] k (fun kq v3 v4 w' => ∃ (out:List Int) (i:Int),v4 = .int .i64 i∧Aside0 (spec_l02Fields.l0 kq l0 out i=some r)∧Aside0 (kq≤k)∧Aside0 (Kd.R (Kd.int .u8) 5 w' w.heap.size (fun _=>True) v3 out)∧Aside0 (Below w.heap.size w w'))
 case atStart=>exact ⟨_,0,rfl,H',⟨Nat.le_refl _⟩,HO,HB⟩
 case round =>
  clear H' HO HB
  obtain ⟨out,i,rfl,HA,HK1,HO,HB⟩:=hrel
  cases gk with
  | zero=>exact absurd HA.out (by simp [spec_l02Fields.l0])
  | succ k1 =>
   have H:=HA.out
   clear HA
   simp only [spec_l02Fields.l0] at H
   by_cases c2:i<(l0.length:Int)
   ·
    rw [if_pos c2] at H
    by_cases c3:0≤i
    ·
     rw [if_pos c3] at H
     by_cases c4:out.length+2+(rdOf ByteArray.empty l0 i).size≤140737488355328
     ·
      rw [if_pos c4] at H
      have HN:=ζa H
      clear H
      obtain ⟨ad,e1,hx0⟩:=Kd.at_string HR0.out i c3 c2
      cases e1
      have hxw:=hx0
      replace hx0:=(HB.out.cell (World.block_lt_of_cell? w _ hx0)).trans hx0
      have c2b0:decide (i<(l0.length:Int))=τ:=decide_eq_true c2
      generalize ht:rdOf ByteArray.empty l0 i=t at *
      go_wp2
      have c3b:decide (0≤i)=τ:=decide_eq_true c3
      have HB1:=ζa (δj HB.out)
      have HO1:=ζa (ζe HO.out)
      clear HB HO
      refine start_ (n:=22) (S:=fun w'=>w'.cell? (ad.add i.toNat)=some (.string t)) (ds:=[]) #[φ,φ,φ,φ,φ,φ,φ,φ,φ,φ,φ,φ,φ,φ,φ,φ,φ,φ,φ,φ,φ,φ] (by kernel_rfl) rfl rfl (show wr.drew.cell? (ad.add i.toNat)=some (.string t) from hx0) (fun hHeld => ?_)
      generalize wr.drew=w13 at HB1 HO1 hHeld ⊢
      refine ζk (i:=0) (N:=some 15) (v:=?_) (a':=?_) #[τ,φ,φ,φ,φ,φ,φ,φ,φ,φ,φ,φ,φ,φ,φ,φ,φ,φ,φ,φ,φ,φ] rfl rfl (by kernel_rfl) (fun _ _ _ h=>h) (Or.inl ⟨by rfl,?_⟩) ?_ ?_
      rotate_left
      · intro w';go_simp;with_reducible rfl
      rotate_left
      · simp only [ζl,δa,δb,δc,i64_w,i32_w];rfl
      refine ζk (i:=1) (N:=some 16) (v:=?_) (a':=?_) #[τ,τ,φ,φ,φ,φ,φ,φ,φ,φ,φ,φ,φ,φ,φ,φ,φ,φ,φ,φ,φ,φ] rfl rfl (by kernel_rfl) (fun _ _ _ h=>h) (Or.inl ⟨by rfl,?_⟩) ?_ ?_
      rotate_left
      · intro w';go_simp;with_reducible rfl
      rotate_left
      · simp only [ζl,δa,δb,δc,i64_w,i32_w];rfl
      refine ζk (i:=2) (N:=some 17) (v:=?_) (a':=?_) #[τ,τ,τ,φ,φ,φ,φ,φ,φ,φ,φ,φ,φ,φ,φ,φ,φ,φ,φ,φ,φ,φ] rfl rfl (by kernel_rfl) (fun _ _ _ h=>h) (Or.inl ⟨by rfl,?_⟩) ?_ ?_
      rotate_left
      · intro w';go_simp;with_reducible rfl
      rotate_left
      · simp only [ζl,δa,δb,δc,i64_w,i32_w];rfl
      refine ζk (i:=3) (N:=some 18) (v:=?_) (a':=?_) #[τ,τ,τ,τ,φ,φ,φ,φ,φ,φ,φ,φ,φ,φ,φ,φ,φ,φ,φ,φ,φ,φ] rfl rfl (by kernel_rfl) (fun _ _ _ h=>h) (Or.inl ⟨by rfl,?_⟩) ?_ ?_
      rotate_left
      · intro w';go_simp;with_reducible rfl
      rotate_left
      · simp only [ζl,δa,δb,δc,i64_w,i32_w];rfl
      refine take_ (i:=4) (N:=some 19) (v:=?_) (a':=?_) #[τ,τ,τ,τ,τ,φ,φ,φ,φ,φ,φ,φ,φ,φ,φ,φ,φ,φ,φ,φ,φ,φ] rfl rfl (by kernel_rfl) (fun _ _ _ h=>h) (Or.inl ⟨by rfl,?_⟩) hHeld ?_ ?_
      rotate_left
      ·
       intro w' s0
       go_simp
       with_reducible rfl
      rotate_left
      · simp only [ζl,δa,δb,δc,i64_w,i32_w];rfl
      refine ζk (i:=5) (N:=some 20) (v:=?_) (a':=?_) #[τ,τ,τ,τ,τ,τ,φ,φ,φ,φ,φ,φ,φ,φ,φ,φ,φ,φ,φ,φ,φ,φ] rfl rfl (by kernel_rfl) (fun _ _ _ h=>h) (Or.inl ⟨by rfl,?_⟩) ?_ ?_
      rotate_left
      · intro w';go_simp;with_reducible rfl
      rotate_left
      · simp only [ζl,δa,δb,δc,i64_w,i32_w];rfl
      refine ζk (i:=6) (N:=some 21) (v:=?_) (a':=?_) #[τ,τ,τ,τ,τ,τ,τ,φ,φ,φ,φ,φ,φ,φ,φ,φ,φ,φ,φ,φ,φ,φ] rfl rfl (by kernel_rfl) (fun _ _ _ h=>h) (Or.inl ⟨by rfl,?_⟩) ?_ ?_
      rotate_left
      · intro w';go_simp;with_reducible rfl
      rotate_left
      · simp only [ζl,δa,δb,δc,i64_w,i32_w];rfl
      refine ζk (i:=7) (N:=some 22) (v:=?_) (a':=?_) #[τ,τ,τ,τ,τ,τ,τ,τ,φ,φ,φ,φ,φ,φ,φ,φ,φ,φ,φ,φ,φ,φ] rfl rfl (by kernel_rfl) (fun _ _ _ h=>h) (Or.inl ⟨by rfl,?_⟩) ?_ ?_
      rotate_left
      · intro w';go_simp;with_reducible rfl
      rotate_left
      · simp only [ζl,δa,δb,δc,i64_w,i32_w];rfl
      refine ζk (i:=8) (N:=some 23) (v:=?_) (a':=?_) #[τ,τ,τ,τ,τ,τ,τ,τ,τ,φ,φ,φ,φ,φ,φ,φ,φ,φ,φ,φ,φ,φ] rfl rfl (by kernel_rfl) (fun _ _ _ h=>h) (Or.inl ⟨by rfl,?_⟩) ?_ ?_
      rotate_left
      · intro w';go_simp;with_reducible rfl
      rotate_left
      · simp only [ζl,δa,δb,δc,i64_w,i32_w];rfl
      refine ζk (i:=9) (N:=some 24) (v:=?_) (a':=?_) #[τ,τ,τ,τ,τ,τ,τ,τ,τ,τ,φ,φ,φ,φ,φ,φ,φ,φ,φ,φ,φ,φ] rfl rfl (by kernel_rfl) (fun _ _ _ h=>h) (Or.inl ⟨by rfl,?_⟩) ?_ ?_
      rotate_left
      · intro w';go_simp;with_reducible rfl
      rotate_left
      · simp only [ζl,δa,δb,δc,i64_w,i32_w];rfl
      refine ζk (i:=10) (N:=some 25) (v:=?_) (a':=?_) #[τ,τ,τ,τ,τ,τ,τ,τ,τ,τ,τ,φ,φ,φ,φ,φ,φ,φ,φ,φ,φ,φ] rfl rfl (by kernel_rfl) (fun _ _ _ h=>h) (Or.inl ⟨by rfl,?_⟩) ?_ ?_
      rotate_left
      · intro w';go_simp;with_reducible rfl
      rotate_left
      · simp only [ζl,δa,δb,δc,i64_w,i32_w];rfl
      refine take_ (i:=11) (N:=some 26) (v:=?_) (a':=?_) #[τ,τ,τ,τ,τ,τ,τ,τ,τ,τ,τ,τ,φ,φ,φ,φ,φ,φ,φ,φ,φ,φ] rfl rfl (by kernel_rfl) (fun _ _ _ h=>h) (Or.inl ⟨by rfl,?_⟩) hHeld ?_ ?_
      rotate_left
      ·
       intro w' s0
       go_simp
       with_reducible rfl
      rotate_left
      · simp only [ζl,δa,δb,δc,i64_w,i32_w];rfl
      refine ζk (i:=12) (N:=some 27) (v:=?_) (a':=?_) #[τ,τ,τ,τ,τ,τ,τ,τ,τ,τ,τ,τ,τ,φ,φ,φ,φ,φ,φ,φ,φ,φ] rfl rfl (by kernel_rfl) (fun _ _ _ h=>h) (Or.inl ⟨by rfl,?_⟩) ?_ ?_
      rotate_left
      · intro w';go_simp;with_reducible rfl
      rotate_left
      · simp only [ζl,δa,δb,δc,i64_w,i32_w];rfl
      refine ζk (i:=13) (N:=some 28) (v:=?_) (a':=?_) #[τ,τ,τ,τ,τ,τ,τ,τ,τ,τ,τ,τ,τ,τ,φ,φ,φ,φ,φ,φ,φ,φ] rfl rfl (by kernel_rfl) (fun _ _ _ h=>h) (Or.inl ⟨by rfl,?_⟩) ?_ ?_
      rotate_left
      · intro w';go_simp;with_reducible rfl
      rotate_left
      · simp only [ζl,δa,δb,δc,i64_w,i32_w];rfl
      refine ζk (i:=16) (N:=some 31) (v:=?_) (a':=?_) #[τ,τ,τ,τ,τ,τ,τ,τ,τ,τ,τ,τ,τ,τ,φ,φ,τ,φ,φ,φ,φ,φ] rfl rfl (by kernel_rfl) (fun _ _ _ h=>h) (Or.inl ⟨by rfl,?_⟩) ?_ ?_
      rotate_left
      · intro w';go_simp;with_reducible rfl
      rotate_left
      · simp only [ζl,δa,δb,δc,i64_w,i32_w];rfl
      refine ζk (i:=17) (N:=some 32) (v:=?_) (a':=?_) #[τ,τ,τ,τ,τ,τ,τ,τ,τ,τ,τ,τ,τ,τ,φ,φ,τ,τ,φ,φ,φ,φ] rfl rfl (by kernel_rfl) (fun _ _ _ h=>h) (Or.inl ⟨by rfl,?_⟩) ?_ ?_
      rotate_left
      · intro w';go_simp;with_reducible rfl
      rotate_left
      · simp only [ζl,δa,δb,δc,i64_w,i32_w];rfl
      refine ζk (i:=18) (N:=some 33) (v:=?_) (a':=?_) #[τ,τ,τ,τ,τ,τ,τ,τ,τ,τ,τ,τ,τ,τ,φ,φ,τ,τ,τ,φ,φ,φ] rfl rfl (by kernel_rfl) (fun _ _ _ h=>h) (Or.inl ⟨by rfl,?_⟩) ?_ ?_
      rotate_left
      · intro w';go_simp;with_reducible rfl
      rotate_left
      · simp only [ζl,δa,δb,δc,i64_w,i32_w];rfl
      refine take_ (i:=19) (N:=some 34) (v:=?_) (a':=?_) #[τ,τ,τ,τ,τ,τ,τ,τ,τ,τ,τ,τ,τ,τ,φ,φ,τ,τ,τ,τ,φ,φ] rfl rfl (by kernel_rfl) (fun _ _ _ h=>h) (Or.inl ⟨by rfl,?_⟩) hHeld ?_ ?_
      rotate_left
      ·
       intro w' s0
       go_simp
       with_reducible rfl
      rotate_left
      · simp only [ζl,δa,δb,δc,i64_w,i32_w];rfl
      have e1:IntKind.u8.wrap (ζm ((t.size:Int) / 256))=(t.size:Int) / 256 % 256:=by rw [IntWalk.wrap64_in _ (by omega)];simp [IntKind.wrap,IntKind.bits,IntKind.signed]
      have e2:IntKind.u8.wrap (t.size:Int)=(t.size:Int) % 256:=by simp [IntKind.wrap,IntKind.bits,IntKind.signed]
      rw [e1,e2]
      generalize (t.size:Int) / 256 % 256=pa at *
      generalize (t.size:Int) % 256=pb at *
      refine one_ (i:=14) (N:=some 29) #[τ,τ,τ,τ,τ,τ,τ,τ,τ,τ,τ,τ,τ,τ,τ,φ,τ,τ,τ,τ,φ,φ] rfl rfl (by kernel_rfl) (by decide) (fun K hK => ?_)
      refine Kd.R_lit_step (Kd.int .u8) _ 5 ?hg (N:=29) ?hd (xs:=([pa,pb]:List Int)) (inner:=[.int .u8 pa,.int .u8 pb]) (ok:=fun _=>True) (okp:=fun _=>False) ?hr ?hp (fun _ hk=>trivial) trivial (Below.refl _ _) (Nat.le_refl _) (by simp) ?_
      case hd=>rfl
      case hg=>rfl
      case hr=>(go_simp;done)
      case hp=>exact Reps.one (show Kd.M (Kd.int .u8) _ _ _ pa [.int .u8 pa] from rfl) (Reps.one (show Kd.M (Kd.int .u8) _ _ _ pb [.int .u8 pb] from rfl) (Reps.none _ _))
      intro v29 w29 ho29 hb29 hg29 _
      obtain ⟨A2,c29,rfl,_,HR2⟩:=Kd.R_reads ho29
      have HO2:=ζa (ζh HO1.out hb29)
      have HB2:=ζa (δr HB1.out hb29)
      have hs2:w29.cell? (ad.add i.toNat)=some (.string t):=(hb29.cell (World.block_lt_of_cell? w13 _ hHeld)).trans hHeld
      clear HO1 HB1 hHeld hg29
      refine hK.out _ _ hs2 (fun hHeld => ?_)
      clear hK K hs2
      refine norm_ (a':=?_) ?_ ?_
      rotate_left
      ·
       show ζl _ (some 29) _=_
       simp only [ζl,δa,δb,δc,i64_w,i32_w];rfl
      refine one_ (i:=15) (N:=some 30) #[τ,τ,τ,τ,τ,τ,τ,τ,τ,τ,τ,τ,τ,τ,τ,τ,τ,τ,τ,τ,φ,φ] rfl rfl (by kernel_rfl) (by decide) (fun K hK => ?_)
      refine Kd.R_append_rows_step (Kd.int .u8) (w0:=w) w.heap.size (by rfl) (.tmp 15) (.tmp 29) 82 5 (.int .u8 0) 1 rfl Tryz.underlying82 (by kernel_rfl) rfl (by decide) (by decide) u3 out [pa,pb] A2 2 c29 (fun _=>True) (fun _=>False) rfl rfl HO2.out HR2 (fun _ _ h=>h) (fun _ h=>h.elim) (fun _ _=>trivial) HB2.out HB2.out.size (by omega) ?_
      intro v30 w30 ho30 hb30 hg30 _
      have hs3:w30.cell? (ad.add i.toNat)=some (.string t):=(hb30.cell (World.block_lt_of_cell? w _ hxw)).trans hxw
      clear HO2 HB2 hHeld HR2
      refine hK.out _ _ hs3 (fun hHeld => ?_)
      clear hK K hs3
      refine norm_ (a':=?_) ?_ ?_
      rotate_left
      ·
       show ζl _ (some 30) _=_
       simp only [ζl,δa,δb,δc,i64_w,i32_w];rfl
      refine one_ (i:=20) (N:=some 35) #[τ,τ,τ,τ,τ,τ,τ,τ,τ,τ,τ,τ,τ,τ,τ,τ,τ,τ,τ,τ,τ,φ] rfl rfl (by kernel_rfl) (by decide) (fun K hK => ?_)
      have hl3:(out ++ [pa,pb]).length+t.size≤140737488355328:=by rw [List.length_append];exact c4
      refine spec_l02Fields.str_step (w0:=w) w.heap.size (by rfl) (.tmp 30) (.tmp 34) 82 9 5 rfl Tryz.underlying82 Tryz.underlying9 (by kernel_rfl) v30 (out ++ [pa,pb]) t rfl rfl (Kd.own_of_R ho30) hb30 hb30.size hl3 ?_
      intro v35 w35 ho35 hb35 hg35
      have hs4:w35.cell? (ad.add i.toNat)=some (.string t):=(hb35.cell (World.block_lt_of_cell? w _ hxw)).trans hxw
      clear ho30 hb30 hHeld hg35
      refine hK.out _ _ hs4 (fun hHeld => ?_)
      clear hK K hs4
      refine norm_ (a':=?_) ?_ ?_
      rotate_left
      ·
       show ζl _ (some 35) _=_
       simp only [ζl,δa,δb,δc,i64_w,i32_w];rfl
      refine ζk (i:=21) (N:=some 3) (v:=?_) (a':=?_) #[τ,τ,τ,τ,τ,τ,τ,τ,τ,τ,τ,τ,τ,τ,τ,τ,τ,τ,τ,τ,τ,τ] rfl rfl (by kernel_rfl) (fun _ _ _ h=>h) (Or.inl ⟨by rfl,?_⟩) ?_ ?_
      rotate_left
      · intro w';go_simp;with_reducible rfl
      rotate_left
      · simp only [ζl,δa,δb,δc,i64_w,i32_w];rfl
      refine done_ (by kernel_rfl) ?_
      try go_wp2
      go_roundg k1
      case measure=>omega
      case rel=>exact ⟨_,_,rfl,HN,⟨by have:=HK1.out;omega⟩,⟨Kd.R_of_own ho35 (fun _ _=>trivial)⟩,⟨hb35⟩⟩
     · rw [if_neg c4] at H;cases H
    ·
     rw [if_neg c3] at H;cases H
   ·
    rw [if_neg c2] at H
    have c2b0:decide (i<(l0.length:Int))=φ:=decide_eq_false c2
    clear c2
    obtain rfl:=Option.some.inj H
    go_wp2
    go_ret
    exact ⟨_,rfl,HO.out,HB.out⟩


open Go.Proofs.YtabmfhnhmoiljaaGreatDoorW.PrintWords renaming gate_dst → δx, box_event → δz, below_step → δr, below_size → δs, blk_cell → δl, blk_frozen → δm, blk_drew → δp, below_drew1 → δj
open List renaming setIfInBounds_toArray → δa, set_cons_zero → δb, set_cons_succ → δc, map_toArray → δd, map_cons → δe, map_nil → δf
open Go.Proofs.YtabmfhnhmoiljaaGreatDoorW.PrintWords.Kd renaming R_reads' → ζg, R_below → ζh

/-! ### spec_l09Bytes: function 105 -/
def spec_l09Bytes.j0:Nat→ByteArray→ByteArray→ByteArray→Int→Int→Int→Bool→Option (ByteArray)
 | 0,_,_,_,_,_,_,_=>none
 | k+1,x3,x617000,x617001,x617002,x617003,x617004,x617005=>(spec_l00Digits.f k x617002).bind fun t617=>((spec_l00Digits.f k x617003).bind fun t618=>((spec_l00Digits.f k x617004).bind fun t619=>((spec_l02Fields.f k (([x617001,t617,t618,t619,x3]:List ByteArray))).bind fun t623=>(some (strOfNums t623)))))
def spec_l09Bytes.f (k:Nat) (a0_0:ByteArray) (a0_1:ByteArray) (a0_2:Int) (a0_3:Int) (a0_4:Int) (a0_5:Bool):Option (ByteArray):=if a0_5=τ then (spec_l09Bytes.j0 k (⟨#[111,112,101,110]⟩:ByteArray) a0_0 a0_1 a0_2 a0_3 a0_4 a0_5) else (spec_l09Bytes.j0 k (⟨#[99,108,111,115,101,100]⟩:ByteArray) a0_0 a0_1 a0_2 a0_3 a0_4 a0_5)
def spec_l09Bytes.T4:Bool × List (List Nat × List Nat):=(τ,[([],[]),([0],[0]),([],[]),([2],[2]),([3],[3]),([],[]),([5],[5]),([6,4],[6]),([],[]),([8],[8]),([9,7],[9]),([],[]),([1,4,7,10,11],[1,4,7,10,11]),([12,10],[12]),([13],[13]),([14,13,0,1,2,3,4,5,6,7,8,9,10,11,12,13,14],[14])])
def spec_l09Bytes.B4:List Nat:=[0,1,0,4,12,0,32,124,0,256,1020,0,4095,8191,16383,32767]
theorem spec_l09Bytes.tab4:rtab .any (opsOf Tryz.f105 4)=spec_l09Bytes.T4:=by kernel_rfl
theorem spec_l09Bytes.bits4:waitsOk spec_l09Bytes.T4.2 spec_l09Bytes.B4=τ:=by kernel_rfl
set_option maxHeartbeats 8000000 in
set_option maxRecDepth 100000 in
theorem spec_l09Bytes.calls (k:Nat) (a0_0:ByteArray) (a0_1:ByteArray) (a0_2:Int) (a0_3:Int) (a0_4:Int) (a0_5:Bool) (r:ByteArray) (w:World) (h:spec_l09Bytes.f k a0_0 a0_1 a0_2 a0_3 a0_4 a0_5=some r) :
  Calls Tryz.prog 105 #[.agg #[.string a0_0,.string a0_1,.int .i64 a0_2,.int .i64 a0_3,.int .i64 a0_4,.bool a0_5]] w fun e w'=>e = .returned (.string r)∧Below w.heap.size w w':=by
 have hu66:=Tryz.underlying66
 have HB:=ζa (Below.refl w.heap.size w)
 have H:(if a0_5=τ then (spec_l09Bytes.j0 k (⟨#[111,112,101,110]⟩:ByteArray) a0_0 a0_1 a0_2 a0_3 a0_4 a0_5) else (spec_l09Bytes.j0 k (⟨#[99,108,111,115,101,100]⟩:ByteArray) a0_0 a0_1 a0_2 a0_3 a0_4 a0_5))=some r:=h
 clear h
 have HC2:=ζa H
 clear H
 go_enter Tryz.func105,Tryz.ntmps105
 go_upto_if 5 with (((with_reducible refine δx (N:=1) rfl ?_);refine δz ?hg (N:=1) ?hd (cs:=#[.string a0_0,.string a0_1,.int .i64 a0_2,.int .i64 a0_3,.int .i64 a0_4,.bool a0_5]) (t:=66) ?hr ?_;(case hd=>rfl);(case hg=>rfl);(case hr=>(go_simp;done));intro gb616 hg w3 hbox hb;have n0_:=ζa (δr (by exact HB.out) hb);have n1_:=ζa (hbox);have n2_:=ζa ((by rw [hg];exact (δs (by exact HB.out)):w.heap.size≤gb616));have n3_:=ζa ((by rw [hg];exact (δs (by exact HB.out)):w.heap.size≤gb616));clear HB;have HB:=n0_;have BK616:=n1_;have GW616:=n2_;have GE616:=n3_;clear n0_ n1_ n2_ n3_;clear hb hbox hg;have hcz4_0:w3.cell? ⟨gb616,0,none⟩=some (.string a0_0):=(δl BK616.out 0).trans rfl;have hcz4_1:w3.cell? ⟨gb616,1,none⟩=some (.string a0_1):=(δl BK616.out 1).trans rfl;have hcz4_2:w3.cell? ⟨gb616,2,none⟩=some (.int .i64 a0_2):=(δl BK616.out 2).trans rfl;have hcz4_3:w3.cell? ⟨gb616,3,none⟩=some (.int .i64 a0_3):=(δl BK616.out 3).trans rfl;have hcz4_4:w3.cell? ⟨gb616,4,none⟩=some (.int .i64 a0_4):=(δl BK616.out 4).trans rfl;have hcz4_5:w3.cell? ⟨gb616,5,none⟩=some (.bool a0_5):=(δl BK616.out 5).trans rfl;have hfz4_0:=δm BK616.out 0;have hfz4_1:=δm BK616.out 1;have hfz4_2:=δm BK616.out 2;have hfz4_3:=δm BK616.out 3;have hfz4_4:=δm BK616.out 4;have hfz4_5:=δm BK616.out 5))
 (try simp only [ζl,δa,δb,δc])
 go_cut [3] (fun v3 wc => ∃ (kq:Nat) (x3_1:ByteArray),v3 = .string x3_1∧Aside0 (spec_l09Bytes.j0 kq x3_1 a0_0 a0_1 a0_2 a0_3 a0_4 a0_5=some r)∧Aside0 (kq≤k)∧Aside0 (wc.heap[gb616]? = some (.cells #[.string a0_0,.string a0_1,.int .i64 a0_2,.int .i64 a0_3,.int .i64 a0_4,.bool a0_5] 66 (0,0)))∧Aside0 (Below w.heap.size w wc))
 case first =>
  have H:=HC2.out
  clear HC2
  by_cases c5:a0_5=τ
  ·
   subst c5
   have H1:(spec_l09Bytes.j0 k (⟨#[111,112,101,110]⟩:ByteArray) a0_0 a0_1 a0_2 a0_3 a0_4 τ)=some r:=by rw [if_pos rfl] at H;exact H
   clear H
   have H:=H1
   clear H1
   have H':=ζa H
   clear H
   go_wp2
   go_meet
   case rel=>exact ⟨_,((⟨#[111,112,101,110]⟩:ByteArray)),(by rfl),H',⟨by omega⟩,⟨by exact BK616.out⟩,⟨by repeat ((with_reducible exact HB.out))⟩⟩
  ·
   replace c5:=Bool.eq_false_iff.mpr c5
   subst c5
   have H1:(spec_l09Bytes.j0 k (⟨#[99,108,111,115,101,100]⟩:ByteArray) a0_0 a0_1 a0_2 a0_3 a0_4 φ)=some r:=by rw [if_neg (show ¬ (φ=τ) by decide)] at H;exact H
   clear H
   have H:=H1
   clear H1
   have H':=ζa H
   clear H
   go_wp2
   go_meet
   case rel=>exact ⟨_,((⟨#[99,108,111,115,101,100]⟩:ByteArray)),(by rfl),H',⟨by omega⟩,⟨by exact BK616.out⟩,⟨by repeat ((with_reducible exact HB.out))⟩⟩
 case rest =>
  clear HC2
  try clear c1
  try clear p2
  try clear c5
  try clear hcz4_0
  try clear hcz4_1
  try clear hcz4_2
  try clear hcz4_3
  try clear hcz4_4
  try clear hcz4_5
  try clear hfz4_0
  try clear hfz4_1
  try clear hfz4_2
  try clear hfz4_3
  try clear hfz4_4
  try clear hfz4_5
  obtain ⟨kq,x3_1,rfl,HA,HJ1,BK616,HB⟩:=hcut
  cases kq with
  | zero=>exact absurd HA.out (by simp [spec_l09Bytes.j0])
  | succ kj1 =>
   have H:=HA.out
   clear HA
   simp only [spec_l09Bytes.j0] at H
   replace H:=Option.bind_eq_some_iff.mp H
   obtain ⟨t617,A60,H⟩:=H
   replace H:((spec_l00Digits.f kj1 a0_3).bind fun t618=>((spec_l00Digits.f kj1 a0_4).bind fun t619=>((spec_l02Fields.f kj1 (([a0_1,t617,t618,t619,x3_1]:List ByteArray))).bind fun t623=>(some (strOfNums t623)))))=some r:=H
   have A6:=ζa A60
   clear A60
   replace H:=Option.bind_eq_some_iff.mp H
   obtain ⟨t618,A70,H⟩:=H
   replace H:((spec_l00Digits.f kj1 a0_4).bind fun t619=>((spec_l02Fields.f kj1 (([a0_1,t617,t618,t619,x3_1]:List ByteArray))).bind fun t623=>(some (strOfNums t623))))=some r:=H
   have A7:=ζa A70
   clear A70
   replace H:=Option.bind_eq_some_iff.mp H
   obtain ⟨t619,A80,H⟩:=H
   replace H:((spec_l02Fields.f kj1 (([a0_1,t617,t618,t619,x3_1]:List ByteArray))).bind fun t623=>(some (strOfNums t623)))=some r:=H
   have A8:=ζa A80
   clear A80
   obtain ⟨y620,hy620⟩ : ∃ y_:List ByteArray,y_=(([a0_1,t617,t618,t619,x3_1]:List ByteArray)):=⟨_,rfl⟩
   replace H:((spec_l02Fields.f kj1 y620).bind fun t623=>(some (strOfNums t623)))=some r:=by (rw [hy620];with_reducible exact H)
   have Ny620:=ζa hy620
   clear hy620
   replace H:=Option.bind_eq_some_iff.mp H
   obtain ⟨t623,A90,H⟩:=H
   replace H:(some (strOfNums t623))=some r:=H
   have A9:=ζa A90
   clear A90
   obtain rfl:=Option.some.inj H
   try go_wp2
   have n0_:=ζa (δp BK616.out)
   have n1_:=ζa (δj HB.out)
   clear BK616
   clear HB
   have BK616:=n0_
   have HB:=n1_
   clear n0_ n1_
   refine start_ (n:=16) (S:=fun w'=>w'.cell? ⟨gb616,0,none⟩=some (.string a0_0)∧w'.cell? ⟨gb616,1,none⟩=some (.string a0_1)∧w'.cell? ⟨gb616,2,none⟩=some (.int .i64 a0_2)∧w'.cell? ⟨gb616,3,none⟩=some (.int .i64 a0_3)∧w'.cell? ⟨gb616,4,none⟩=some (.int .i64 a0_4)∧w'.cell? ⟨gb616,5,none⟩=some (.bool a0_5)) (ds:=[]) #[φ,φ,φ,φ,φ,φ,φ,φ,φ,φ,φ,φ,φ,φ,φ,φ] (by kernel_rfl) rfl rfl ⟨(δl BK616.out 0).trans rfl,(δl BK616.out 1).trans rfl,(δl BK616.out 2).trans rfl,(δl BK616.out 3).trans rfl,(δl BK616.out 4).trans rfl,(δl BK616.out 5).trans rfl⟩ (fun hHeld => ?_);refine with_tabW spec_l09Bytes.tab4 spec_l09Bytes.bits4 (fun HT_ HW_ => ?_)
   generalize wc.drew=w10 at BK616 HB hHeld ⊢
   refine ζk (i:=0) (N:=some 6) (v:=?_) (a':=?_) #[τ,φ,φ,φ,φ,φ,φ,φ,φ,φ,φ,φ,φ,φ,φ,φ] rfl rfl (ζj HT_.out (by kernel_rfl)) (fun _ _ _ h=>h) (Or.inl ⟨by rfl,?_⟩) ?_ ?_
   rotate_left
   · intro w';go_simp;with_reducible rfl
   rotate_left
   · simp only [ζl,δa,δb,δc,i64_w,i32_w];rfl
   refine ζk (i:=2) (N:=some 8) (v:=?_) (a':=?_) #[τ,φ,τ,φ,φ,φ,φ,φ,φ,φ,φ,φ,φ,φ,φ,φ] rfl rfl (ζj HT_.out (by kernel_rfl)) (fun _ _ _ h=>h) (Or.inl ⟨by rfl,?_⟩) ?_ ?_
   rotate_left
   · intro w';go_simp;with_reducible rfl
   rotate_left
   · simp only [ζl,δa,δb,δc,i64_w,i32_w];rfl
   refine ζk (i:=5) (N:=some 11) (v:=?_) (a':=?_) #[τ,φ,τ,φ,φ,τ,φ,φ,φ,φ,φ,φ,φ,φ,φ,φ] rfl rfl (ζj HT_.out (by kernel_rfl)) (fun _ _ _ h=>h) (Or.inl ⟨by rfl,?_⟩) ?_ ?_
   rotate_left
   · intro w';go_simp;with_reducible rfl
   rotate_left
   · simp only [ζl,δa,δb,δc,i64_w,i32_w];rfl
   refine ζk (i:=8) (N:=some 14) (v:=?_) (a':=?_) #[τ,φ,τ,φ,φ,τ,φ,φ,τ,φ,φ,φ,φ,φ,φ,φ] rfl rfl (ζj HT_.out (by kernel_rfl)) (fun _ _ _ h=>h) (Or.inl ⟨by rfl,?_⟩) ?_ ?_
   rotate_left
   · intro w';go_simp;with_reducible rfl
   rotate_left
   · simp only [ζl,δa,δb,δc,i64_w,i32_w];rfl
   refine ζk (i:=11) (N:=some 17) (v:=?_) (a':=?_) #[τ,φ,τ,φ,φ,τ,φ,φ,τ,φ,φ,τ,φ,φ,φ,φ] rfl rfl (ζj HT_.out (by kernel_rfl)) (fun _ _ _ h=>h) (Or.inl ⟨by rfl,?_⟩) ?_ ?_
   rotate_left
   · intro w';go_simp;with_reducible rfl
   rotate_left
   · simp only [ζl,δa,δb,δc,i64_w,i32_w];rfl
   refine take_ (i:=1) (N:=some 7) (v:=?_) (a':=?_) #[τ,τ,τ,φ,φ,τ,φ,φ,τ,φ,φ,τ,φ,φ,φ,φ] rfl rfl (take_ofW HT_.out HW_.out (by kernel_rfl)) (fun _ _ _ h=>h) (Or.inl ⟨by rfl,?_⟩) hHeld ?_ ?_
   rotate_left
   · rintro w' ⟨s0,s1,s2,s3,s4,s5⟩;go_simp;with_reducible rfl
   rotate_left
   · simp only [ζl,δa,δb,δc,i64_w,i32_w];rfl
   refine take_ (i:=3) (N:=some 9) (v:=?_) (a':=?_) #[τ,τ,τ,τ,φ,τ,φ,φ,τ,φ,φ,τ,φ,φ,φ,φ] rfl rfl (take_ofW HT_.out HW_.out (by kernel_rfl)) (fun _ _ _ h=>h) (Or.inl ⟨by rfl,?_⟩) hHeld ?_ ?_
   rotate_left
   · rintro w' ⟨s0,s1,s2,s3,s4,s5⟩;go_simp;with_reducible rfl
   rotate_left
   · simp only [ζl,δa,δb,δc,i64_w,i32_w];rfl
   refine take_ (i:=6) (N:=some 12) (v:=?_) (a':=?_) #[τ,τ,τ,τ,φ,τ,τ,φ,τ,φ,φ,τ,φ,φ,φ,φ] rfl rfl (take_ofW HT_.out HW_.out (by kernel_rfl)) (fun _ _ _ h=>h) (Or.inl ⟨by rfl,?_⟩) hHeld ?_ ?_
   rotate_left
   · rintro w' ⟨s0,s1,s2,s3,s4,s5⟩;go_simp;with_reducible rfl
   rotate_left
   · simp only [ζl,δa,δb,δc,i64_w,i32_w];rfl
   refine take_ (i:=9) (N:=some 15) (v:=?_) (a':=?_) #[τ,τ,τ,τ,φ,τ,τ,φ,τ,τ,φ,τ,φ,φ,φ,φ] rfl rfl (take_ofW HT_.out HW_.out (by kernel_rfl)) (fun _ _ _ h=>h) (Or.inl ⟨by rfl,?_⟩) hHeld ?_ ?_
   rotate_left
   · rintro w' ⟨s0,s1,s2,s3,s4,s5⟩;go_simp;with_reducible rfl
   rotate_left
   · simp only [ζl,δa,δb,δc,i64_w,i32_w];rfl
   refine one_ (i:=4) (N:=some 10) #[τ,τ,τ,τ,τ,τ,τ,φ,τ,τ,φ,τ,φ,φ,φ,φ] rfl rfl (one_of HT_.out (by kernel_rfl)) (by decide) (fun K hK => ?_)
   refine goes_ Tryz.func137 (by kernel_rfl) rfl #[.int .i64 a0_2] (by rfl) rfl rfl (by (try simp only [δd,δe,δf]);rfl) ?_
   with_reducible refine (spec_l00Digits.calls kj1 a0_2 t617 _ A6.out).mono ?_
   rintro e w11 ⟨rfl,hb⟩
   refine ⟨_,rfl,?_⟩
   have n0_:=ζa (blk_below (g:=gb616) (o:=.cells #[.string a0_0,.string a0_1,.int .i64 a0_2,.int .i64 a0_3,.int .i64 a0_4,.bool a0_5] 66 (0,0)) (by exact BK616.out) hb)
   have n1_:=ζa (δr (by exact HB.out) hb)
   clear BK616
   clear HB
   have BK616:=n0_
   have HB:=n1_
   clear n0_ n1_
   (try clear hb)
   (try clear hb2)
   (try clear hk)
   (try clear hi)
   refine hK.out _ _ ⟨(δl BK616.out 0).trans rfl,(δl BK616.out 1).trans rfl,(δl BK616.out 2).trans rfl,(δl BK616.out 3).trans rfl,(δl BK616.out 4).trans rfl,(δl BK616.out 5).trans rfl⟩ (fun hHeld => ?_)
   clear hK K
   refine norm_ (a':=?_) ?_ ?_
   rotate_left
   ·
    show ζl _ (some 10) _=_
    simp only [ζl,δa,δb,δc,i64_w,i32_w];rfl
   refine one_ (i:=7) (N:=some 13) #[τ,τ,τ,τ,τ,τ,τ,τ,τ,τ,φ,τ,φ,φ,φ,φ] rfl rfl (one_of HT_.out (by kernel_rfl)) (by decide) (fun K hK => ?_)
   refine goes_ Tryz.func137 (by kernel_rfl) rfl #[.int .i64 a0_3] (by rfl) rfl rfl (by (try simp only [δd,δe,δf]);rfl) ?_
   with_reducible refine (spec_l00Digits.calls kj1 a0_3 t618 _ A7.out).mono ?_
   rintro e w12 ⟨rfl,hb⟩
   refine ⟨_,rfl,?_⟩
   have n0_:=ζa (blk_below (g:=gb616) (o:=.cells #[.string a0_0,.string a0_1,.int .i64 a0_2,.int .i64 a0_3,.int .i64 a0_4,.bool a0_5] 66 (0,0)) (by exact BK616.out) hb)
   have n1_:=ζa (δr (by exact HB.out) hb)
   clear BK616
   clear HB
   have BK616:=n0_
   have HB:=n1_
   clear n0_ n1_
   (try clear hb)
   (try clear hb2)
   (try clear hk)
   (try clear hi)
   refine hK.out _ _ ⟨(δl BK616.out 0).trans rfl,(δl BK616.out 1).trans rfl,(δl BK616.out 2).trans rfl,(δl BK616.out 3).trans rfl,(δl BK616.out 4).trans rfl,(δl BK616.out 5).trans rfl⟩ (fun hHeld => ?_)
   clear hK K
   refine norm_ (a':=?_) ?_ ?_
   rotate_left
   ·
    show ζl _ (some 13) _=_
    simp only [ζl,δa,δb,δc,i64_w,i32_w];rfl
   refine one_ (i:=10) (N:=some 16) #[τ,τ,τ,τ,τ,τ,τ,τ,τ,τ,τ,τ,φ,φ,φ,φ] rfl rfl (one_of HT_.out (by kernel_rfl)) (by decide) (fun K hK => ?_)
   refine goes_ Tryz.func137 (by kernel_rfl) rfl #[.int .i64 a0_4] (by rfl) rfl rfl (by (try simp only [δd,δe,δf]);rfl) ?_
   with_reducible refine (spec_l00Digits.calls kj1 a0_4 t619 _ A8.out).mono ?_
   rintro e w13 ⟨rfl,hb⟩
   refine ⟨_,rfl,?_⟩
   have n0_:=ζa (blk_below (g:=gb616) (o:=.cells #[.string a0_0,.string a0_1,.int .i64 a0_2,.int .i64 a0_3,.int .i64 a0_4,.bool a0_5] 66 (0,0)) (by exact BK616.out) hb)
   have n1_:=ζa (δr (by exact HB.out) hb)
   clear BK616
   clear HB
   have BK616:=n0_
   have HB:=n1_
   clear n0_ n1_
   (try clear hb)
   (try clear hb2)
   (try clear hk)
   (try clear hi)
   refine hK.out _ _ ⟨(δl BK616.out 0).trans rfl,(δl BK616.out 1).trans rfl,(δl BK616.out 2).trans rfl,(δl BK616.out 3).trans rfl,(δl BK616.out 4).trans rfl,(δl BK616.out 5).trans rfl⟩ (fun hHeld => ?_)
   clear hK K
   refine norm_ (a':=?_) ?_ ?_
   rotate_left
   ·
    show ζl _ (some 16) _=_
    simp only [ζl,δa,δb,δc,i64_w,i32_w];rfl
   refine one_ (i:=12) (N:=some 18) #[τ,τ,τ,τ,τ,τ,τ,τ,τ,τ,τ,τ,τ,φ,φ,φ] rfl rfl (one_of HT_.out (by kernel_rfl)) (by decide) (fun K hK => ?_)
   refine Kd.R_lit_step Kd.string _ 9 ?hg (N:=18) ?hd (xs:=([a0_1,t617,t618,t619,x3_1]:List ByteArray)) (inner:=[.string a0_1,.string t617,.string t618,.string t619,.string x3_1]) (ok:=fun _=>True) (okp:=fun _=>True) ?hr ?hp (fun _ hk=>hk) trivial (Below.refl _ _) (Nat.le_refl _) (by simp) ?_;(case hd=>rfl);(case hg=>rfl);(case hr=>(go_simp;done));(case hp=>exact (Reps.one (show Kd.M Kd.string _ _ _ a0_1 [.string a0_1] from rfl) (Reps.one (show Kd.M Kd.string _ _ _ t617 [.string t617] from rfl) (Reps.one (show Kd.M Kd.string _ _ _ t618 [.string t618] from rfl) (Reps.one (show Kd.M Kd.string _ _ _ t619 [.string t619] from rfl) (Reps.one (show Kd.M Kd.string _ _ _ x3_1 [.string x3_1] from rfl) (Reps.none _ _)))))))
   intro v621 w14 ho15 hb hg_ hnew_
   clear hg_ hnew_
   (rw [← Ny620.out] at ho15)
   have n0_:=ζa (Kd.R_lower ho15 (δs (by exact HB.out)))
   have n1_:=ζa (blk_below (g:=gb616) (o:=.cells #[.string a0_0,.string a0_1,.int .i64 a0_2,.int .i64 a0_3,.int .i64 a0_4,.bool a0_5] 66 (0,0)) (by exact BK616.out) hb)
   have n2_:=ζa (δr (by exact HB.out) hb)
   clear BK616
   clear HB
   have HO622:=n0_
   have BK616:=n1_
   have HB:=n2_
   clear n0_ n1_ n2_
   clear hb ho15
   obtain ⟨Ao16,co16,eo16⟩:=Kd.R_slice HO622.out
   (subst eo16)
   refine hK.out _ _ ⟨(δl BK616.out 0).trans rfl,(δl BK616.out 1).trans rfl,(δl BK616.out 2).trans rfl,(δl BK616.out 3).trans rfl,(δl BK616.out 4).trans rfl,(δl BK616.out 5).trans rfl⟩ (fun hHeld => ?_)
   clear hK K
   refine norm_ (a':=?_) ?_ ?_
   rotate_left
   ·
    show ζl _ (some 18) _=_
    simp only [ζl,δa,δb,δc,i64_w,i32_w];rfl
   refine one_ (i:=13) (N:=some 19) #[τ,τ,τ,τ,τ,τ,τ,τ,τ,τ,τ,τ,τ,τ,φ,φ] rfl rfl (one_of HT_.out (by kernel_rfl)) (by decide) (fun K hK => ?_)
   refine goes_ Tryz.func136 (by kernel_rfl) rfl #[.slice Ao16 y620.length co16] (by rfl) rfl rfl (by (try simp only [δd,δe,δf]);rfl) ?_
   with_reducible refine (spec_l02Fields.calls kj1 _ _ y620 t623 _ ?side1 ?side2 A9.out).mono ?_
   (case side1=>repeat (exact (ζg HO622.out).2.2))
   (case side2=>exact (ζg HO622.out).2.1)
   rintro e w17 ⟨v624,rfl,ho0,hb⟩
   refine ⟨_,rfl,?_⟩
   have n0_:=ζa (ζh (by exact HO622.out) hb)
   have n1_:=ζa (Kd.R_lower ho0 (δs (by exact HB.out)))
   have n2_:=ζa (blk_below (g:=gb616) (o:=.cells #[.string a0_0,.string a0_1,.int .i64 a0_2,.int .i64 a0_3,.int .i64 a0_4,.bool a0_5] 66 (0,0)) (by exact BK616.out) hb)
   have n3_:=ζa (δr (by exact HB.out) hb)
   clear HO622
   clear BK616
   clear HB
   have HO622:=n0_
   have HO625:=n1_
   have BK616:=n2_
   have HB:=n3_
   clear n0_ n1_ n2_ n3_
   (try clear hb)
   (try clear hb2)
   (try clear hk)
   (try clear hi)
   (try clear ho0)
   refine hK.out _ _ ⟨(δl BK616.out 0).trans rfl,(δl BK616.out 1).trans rfl,(δl BK616.out 2).trans rfl,(δl BK616.out 3).trans rfl,(δl BK616.out 4).trans rfl,(δl BK616.out 5).trans rfl⟩ (fun hHeld => ?_)
   clear hK K
   refine norm_ (a':=?_) ?_ ?_
   rotate_left
   ·
    show ζl _ (some 19) _=_
    simp only [ζl,δa,δb,δc,i64_w,i32_w];rfl
   refine one_ (i:=14) (N:=some 20) #[τ,τ,τ,τ,τ,τ,τ,τ,τ,τ,τ,τ,τ,τ,τ,φ] rfl rfl (one_of HT_.out (by kernel_rfl)) (by decide) (fun K hK => ?_)
   have hcv18:=own_string (P:=Tryz.prog) Tryz.underlying82 Tryz.underlying5 Tryz.underlying9 (Kd.own_of_R HO625.out)
   refine value_ (w1:=?_) (v:=?_) (by rfl) rfl ?_ ?_
   rotate_left 2
   ·
    go_simp
    constructor
    · rfl
    ·
     rfl
   clear hcv18
   refine hK.out _ _ ⟨(δl BK616.out 0).trans rfl,(δl BK616.out 1).trans rfl,(δl BK616.out 2).trans rfl,(δl BK616.out 3).trans rfl,(δl BK616.out 4).trans rfl,(δl BK616.out 5).trans rfl⟩ (fun hHeld => ?_)
   clear hK K
   refine norm_ (a':=?_) ?_ ?_
   rotate_left
   ·
    show ζl _ (some 20) _=_
    simp only [ζl,δa,δb,δc,i64_w,i32_w];rfl
   refine ζk (i:=15) (N:=some 2) (v:=?_) (a':=?_) #[τ,τ,τ,τ,τ,τ,τ,τ,τ,τ,τ,τ,τ,τ,τ,τ] rfl rfl (ζj HT_.out (by kernel_rfl)) (fun _ _ _ h=>h) (Or.inl ⟨by rfl,?_⟩) ?_ ?_
   rotate_left
   · intro w';go_simp;with_reducible rfl
   rotate_left
   · simp only [ζl,δa,δb,δc,i64_w,i32_w];rfl
   refine done_ (done_of HT_.out (by kernel_rfl)) ?_
   try go_wp2
   go_ret
   exact ⟨by rfl,by repeat ((with_reducible exact HB.out))⟩


open Go.Proofs.YtabmfhnhmoiljaaGreatDoorW.PrintWords renaming gate_dst → δx, below_size → δs, below_step → δr, pw_below_drewN → δi, gate_builtin → δy
open List renaming setIfInBounds_toArray → δa, set_cons_zero → δb, set_cons_succ → δc
open Go.Proofs.YtabmfhnhmoiljaaGreatDoorW.PrintWords.Kd renaming R_drewN → ζc

/-! ### spec_l02Read: function 148 -/
mutual
def spec_l02Read.j0:Nat→ByteArray→List ByteArray→Bool→Option (List ByteArray × Bool)
 | 0,_,_,_=>none
 | k+1,x0,x4,x15=>if x15=τ then (some (x4,φ)) else (if 0<(x0.size:Int) then (spec_l02Read.l0 k x0 x4 1 (ζm (bt x0 0))) else (none))
def spec_l02Read.l0:Nat→ByteArray→List ByteArray→Int→Int→Option (List ByteArray × Bool)
 | 0,_,_,_,_=>none
 | k+1,x0,x4,x5,x6=>if x6 > 0 then (if (ζm (x5+2)) > (x0.size:Int) then (some ((([]:List ByteArray)),φ)) else (if 0≤x5 then (if x5<(x0.size:Int) then (if 0≤(ζm (x5+1)) then (if (ζm (x5+1))<(x0.size:Int) then (if (ζm ((ζm ((ζm (bt x0 x5)) * 256))+(ζm (bt x0 (ζm (x5+1)))))) > 1000 then (some ((([]:List ByteArray)),φ)) else (if (ζm ((ζm (x5+2))+(ζm ((ζm ((ζm (bt x0 x5)) * 256))+(ζm (bt x0 (ζm (x5+1)))))))) > (x0.size:Int) then (some ((([]:List ByteArray)),φ)) else (if 0≤(ζm (x5+2)) then (if (ζm (x5+2))≤(ζm ((ζm (x5+2))+(ζm ((ζm ((ζm (bt x0 x5)) * 256))+(ζm (bt x0 (ζm (x5+1)))))))) then (if (ζm ((ζm (x5+2))+(ζm ((ζm ((ζm (bt x0 x5)) * 256))+(ζm (bt x0 (ζm (x5+1))))))))≤(x0.size:Int) then (if x4.length<8796093022208 then (spec_l02Read.l0 k x0 (x4 ++ [x0.extract ((ζm (x5+2)):Int).toNat ((ζm ((ζm (x5+2))+(ζm ((ζm ((ζm (bt x0 x5)) * 256))+(ζm (bt x0 (ζm (x5+1)))))))):Int).toNat]) (ζm (x5+(ζm (2+(ζm ((ζm ((ζm (bt x0 x5)) * 256))+(ζm (bt x0 (ζm (x5+1)))))))))) (ζm (x6 - 1))) else (none)) else (none)) else (none)) else (none)))) else (none)) else (none)) else (none)) else (none))) else (if x5=(x0.size:Int) then (some (x4,τ)) else (some ((([]:List ByteArray)),φ)))
end
def spec_l02Read.f (k:Nat) (a0:ByteArray):Option (List ByteArray × Bool):=(some (([]:List ByteArray):List ByteArray)).bind fun y316=>(if a0.toList=([]:List UInt8) then (spec_l02Read.j0 k a0 y316 τ) else (if 0<(a0.size:Int) then (spec_l02Read.j0 k a0 y316 (decide ((bt a0 0) > 40))) else (none)))
set_option maxHeartbeats 8000000 in
set_option maxRecDepth 100000 in
theorem spec_l02Read.calls (k:Nat) (a0:ByteArray) (r1:List ByteArray) (r2:Bool) (w:World) (h:spec_l02Read.f k a0=some (r1,r2)) :
  Calls Tryz.prog 148 #[.string a0] w fun e w' => ∃ v0_:Value,e = .returned (.tuple #[v0_,.bool r2])∧Kd.R Kd.string 9 w' w.heap.size (fun _=>True) v0_ r1∧Below w.heap.size w w':=by
 have HB:=ζa (Below.refl w.heap.size w)
 have H:((some (([]:List ByteArray):List ByteArray)).bind fun y316=>(if a0.toList=([]:List UInt8) then (spec_l02Read.j0 k a0 y316 τ) else (if 0<(a0.size:Int) then (spec_l02Read.j0 k a0 y316 (decide ((bt a0 0) > 40))) else (none))))=some (r1,r2):=h
 clear h
 obtain ⟨y316,hy316⟩ : ∃ y_:List ByteArray,y_=(([]:List ByteArray)):=⟨_,rfl⟩
 replace H:(if a0.toList=([]:List UInt8) then (spec_l02Read.j0 k a0 y316 τ) else (if 0<(a0.size:Int) then (spec_l02Read.j0 k a0 y316 (decide ((bt a0 0) > 40))) else (none)))=some (r1,r2):=by (have H2_:=(Option.bind_some _ _).symm.trans H;rw [hy316];with_reducible exact H2_)
 have Ny316:=ζa hy316
 clear hy316
 have HC2:=ζa H
 clear H
 go_enter Tryz.func148,Tryz.ntmps148
 go_upto_region 2 with (((with_reducible refine δx (N:=8) rfl ?_);(try (refine gate_guard (by rfl) ?_;dsimp only));refine Kd.R_lit Kd.string _ 9 ?hg (N:=8) ?hd (xs:=([]:List ByteArray)) (inner:=[]) (ok:=fun _=>True) (okp:=fun _=>True) ?hr ?hp (fun _ hk=>hk) trivial (Below.refl _ _) (Nat.le_refl _) (by simp) ?_;(case hd=>rfl);(case hg=>rfl);(case hr=>(go_simp;done));(case hp=>exact (Reps.none _ _));intro v317 w3 ho4 hb hg_ hnew_;clear hg_ hnew_;(rw [← Ny316.out] at ho4);have n0_:=ζa (Kd.R_lower ho4 (δs (by exact HB.out)));have n1_:=ζa (δr (by exact HB.out) hb);clear HB;have HO318:=n0_;have HB:=n1_;clear n0_ n1_;clear hb ho4))
 repeat (go_quiet (fail);go_upto_region 2 with (fail))
 (try simp only [ζl,δa,δb,δc])
 go_cut [15] (fun v15 wc => ∃ (kq:Nat) (x15_1:Bool),v15 = .bool x15_1∧Aside0 (spec_l02Read.j0 kq a0 y316 x15_1=some (r1,r2))∧Aside0 (kq≤k)∧Aside0 (Kd.R Kd.string 9 wc w.heap.size (fun _=>True) v317 y316)∧Aside0 (Below w.heap.size w wc))
 case first =>
  have H:=HC2.out
  clear HC2
  by_cases c5:a0.toList=([]:List UInt8)
  ·
   rw [if_pos c5] at H
   have c5b0:(a0.toList == ([]:List UInt8))=τ:=beq_iff_eq.mpr c5
   have c5b1:(a0.toList != ([]:List UInt8))=φ:=bne_eq_false_iff_eq.mpr c5
   clear c5
   (skip)
   have H':=ζa H
   clear H
   go_wp2
   repeat (go_quiet (fail);try go_wp2)
   go_meet
   case rel=>exact ⟨_,(τ),(by rfl),H',⟨by omega⟩,⟨by exact HO318.out⟩,⟨by repeat ((with_reducible exact HB.out))⟩⟩
  ·
   rw [if_neg c5] at H
   have c5b0:(a0.toList == ([]:List UInt8))=φ:=beq_eq_false_iff_ne.mpr c5
   have c5b1:(a0.toList != ([]:List UInt8))=τ:=bne_iff_ne.mpr c5
   (skip)
   by_cases c6:0<(a0.size:Int)
   ·
    rw [if_pos c6] at H
    have c6b0:decide (0<(a0.size:Int))=τ:=decide_eq_true c6
    have c6b1:decide (0<a0.size)=τ:=decide_eq_true (by omega)
    clear c6
    have H':=ζa H
    clear H
    have p7:0≤(0:Int):=(by omega)
    have q7:0<a0.size:=(by have:(0:Int)<(a0.size:Int):=of_decide_eq_true (by (with_reducible assumption));omega)
    have hx7 : ∀ h:0<a0.size,((a0[0]'h).toNat:Int)=bt a0 0:=bt_at a0 0
    clear p7
    have qi7:(0<(a0.size:Int))=True:=eq_true (of_decide_eq_true (by (with_reducible assumption)))
    replace q7:=eq_true q7
    go_wp2
    repeat (go_quiet (fail);try go_wp2)
    go_meet
    case rel=>exact ⟨_,(decide ((bt a0 0) > 40)),(by rfl),H',⟨by omega⟩,⟨by exact HO318.out⟩,⟨by repeat ((with_reducible exact HB.out))⟩⟩
   ·
    rw [if_neg c6] at H
    exact absurd H (by simp)
 case rest =>
  clear HC2
  try clear c1
  try clear p2
  try clear c5
  try clear c5b0
  try clear c5b1
  try clear c6
  try clear c6b0
  try clear c6b1
  try clear p7
  try clear q7
  try clear hx7
  try clear qi7
  try clear p7
  try clear q7
  obtain ⟨kq,x15_1,rfl,HA,HJ1,HO_4,HB⟩:=hcut
  cases kq with
  | zero=>exact absurd HA.out (by simp [spec_l02Read.j0])
  | succ kj1 =>
   have H:=HA.out
   clear HA
   simp only [spec_l02Read.j0] at H
   by_cases c8:x15_1=τ
   ·
    subst c8
    have H1:(some (y316,φ))=some (r1,r2):=by rw [if_pos rfl] at H;exact H
    clear H
    have H:=H1
    clear H1
    simp only [Option.some.injEq,Prod.mk.injEq] at H
    obtain ⟨rfl,rfl⟩:=H
    go_wp2
    repeat (go_quiet (fail);try go_wp2)
    go_ret2
    exact ⟨_,by rfl,by exact HO_4.out,by repeat ((with_reducible exact HB.out))⟩
   ·
    replace c8:=Bool.eq_false_iff.mpr c8
    subst c8
    have H1:(if 0<(a0.size:Int) then (spec_l02Read.l0 kj1 a0 y316 1 (ζm (bt a0 0))) else (none))=some (r1,r2):=by rw [if_neg (show ¬ (φ=τ) by decide)] at H;exact H
    clear H
    have H:=H1
    clear H1
    by_cases c9:0<(a0.size:Int)
    ·
     rw [if_pos c9] at H
     have c9b0:decide (0<(a0.size:Int))=τ:=decide_eq_true c9
     have c9b1:decide (0<a0.size)=τ:=decide_eq_true (by omega)
     clear c9
     have H':=ζa H
     clear H
     have p10:0≤(0:Int):=(by omega)
     have q10:0<a0.size:=(by have:(0:Int)<(a0.size:Int):=of_decide_eq_true (by (with_reducible assumption));omega)
     have hx10 : ∀ h:0<a0.size,((a0[0]'h).toNat:Int)=bt a0 0:=bt_at a0 0
     clear p10
     have qi10:(0<(a0.size:Int))=True:=eq_true (of_decide_eq_true (by (with_reducible assumption)))
     replace q10:=eq_true q10
     go_wp2
     repeat (go_quiet (fail);try go_wp2)
     go_loopg [4,5,6] kj1 (fun kq v4 v5 v6 w' => ∃ (x4_2:List ByteArray) (x5_2:Int) (x6_2:Int),v5 = .int .i64 x5_2∧v6 = .int .i64 x6_2∧Aside0 (spec_l02Read.l0 kq a0 x4_2 x5_2 x6_2=some (r1,r2))∧Aside0 (kq≤kj1)∧Aside0 (Kd.R Kd.string 9 w' w.heap.size (fun _=>True) v4 x4_2)∧Aside0 (Below w.heap.size w w'))
     case atStart=>exact ⟨(y316),(1),(ζm (bt a0 0)),(by rfl),(by rfl),H',⟨Nat.le_refl _⟩,⟨by exact HO_4.out⟩,⟨by repeat ((with_reducible exact HB.out))⟩⟩
     case round =>
      clear H'
      try clear c1
      try clear p1
      try clear q1
      try clear hx1
      try clear qi1
      try clear p2
      try clear c5
      try clear c5b0
      try clear c5b1
      try clear c6
      try clear c6b0
      try clear c6b1
      try clear p6
      try clear p7
      try clear q7
      try clear hx7
      try clear qi7
      try clear c8
      try clear c9
      try clear c9b0
      try clear c9b1
      try clear p10
      try clear q10
      try clear hx10
      try clear qi10
      try clear p10
      try clear p2
      try clear p7
      try clear q10
      try clear q7
      obtain ⟨x4_2,x5_2,x6_2,rfl,rfl,HA,HK2,HO_4,HB⟩:=hrel
      cases gk with
      | zero=>exact absurd HA.out (by simp [spec_l02Read.l0])
      | succ k2 =>
       have H:=HA.out
       clear HA
       simp only [spec_l02Read.l0] at H
       by_cases c11:x6_2 > 0
       ·
        rw [if_pos c11] at H
        have c11b0:decide (0<x6_2)=τ:=decide_eq_true c11
        clear c11
        by_cases c12:(ζm (x5_2+2)) > (a0.size:Int)
        ·
         rw [if_pos c12] at H
         have c12b0:decide ((a0.size:Int)<(ζm (x5_2+2)))=τ:=decide_eq_true c12
         clear c12
         obtain ⟨y322,hy322⟩ : ∃ y_:List ByteArray,y_=(([]:List ByteArray)):=⟨_,rfl⟩
         replace H:(some (y322,φ))=some (r1,r2):=by (rw [hy322];with_reducible exact H)
         have Ny322:=ζa hy322
         clear hy322
         simp only [Option.some.injEq,Prod.mk.injEq] at H
         obtain ⟨rfl,rfl⟩:=H
         go_wp2_with (((with_reducible refine δx (N:=29) rfl ?_);(try (refine gate_guard (by rfl) ?_;dsimp only));refine Kd.R_lit Kd.string _ 9 ?hg (N:=29) ?hd (xs:=([]:List ByteArray)) (inner:=[]) (ok:=fun _=>True) (okp:=fun _=>True) ?hr ?hp (fun _ hk=>hk) trivial (Below.refl _ _) (Nat.le_refl _) (by simp) ?_;(case hd=>rfl);(case hg=>rfl);(case hr=>(go_simp;done));(case hp=>exact (Reps.none _ _));intro v323 w13 ho14 hb hg_ hnew_;clear hg_ hnew_;(rw [← Ny322.out] at ho14);have n0_:=ζa (Kd.R_elder' (by exact HO_4.out) (Kd.R_base ho14) hb);have n1_:=ζa (Kd.R_lower (Kd.R_new' ho14 (Kd.R_lt (by exact HO_4.out))) (δs (by exact HB.out)));have n2_:=ζa (δr (by exact HB.out) hb);clear HO_4;clear HB;have HO_4:=n0_;have HO324:=n1_;have HB:=n2_;clear n0_ n1_ n2_;clear hb ho14))
         repeat (go_quiet (fail);try go_wp2_with (fail))
         go_ret2
         exact ⟨_,by rfl,by exact Kd.R_mono HO324.out (fun _ hk=>trivial),by repeat ((with_reducible exact HB.out))⟩
        ·
         rw [if_neg c12] at H
         have c12b0:decide ((a0.size:Int)<(ζm (x5_2+2)))=φ:=decide_eq_false c12
         clear c12
         by_cases c15:0≤x5_2
         ·
          rw [if_pos c15] at H
          have c15b0:decide (0≤x5_2)=τ:=decide_eq_true c15
          clear c15
          by_cases c16:x5_2<(a0.size:Int)
          ·
           rw [if_pos c16] at H
           have c16b0:decide (x5_2<(a0.size:Int))=τ:=decide_eq_true c16
           clear c16
           obtain ⟨ji18,hji18⟩ : ∃ j_:Int,(ζm (x5_2+1))=j_:=⟨_,rfl⟩
           replace H:(if 0≤(ji18) then (if (ji18)<(a0.size:Int) then (if (ζm ((ζm ((ζm (bt a0 x5_2)) * 256))+(ζm (bt a0 (ji18))))) > 1000 then (some ((([]:List ByteArray)),φ)) else (if (ζm ((ζm (x5_2+2))+(ζm ((ζm ((ζm (bt a0 x5_2)) * 256))+(ζm (bt a0 (ji18))))))) > (a0.size:Int) then (some ((([]:List ByteArray)),φ)) else (if 0≤(ζm (x5_2+2)) then (if (ζm (x5_2+2))≤(ζm ((ζm (x5_2+2))+(ζm ((ζm ((ζm (bt a0 x5_2)) * 256))+(ζm (bt a0 (ji18))))))) then (if (ζm ((ζm (x5_2+2))+(ζm ((ζm ((ζm (bt a0 x5_2)) * 256))+(ζm (bt a0 (ji18)))))))≤(a0.size:Int) then (if x4_2.length<8796093022208 then (spec_l02Read.l0 k2 a0 (x4_2 ++ [a0.extract ((ζm (x5_2+2)):Int).toNat ((ζm ((ζm (x5_2+2))+(ζm ((ζm ((ζm (bt a0 x5_2)) * 256))+(ζm (bt a0 (ji18))))))):Int).toNat]) (ζm (x5_2+(ζm (2+(ζm ((ζm ((ζm (bt a0 x5_2)) * 256))+(ζm (bt a0 (ji18))))))))) (ζm (x6_2 - 1))) else (none)) else (none)) else (none)) else (none)))) else (none)) else (none))=some (r1,r2):=by (rw [hji18] at H;exact H)
           have hji18w:(IntKind.i64.wrap (x5_2+1))=ji18:=(i64_w _).trans hji18
           by_cases c19:0≤(ji18)
           ·
            rw [if_pos c19] at H
            have c19b0:decide (0≤(ji18))=τ:=decide_eq_true c19
            clear c19
            by_cases c20:(ji18)<(a0.size:Int)
            ·
             rw [if_pos c20] at H
             have c20b0:decide ((ji18)<(a0.size:Int))=τ:=decide_eq_true c20
             clear c20
             by_cases c22:(ζm ((ζm ((ζm (bt a0 x5_2)) * 256))+(ζm (bt a0 (ji18))))) > 1000
             ·
              rw [if_pos c22] at H
              have c22b0:decide (1000<(ζm ((ζm ((ζm (bt a0 x5_2)) * 256))+(ζm (bt a0 (ji18))))))=τ:=decide_eq_true c22
              clear c22
              obtain ⟨y325,hy325⟩ : ∃ y_:List ByteArray,y_=(([]:List ByteArray)):=⟨_,rfl⟩
              replace H:(some (y325,φ))=some (r1,r2):=by (rw [hy325];with_reducible exact H)
              have Ny325:=ζa hy325
              clear hy325
              simp only [Option.some.injEq,Prod.mk.injEq] at H
              obtain ⟨rfl,rfl⟩:=H
              have p17:0≤(x5_2:Int):=of_decide_eq_true (by (with_reducible assumption))
              have q17:x5_2<(a0.size:Int):=of_decide_eq_true (by (with_reducible assumption))
              have hx17:=bt_at a0 x5_2
              replace p17:=eq_true p17
              replace q17:=eq_true q17
              have p21:0≤((ji18):Int):=of_decide_eq_true (by (with_reducible assumption))
              have q21:(ji18)<(a0.size:Int):=of_decide_eq_true (by (with_reducible assumption))
              have hx21:=bt_at a0 (ji18)
              replace p21:=eq_true p21
              replace q21:=eq_true q21
              go_wp2_with (fail)
              repeat (go_quiet (fail);try go_wp2_with (((with_reducible refine δx (N:=52) rfl ?_);(try (refine gate_guard (by rfl) ?_;dsimp only));refine Kd.R_lit Kd.string _ 9 ?hg (N:=52) ?hd (xs:=([]:List ByteArray)) (inner:=[]) (ok:=fun _=>True) (okp:=fun _=>True) ?hr ?hp (fun _ hk=>hk) trivial (Below.refl _ _) (Nat.le_refl _) (by simp) ?_;(case hd=>rfl);(case hg=>rfl);(case hr=>(go_simp;done));(case hp=>exact (Reps.none _ _));intro v326 w23 ho24 hb hg_ hnew_;clear hg_ hnew_;(rw [← Ny325.out] at ho24);have n0_:=ζa (Kd.R_elder' (by (with_reducible repeat (apply ζc));exact HO_4.out) (Kd.R_base ho24) hb);have n1_:=ζa (Kd.R_lower (Kd.R_new' ho24 (Kd.R_lt (by (with_reducible repeat (apply ζc));exact HO_4.out))) (δs (by repeat ((with_reducible first|exact HB.out|apply δi)))));have n2_:=ζa (δr (by repeat ((with_reducible first|exact HB.out|apply δi))) hb);clear HO_4;clear HB;have HO_4:=n0_;have HO327:=n1_;have HB:=n2_;clear n0_ n1_ n2_;clear hb ho24)))
              go_ret2
              exact ⟨_,by rfl,by exact Kd.R_mono HO327.out (fun _ hk=>trivial),by repeat ((with_reducible exact HB.out))⟩
             ·
              rw [if_neg c22] at H
              have c22b0:decide (1000<(ζm ((ζm ((ζm (bt a0 x5_2)) * 256))+(ζm (bt a0 (ji18))))))=φ:=decide_eq_false c22
              clear c22
              by_cases c25:(ζm ((ζm (x5_2+2))+(ζm ((ζm ((ζm (bt a0 x5_2)) * 256))+(ζm (bt a0 (ji18))))))) > (a0.size:Int)
              ·
               rw [if_pos c25] at H
               have c25b0:decide ((a0.size:Int)<(ζm ((ζm (x5_2+2))+(ζm ((ζm ((ζm (bt a0 x5_2)) * 256))+(ζm (bt a0 (ji18))))))))=τ:=decide_eq_true c25
               clear c25
               obtain ⟨y328,hy328⟩ : ∃ y_:List ByteArray,y_=(([]:List ByteArray)):=⟨_,rfl⟩
               replace H:(some (y328,φ))=some (r1,r2):=by (rw [hy328];with_reducible exact H)
               have Ny328:=ζa hy328
               clear hy328
               simp only [Option.some.injEq,Prod.mk.injEq] at H
               obtain ⟨rfl,rfl⟩:=H
               have p17:0≤(x5_2:Int):=of_decide_eq_true (by (with_reducible assumption))
               have q17:x5_2<(a0.size:Int):=of_decide_eq_true (by (with_reducible assumption))
               have hx17:=bt_at a0 x5_2
               replace p17:=eq_true p17
               replace q17:=eq_true q17
               have p21:0≤((ji18):Int):=of_decide_eq_true (by (with_reducible assumption))
               have q21:(ji18)<(a0.size:Int):=of_decide_eq_true (by (with_reducible assumption))
               have hx21:=bt_at a0 (ji18)
               replace p21:=eq_true p21
               replace q21:=eq_true q21
               go_wp2_with (fail)
               repeat (go_quiet (fail);try go_wp2_with (((with_reducible refine δx (N:=52) rfl ?_);(try (refine gate_guard (by rfl) ?_;dsimp only));refine Kd.R_lit Kd.string _ 9 ?hg (N:=52) ?hd (xs:=([]:List ByteArray)) (inner:=[]) (ok:=fun _=>True) (okp:=fun _=>True) ?hr ?hp (fun _ hk=>hk) trivial (Below.refl _ _) (Nat.le_refl _) (by simp) ?_;(case hd=>rfl);(case hg=>rfl);(case hr=>(go_simp;done));(case hp=>exact (Reps.none _ _));intro v329 w26 ho27 hb hg_ hnew_;clear hg_ hnew_;(rw [← Ny328.out] at ho27);have n0_:=ζa (Kd.R_elder' (by (with_reducible repeat (apply ζc));exact HO_4.out) (Kd.R_base ho27) hb);have n1_:=ζa (Kd.R_lower (Kd.R_new' ho27 (Kd.R_lt (by (with_reducible repeat (apply ζc));exact HO_4.out))) (δs (by repeat ((with_reducible first|exact HB.out|apply δi)))));have n2_:=ζa (δr (by repeat ((with_reducible first|exact HB.out|apply δi))) hb);clear HO_4;clear HB;have HO_4:=n0_;have HO330:=n1_;have HB:=n2_;clear n0_ n1_ n2_;clear hb ho27)))
               go_ret2
               exact ⟨_,by rfl,by exact Kd.R_mono HO330.out (fun _ hk=>trivial),by repeat ((with_reducible exact HB.out))⟩
              ·
               rw [if_neg c25] at H
               have c25b0:decide ((a0.size:Int)<(ζm ((ζm (x5_2+2))+(ζm ((ζm ((ζm (bt a0 x5_2)) * 256))+(ζm (bt a0 (ji18))))))))=φ:=decide_eq_false c25
               clear c25
               obtain ⟨ji28,hji28⟩ : ∃ j_:Int,(ζm (x5_2+2))=j_:=⟨_,rfl⟩
               replace H:(if 0≤(ji28) then (if (ji28)≤(ζm ((ji28)+(ζm ((ζm ((ζm (bt a0 x5_2)) * 256))+(ζm (bt a0 (ji18))))))) then (if (ζm ((ji28)+(ζm ((ζm ((ζm (bt a0 x5_2)) * 256))+(ζm (bt a0 (ji18)))))))≤(a0.size:Int) then (if x4_2.length<8796093022208 then (spec_l02Read.l0 k2 a0 (x4_2 ++ [a0.extract ((ji28):Int).toNat ((ζm ((ji28)+(ζm ((ζm ((ζm (bt a0 x5_2)) * 256))+(ζm (bt a0 (ji18))))))):Int).toNat]) (ζm (x5_2+(ζm (2+(ζm ((ζm ((ζm (bt a0 x5_2)) * 256))+(ζm (bt a0 (ji18))))))))) (ζm (x6_2 - 1))) else (none)) else (none)) else (none)) else (none))=some (r1,r2):=by (rw [hji28] at H;exact H)
               (try rw [hji28] at c12b0)
               (try rw [hji28] at c25b0)
               have hji28w:(IntKind.i64.wrap (x5_2+2))=ji28:=(i64_w _).trans hji28
               by_cases c29:0≤(ji28)
               ·
                rw [if_pos c29] at H
                have c29b0:=eq_true c29
                have c29b1:decide (0≤(ji28))=τ:=decide_eq_true c29
                clear c29
                by_cases c30:(ji28)≤(ζm ((ji28)+(ζm ((ζm ((ζm (bt a0 x5_2)) * 256))+(ζm (bt a0 (ji18)))))))
                ·
                 rw [if_pos c30] at H
                 have c30b0:=eq_true c30
                 have c30b1:decide ((ji28)≤(ζm ((ji28)+(ζm ((ζm ((ζm (bt a0 x5_2)) * 256))+(ζm (bt a0 (ji18))))))))=τ:=decide_eq_true c30
                 by_cases c31:(ζm ((ji28)+(ζm ((ζm ((ζm (bt a0 x5_2)) * 256))+(ζm (bt a0 (ji18)))))))≤(a0.size:Int)
                 ·
                  rw [if_pos c31] at H
                  have c31b0:=eq_true c31
                  have c31b1:decide ((ζm ((ji28)+(ζm ((ζm ((ζm (bt a0 x5_2)) * 256))+(ζm (bt a0 (ji18)))))))≤(a0.size:Int))=τ:=decide_eq_true c31
                  by_cases c32:x4_2.length<8796093022208
                  ·
                   rw [if_pos c32] at H
                   have LMc32:=ζa c32
                   clear c32
                   obtain ⟨y331,hy331⟩ : ∃ y_:List ByteArray,y_=(x4_2 ++ [a0.extract ((ji28):Int).toNat ((ζm ((ji28)+(ζm ((ζm ((ζm (bt a0 x5_2)) * 256))+(ζm (bt a0 (ji18))))))):Int).toNat]):=⟨_,rfl⟩
                   replace H:(spec_l02Read.l0 k2 a0 y331 (ζm (x5_2+(ζm (2+(ζm ((ζm ((ζm (bt a0 x5_2)) * 256))+(ζm (bt a0 (ji18))))))))) (ζm (x6_2 - 1)))=some (r1,r2):=by (rw [hy331];with_reducible exact H)
                   have Ny331:=ζa hy331
                   clear hy331
                   have H':=ζa H
                   clear H
                   have p17:0≤(x5_2:Int):=of_decide_eq_true (by (with_reducible assumption))
                   have q17:x5_2<(a0.size:Int):=of_decide_eq_true (by (with_reducible assumption))
                   have hx17:=bt_at a0 x5_2
                   replace p17:=eq_true p17
                   replace q17:=eq_true q17
                   have p21:0≤((ji18):Int):=of_decide_eq_true (by (with_reducible assumption))
                   have q21:(ji18)<(a0.size:Int):=of_decide_eq_true (by (with_reducible assumption))
                   have hx21:=bt_at a0 (ji18)
                   replace p21:=eq_true p21
                   replace q21:=eq_true q21
                   go_wp2_with (fail)
                   repeat (go_quiet (fail);try go_wp2_with (((with_reducible refine δy (b:=.append) (xs:=#[.tmp 53,.tmp 62]) rfl ?_);(try (refine gate_guard (by rfl) ?_;dsimp only));at_builtin;refine Kd.R_append Kd.string (w0:=w) w.heap.size rfl (.tmp 53) (.tmp 62) 75 9 (.string ⟨#[]⟩) 16 rfl Tryz.underlying75 info9 rfl (by decide) (by omega) u4 x4_2 (a0.extract ((ji28):Int).toNat ((ζm ((ji28)+(ζm ((ζm ((ζm (bt a0 x5_2)) * 256))+(ζm (bt a0 (ji18))))))):Int).toNat) [.string (a0.extract ((ji28):Int).toNat ((ζm ((ji28)+(ζm ((ζm ((ζm (bt a0 x5_2)) * 256))+(ζm (bt a0 (ji18))))))):Int).toNat)] (fun _=>True) (fun _=>False) rfl rfl ?aP (fun _ hk=>hk.elim) ?aF ?aO ?aB ?aS ?aL ?_;(case aP=>exact rfl);(case aB=>exact (by repeat ((with_reducible first|exact HB.out|apply δi))));(case aF=>exact (fun _ _=>trivial));(case aO=>exact (by (with_reducible repeat (apply ζc));exact HO_4.out));(case aS=>exact (δs (by repeat ((with_reducible first|exact HB.out|apply δi)))));(case aL=>have:=LMc32.out;omega);intro v332 w33 ho hb hg hat;rw [← Ny331.out] at ho;have n0_:=ζa (hb);have n1_:=ζa (ho);clear HB;clear HO_4;have HB:=n0_;have HO333:=n1_;clear n0_ n1_;clear ho hb hg hat)))
                   go_roundg k2
                   case measure=>have:=HJ1.out;have:=HK2.out;omega
                   case rel=>exact ⟨(y331),(ζm (x5_2+(ζm (2+(ζm ((ζm ((ζm (bt a0 x5_2)) * 256))+(ζm (bt a0 (ji18))))))))),(ζm (x6_2 - 1)),(by rfl),(by rfl),H',⟨by have:=HJ1.out;have:=HK2.out;omega⟩,⟨by exact HO333.out⟩,⟨by repeat ((with_reducible exact HB.out))⟩⟩
                  ·
                   rw [if_neg c32] at H
                   exact absurd H (by simp)
                 ·
                  rw [if_neg c31] at H
                  exact absurd H (by simp)
                ·
                 rw [if_neg c30] at H
                 exact absurd H (by simp)
               ·
                rw [if_neg c29] at H
                exact absurd H (by simp)
            ·
             rw [if_neg c20] at H
             exact absurd H (by simp)
           ·
            rw [if_neg c19] at H
            exact absurd H (by simp)
          ·
           rw [if_neg c16] at H
           exact absurd H (by simp)
         ·
          rw [if_neg c15] at H
          exact absurd H (by simp)
       ·
        rw [if_neg c11] at H
        have c11b0:decide (0<x6_2)=φ:=decide_eq_false c11
        clear c11
        by_cases c34:x5_2=(a0.size:Int)
        ·
         rw [if_pos c34] at H
         have c34b0:(x5_2 == (a0.size:Int))=τ:=beq_iff_eq.mpr c34
         have c34b1:(x5_2 != (a0.size:Int))=φ:=bne_eq_false_iff_eq.mpr c34
         clear c34
         simp only [Option.some.injEq,Prod.mk.injEq] at H
         obtain ⟨rfl,rfl⟩:=H
         go_wp2
         repeat (go_quiet (fail);try go_wp2)
         go_ret2
         exact ⟨_,by rfl,by exact HO_4.out,by repeat ((with_reducible exact HB.out))⟩
        ·
         rw [if_neg c34] at H
         have c34b0:(x5_2 == (a0.size:Int))=φ:=beq_eq_false_iff_ne.mpr c34
         have c34b1:(x5_2 != (a0.size:Int))=τ:=bne_iff_ne.mpr c34
         obtain ⟨y319,hy319⟩ : ∃ y_:List ByteArray,y_=(([]:List ByteArray)):=⟨_,rfl⟩
         replace H:(some (y319,φ))=some (r1,r2):=by (rw [hy319];with_reducible exact H)
         have Ny319:=ζa hy319
         clear hy319
         simp only [Option.some.injEq,Prod.mk.injEq] at H
         obtain ⟨rfl,rfl⟩:=H
         go_wp2_with (((with_reducible refine δx (N:=72) rfl ?_);(try (refine gate_guard (by rfl) ?_;dsimp only));refine Kd.R_lit Kd.string _ 9 ?hg (N:=72) ?hd (xs:=([]:List ByteArray)) (inner:=[]) (ok:=fun _=>True) (okp:=fun _=>True) ?hr ?hp (fun _ hk=>hk) trivial (Below.refl _ _) (Nat.le_refl _) (by simp) ?_;(case hd=>rfl);(case hg=>rfl);(case hr=>(go_simp;done));(case hp=>exact (Reps.none _ _));intro v320 w35 ho36 hb hg_ hnew_;clear hg_ hnew_;(rw [← Ny319.out] at ho36);have n0_:=ζa (Kd.R_elder' (by exact HO_4.out) (Kd.R_base ho36) hb);have n1_:=ζa (Kd.R_lower (Kd.R_new' ho36 (Kd.R_lt (by exact HO_4.out))) (δs (by exact HB.out)));have n2_:=ζa (δr (by exact HB.out) hb);clear HO_4;clear HB;have HO_4:=n0_;have HO321:=n1_;have HB:=n2_;clear n0_ n1_ n2_;clear hb ho36))
         repeat (go_quiet (fail);try go_wp2_with (fail))
         go_ret2
         exact ⟨_,by rfl,by exact Kd.R_mono HO321.out (fun _ hk=>trivial),by repeat ((with_reducible exact HB.out))⟩
    ·
     rw [if_neg c9] at H
     exact absurd H (by simp)



/-! ### spec_l08Name: function 76 -/
def spec_l08Name.f (k:Nat) (a0:ByteArray):Option (Bool):=(spec_l05Name.f k a0).bind fun t118=>(if t118=τ then (if a0.toList=([101,115,99,114,111,119]:List UInt8) then (some φ) else (if a0.toList=([111,114,100,101,114,115]:List UInt8) then (some φ) else (if a0.toList=([116,97,107,101,115]:List UInt8) then (some φ) else (some (a0.toList != ([112,111,111,108]:List UInt8)))))) else (some φ))
set_option maxHeartbeats 8000000 in
set_option maxRecDepth 100000 in
theorem spec_l08Name.calls (k:Nat) (a0:ByteArray) (r:Bool) (w:World) (h:spec_l08Name.f k a0=some r) :
  Calls Tryz.prog 76 #[.string a0] w fun e w'=>e = .returned (.bool r)∧Drawn0 w w':=by
 have H:((spec_l05Name.f k a0).bind fun t118=>(if t118=τ then (if a0.toList=([101,115,99,114,111,119]:List UInt8) then (some φ) else (if a0.toList=([111,114,100,101,114,115]:List UInt8) then (some φ) else (if a0.toList=([116,97,107,101,115]:List UInt8) then (some φ) else (some (a0.toList != ([112,111,111,108]:List UInt8)))))) else (some φ)))=some r:=h
 clear h
 replace H:=Option.bind_eq_some_iff.mp H
 obtain ⟨t118,A20,H⟩:=H
 replace H:(if t118=τ then (if a0.toList=([101,115,99,114,111,119]:List UInt8) then (some φ) else (if a0.toList=([111,114,100,101,114,115]:List UInt8) then (some φ) else (if a0.toList=([116,97,107,101,115]:List UInt8) then (some φ) else (some (a0.toList != ([112,111,111,108]:List UInt8)))))) else (some φ))=some r:=H
 have A2:=ζa A20
 clear A20
 by_cases c3:t118=τ
 ·
  subst c3
  have H1:(if a0.toList=([101,115,99,114,111,119]:List UInt8) then (some φ) else (if a0.toList=([111,114,100,101,114,115]:List UInt8) then (some φ) else (if a0.toList=([116,97,107,101,115]:List UInt8) then (some φ) else (some (a0.toList != ([112,111,111,108]:List UInt8))))))=some r:=by rw [if_pos rfl] at H;exact H
  clear H
  have H:=H1
  clear H1
  by_cases c4:a0.toList=([101,115,99,114,111,119]:List UInt8)
  ·
   rw [if_pos c4] at H
   have c4b0:(a0.toList == ([101,115,99,114,111,119]:List UInt8))=τ:=beq_iff_eq.mpr c4
   have c4b1:(a0.toList != ([101,115,99,114,111,119]:List UInt8))=φ:=bne_eq_false_iff_eq.mpr c4
   clear c4
   obtain rfl:=Option.some.inj H
   go_enter Tryz.func76,Tryz.ntmps76
   go_wp2_with (((with_reducible refine δv (f:=75) rfl ?_);refine goesL_ (some 4) rfl rfl Tryz.func75 (by kernel_rfl) rfl #[.string a0] rfl (by (try simp only [δd,δe,δf]);rfl) ?_;(with_reducible refine (spec_l05Name.calls k a0 τ _ A2.out).mono ?_);rintro e w' ⟨rfl,⟨nd,rfl⟩⟩;refine ⟨_,rfl,?_⟩))
   go_ret
   exact ⟨by rfl,by repeat (first|exact Drawn0.refl _|apply Drawn0.step)⟩
  ·
   rw [if_neg c4] at H
   have c4b0:(a0.toList == ([101,115,99,114,111,119]:List UInt8))=φ:=beq_eq_false_iff_ne.mpr c4
   have c4b1:(a0.toList != ([101,115,99,114,111,119]:List UInt8))=τ:=bne_iff_ne.mpr c4
   by_cases c5:a0.toList=([111,114,100,101,114,115]:List UInt8)
   ·
    rw [if_pos c5] at H
    have c5b0:(a0.toList == ([111,114,100,101,114,115]:List UInt8))=τ:=beq_iff_eq.mpr c5
    have c5b1:(a0.toList != ([111,114,100,101,114,115]:List UInt8))=φ:=bne_eq_false_iff_eq.mpr c5
    clear c5
    obtain rfl:=Option.some.inj H
    go_enter Tryz.func76,Tryz.ntmps76
    go_wp2_with (((with_reducible refine δv (f:=75) rfl ?_);refine goesL_ (some 4) rfl rfl Tryz.func75 (by kernel_rfl) rfl #[.string a0] rfl (by (try simp only [δd,δe,δf]);rfl) ?_;(with_reducible refine (spec_l05Name.calls k a0 τ _ A2.out).mono ?_);rintro e w' ⟨rfl,⟨nd,rfl⟩⟩;refine ⟨_,rfl,?_⟩))
    go_ret
    exact ⟨by rfl,by repeat (first|exact Drawn0.refl _|apply Drawn0.step)⟩
   ·
    rw [if_neg c5] at H
    have c5b0:(a0.toList == ([111,114,100,101,114,115]:List UInt8))=φ:=beq_eq_false_iff_ne.mpr c5
    have c5b1:(a0.toList != ([111,114,100,101,114,115]:List UInt8))=τ:=bne_iff_ne.mpr c5
    by_cases c6:a0.toList=([116,97,107,101,115]:List UInt8)
    ·
     rw [if_pos c6] at H
     have c6b0:(a0.toList == ([116,97,107,101,115]:List UInt8))=τ:=beq_iff_eq.mpr c6
     have c6b1:(a0.toList != ([116,97,107,101,115]:List UInt8))=φ:=bne_eq_false_iff_eq.mpr c6
     clear c6
     obtain rfl:=Option.some.inj H
     go_enter Tryz.func76,Tryz.ntmps76
     go_wp2_with (((with_reducible refine δv (f:=75) rfl ?_);refine goesL_ (some 4) rfl rfl Tryz.func75 (by kernel_rfl) rfl #[.string a0] rfl (by (try simp only [δd,δe,δf]);rfl) ?_;(with_reducible refine (spec_l05Name.calls k a0 τ _ A2.out).mono ?_);rintro e w' ⟨rfl,⟨nd,rfl⟩⟩;refine ⟨_,rfl,?_⟩))
     go_ret
     exact ⟨by rfl,by repeat (first|exact Drawn0.refl _|apply Drawn0.step)⟩
    ·
     rw [if_neg c6] at H
     have c6b0:(a0.toList == ([116,97,107,101,115]:List UInt8))=φ:=beq_eq_false_iff_ne.mpr c6
     have c6b1:(a0.toList != ([116,97,107,101,115]:List UInt8))=τ:=bne_iff_ne.mpr c6
     obtain rfl:=Option.some.inj H
     go_enter Tryz.func76,Tryz.ntmps76
     go_wp2_with (((with_reducible refine δv (f:=75) rfl ?_);refine goesL_ (some 4) rfl rfl Tryz.func75 (by kernel_rfl) rfl #[.string a0] rfl (by (try simp only [δd,δe,δf]);rfl) ?_;(with_reducible refine (spec_l05Name.calls k a0 τ _ A2.out).mono ?_);rintro e w' ⟨rfl,⟨nd,rfl⟩⟩;refine ⟨_,rfl,?_⟩))
     go_ret
     exact ⟨by rfl,by repeat (first|exact Drawn0.refl _|apply Drawn0.step)⟩
 ·
  replace c3:=Bool.eq_false_iff.mpr c3
  subst c3
  have H1:(some φ)=some r:=by rw [if_neg (show ¬ (φ=τ) by decide)] at H;exact H
  clear H
  have H:=H1
  clear H1
  obtain rfl:=Option.some.inj H
  go_enter Tryz.func76,Tryz.ntmps76
  go_wp2_with (((with_reducible refine δv (f:=75) rfl ?_);refine goesL_ (some 4) rfl rfl Tryz.func75 (by kernel_rfl) rfl #[.string a0] rfl (by (try simp only [δd,δe,δf]);rfl) ?_;(with_reducible refine (spec_l05Name.calls k a0 φ _ A2.out).mono ?_);rintro e w' ⟨rfl,⟨nd,rfl⟩⟩;refine ⟨_,rfl,?_⟩))
  go_ret
  exact ⟨by rfl,by repeat (first|exact Drawn0.refl _|apply Drawn0.step)⟩


open Go.Proofs.YtabmfhnhmoiljaaGreatDoorW.PrintWords renaming gate_dst → δx, box_event → δz, below_step → δr, below_size → δs, blk_cell → δl, blk_frozen → δm, gate_callee → δv, pw_below_drewN → δi

/-! ### spec_OrderOK: function 101 -/
def spec_OrderOK.f (k:Nat) (a0_0:ByteArray) (a0_1:ByteArray) (a0_2:Int) (a0_3:Int) (a0_4:Int) (a0_5:Bool):Option (Bool):=(spec_l05Name.f k a0_0).bind fun t611=>(if t611=τ then ((spec_l08Name.f k a0_1).bind fun t612=>(if t612=τ then ((spec_l01In.f a0_2 1 1000000000000000000).bind fun t613=>(if t613=τ then ((spec_l01In.f a0_3 1 1000000000000000000).bind fun t614=>(if t614=τ then ((spec_l01In.f a0_4 0 a0_2).bind fun t615=>(if t615=τ then (if a0_5=τ then (some (decide (a0_4 > 0))) else (if a0_4=0 then (some τ) else (some φ))) else (some φ))) else (some φ))) else (some φ))) else (some φ))) else (some φ))
set_option maxHeartbeats 8000000 in
set_option maxRecDepth 100000 in
theorem spec_OrderOK.calls (k:Nat) (a0_0:ByteArray) (a0_1:ByteArray) (a0_2:Int) (a0_3:Int) (a0_4:Int) (a0_5:Bool) (r:Bool) (w:World) (h:spec_OrderOK.f k a0_0 a0_1 a0_2 a0_3 a0_4 a0_5=some r) :
  Calls Tryz.prog 101 #[.agg #[.string a0_0,.string a0_1,.int .i64 a0_2,.int .i64 a0_3,.int .i64 a0_4,.bool a0_5]] w fun e w'=>e = .returned (.bool r)∧Below w.heap.size w w':=by
 have hu66:=Tryz.underlying66
 have HB:=ζa (Below.refl w.heap.size w)
 have H:((spec_l05Name.f k a0_0).bind fun t611=>(if t611=τ then ((spec_l08Name.f k a0_1).bind fun t612=>(if t612=τ then ((spec_l01In.f a0_2 1 1000000000000000000).bind fun t613=>(if t613=τ then ((spec_l01In.f a0_3 1 1000000000000000000).bind fun t614=>(if t614=τ then ((spec_l01In.f a0_4 0 a0_2).bind fun t615=>(if t615=τ then (if a0_5=τ then (some (decide (a0_4 > 0))) else (if a0_4=0 then (some τ) else (some φ))) else (some φ))) else (some φ))) else (some φ))) else (some φ))) else (some φ)))=some r:=h
 clear h
 replace H:=Option.bind_eq_some_iff.mp H
 obtain ⟨t611,A20,H⟩:=H
 replace H:(if t611=τ then ((spec_l08Name.f k a0_1).bind fun t612=>(if t612=τ then ((spec_l01In.f a0_2 1 1000000000000000000).bind fun t613=>(if t613=τ then ((spec_l01In.f a0_3 1 1000000000000000000).bind fun t614=>(if t614=τ then ((spec_l01In.f a0_4 0 a0_2).bind fun t615=>(if t615=τ then (if a0_5=τ then (some (decide (a0_4 > 0))) else (if a0_4=0 then (some τ) else (some φ))) else (some φ))) else (some φ))) else (some φ))) else (some φ))) else (some φ))=some r:=H
 have A2:=ζa A20
 clear A20
 by_cases c3:t611=τ
 ·
  subst c3
  have H1:((spec_l08Name.f k a0_1).bind fun t612=>(if t612=τ then ((spec_l01In.f a0_2 1 1000000000000000000).bind fun t613=>(if t613=τ then ((spec_l01In.f a0_3 1 1000000000000000000).bind fun t614=>(if t614=τ then ((spec_l01In.f a0_4 0 a0_2).bind fun t615=>(if t615=τ then (if a0_5=τ then (some (decide (a0_4 > 0))) else (if a0_4=0 then (some τ) else (some φ))) else (some φ))) else (some φ))) else (some φ))) else (some φ)))=some r:=by rw [if_pos rfl] at H;exact H
  clear H
  have H:=H1
  clear H1
  replace H:=Option.bind_eq_some_iff.mp H
  obtain ⟨t612,A40,H⟩:=H
  replace H:(if t612=τ then ((spec_l01In.f a0_2 1 1000000000000000000).bind fun t613=>(if t613=τ then ((spec_l01In.f a0_3 1 1000000000000000000).bind fun t614=>(if t614=τ then ((spec_l01In.f a0_4 0 a0_2).bind fun t615=>(if t615=τ then (if a0_5=τ then (some (decide (a0_4 > 0))) else (if a0_4=0 then (some τ) else (some φ))) else (some φ))) else (some φ))) else (some φ))) else (some φ))=some r:=H
  have A4:=ζa A40
  clear A40
  by_cases c5:t612=τ
  ·
   subst c5
   have H1:((spec_l01In.f a0_2 1 1000000000000000000).bind fun t613=>(if t613=τ then ((spec_l01In.f a0_3 1 1000000000000000000).bind fun t614=>(if t614=τ then ((spec_l01In.f a0_4 0 a0_2).bind fun t615=>(if t615=τ then (if a0_5=τ then (some (decide (a0_4 > 0))) else (if a0_4=0 then (some τ) else (some φ))) else (some φ))) else (some φ))) else (some φ)))=some r:=by rw [if_pos rfl] at H;exact H
   clear H
   have H:=H1
   clear H1
   replace H:=Option.bind_eq_some_iff.mp H
   obtain ⟨t613,A60,H⟩:=H
   replace H:(if t613=τ then ((spec_l01In.f a0_3 1 1000000000000000000).bind fun t614=>(if t614=τ then ((spec_l01In.f a0_4 0 a0_2).bind fun t615=>(if t615=τ then (if a0_5=τ then (some (decide (a0_4 > 0))) else (if a0_4=0 then (some τ) else (some φ))) else (some φ))) else (some φ))) else (some φ))=some r:=H
   have A6:=ζa A60
   clear A60
   by_cases c7:t613=τ
   ·
    subst c7
    have H1:((spec_l01In.f a0_3 1 1000000000000000000).bind fun t614=>(if t614=τ then ((spec_l01In.f a0_4 0 a0_2).bind fun t615=>(if t615=τ then (if a0_5=τ then (some (decide (a0_4 > 0))) else (if a0_4=0 then (some τ) else (some φ))) else (some φ))) else (some φ)))=some r:=by rw [if_pos rfl] at H;exact H
    clear H
    have H:=H1
    clear H1
    replace H:=Option.bind_eq_some_iff.mp H
    obtain ⟨t614,A80,H⟩:=H
    replace H:(if t614=τ then ((spec_l01In.f a0_4 0 a0_2).bind fun t615=>(if t615=τ then (if a0_5=τ then (some (decide (a0_4 > 0))) else (if a0_4=0 then (some τ) else (some φ))) else (some φ))) else (some φ))=some r:=H
    have A8:=ζa A80
    clear A80
    by_cases c9:t614=τ
    ·
     subst c9
     have H1:((spec_l01In.f a0_4 0 a0_2).bind fun t615=>(if t615=τ then (if a0_5=τ then (some (decide (a0_4 > 0))) else (if a0_4=0 then (some τ) else (some φ))) else (some φ)))=some r:=by rw [if_pos rfl] at H;exact H
     clear H
     have H:=H1
     clear H1
     replace H:=Option.bind_eq_some_iff.mp H
     obtain ⟨t615,A100,H⟩:=H
     replace H:(if t615=τ then (if a0_5=τ then (some (decide (a0_4 > 0))) else (if a0_4=0 then (some τ) else (some φ))) else (some φ))=some r:=H
     have A10:=ζa A100
     clear A100
     by_cases c11:t615=τ
     ·
      subst c11
      have H1:(if a0_5=τ then (some (decide (a0_4 > 0))) else (if a0_4=0 then (some τ) else (some φ)))=some r:=by rw [if_pos rfl] at H;exact H
      clear H
      have H:=H1
      clear H1
      by_cases c12:a0_5=τ
      ·
       subst c12
       have H1:(some (decide (a0_4 > 0)))=some r:=by rw [if_pos rfl] at H;exact H
       clear H
       have H:=H1
       clear H1
       obtain rfl:=Option.some.inj H
       go_enter Tryz.func101,Tryz.ntmps101
       go_wp2_with (first|((with_reducible refine δx (N:=1) rfl ?_);refine δz ?hg (N:=1) ?hd (cs:=#[.string a0_0,.string a0_1,.int .i64 a0_2,.int .i64 a0_3,.int .i64 a0_4,.bool τ]) (t:=66) ?hr ?_;(case hd=>rfl);(case hg=>rfl);(case hr=>(go_simp;done));intro gb610 hg w13 hbox hb;have n0_:=ζa (δr (by exact HB.out) hb);have n1_:=ζa (hbox);have n2_:=ζa ((by rw [hg];exact (δs (by exact HB.out)):w.heap.size≤gb610));have n3_:=ζa ((by rw [hg];exact (δs (by exact HB.out)):w.heap.size≤gb610));clear HB;have HB:=n0_;have BK610:=n1_;have GW610:=n2_;have GE610:=n3_;clear n0_ n1_ n2_ n3_;clear hb hbox hg;have hcz14_0:w13.cell? ⟨gb610,0,none⟩=some (.string a0_0):=(δl BK610.out 0).trans rfl;have hcz14_1:w13.cell? ⟨gb610,1,none⟩=some (.string a0_1):=(δl BK610.out 1).trans rfl;have hcz14_2:w13.cell? ⟨gb610,2,none⟩=some (.int .i64 a0_2):=(δl BK610.out 2).trans rfl;have hcz14_3:w13.cell? ⟨gb610,3,none⟩=some (.int .i64 a0_3):=(δl BK610.out 3).trans rfl;have hcz14_4:w13.cell? ⟨gb610,4,none⟩=some (.int .i64 a0_4):=(δl BK610.out 4).trans rfl;have hcz14_5:w13.cell? ⟨gb610,5,none⟩=some (.bool τ):=(δl BK610.out 5).trans rfl;have hfz14_0:=δm BK610.out 0;have hfz14_1:=δm BK610.out 1;have hfz14_2:=δm BK610.out 2;have hfz14_3:=δm BK610.out 3;have hfz14_4:=δm BK610.out 4;have hfz14_5:=δm BK610.out 5)|((with_reducible refine δv (f:=75) rfl ?_);refine goesL_ (some 5) rfl rfl Tryz.func75 (by kernel_rfl) rfl #[.string a0_0] rfl (by (try simp only [δd,δe,δf]);rfl) ?_;(with_reducible refine (spec_l05Name.calls k a0_0 τ _ A2.out).mono ?_);rintro e w' ⟨rfl,⟨nd,rfl⟩⟩;refine ⟨_,rfl,?_⟩)|(go_at_call 76;(with_reducible refine (spec_l08Name.calls k a0_1 τ _ A4.out).mono ?_);rintro e w' ⟨rfl,⟨nd,rfl⟩⟩)|(go_at_call 77;(with_reducible refine (spec_l01In.calls a0_2 1 1000000000000000000 τ _ A6.out).mono ?_);rintro e w' ⟨rfl,⟨nd,rfl⟩⟩)|(go_at_call 77;(with_reducible refine (spec_l01In.calls a0_3 1 1000000000000000000 τ _ A8.out).mono ?_);rintro e w' ⟨rfl,⟨nd,rfl⟩⟩)|(go_at_call 77;(with_reducible refine (spec_l01In.calls a0_4 0 a0_2 τ _ A10.out).mono ?_);rintro e w' ⟨rfl,⟨nd,rfl⟩⟩))
       go_ret
       exact ⟨by rfl,by repeat ((with_reducible first|exact HB.out|apply δi))⟩
      ·
       replace c12:=Bool.eq_false_iff.mpr c12
       subst c12
       have H1:(if a0_4=0 then (some τ) else (some φ))=some r:=by rw [if_neg (show ¬ (φ=τ) by decide)] at H;exact H
       clear H
       have H:=H1
       clear H1
       by_cases c15:a0_4=0
       ·
        rw [if_pos c15] at H
        have c15b0:(a0_4 == 0)=τ:=beq_iff_eq.mpr c15
        have c15b1:(a0_4 != 0)=φ:=bne_eq_false_iff_eq.mpr c15
        clear c15
        obtain rfl:=Option.some.inj H
        go_enter Tryz.func101,Tryz.ntmps101
        go_wp2_with (first|((with_reducible refine δx (N:=1) rfl ?_);refine δz ?hg (N:=1) ?hd (cs:=#[.string a0_0,.string a0_1,.int .i64 a0_2,.int .i64 a0_3,.int .i64 a0_4,.bool φ]) (t:=66) ?hr ?_;(case hd=>rfl);(case hg=>rfl);(case hr=>(go_simp;done));intro gb610 hg w16 hbox hb;have n0_:=ζa (δr (by exact HB.out) hb);have n1_:=ζa (hbox);have n2_:=ζa ((by rw [hg];exact (δs (by exact HB.out)):w.heap.size≤gb610));have n3_:=ζa ((by rw [hg];exact (δs (by exact HB.out)):w.heap.size≤gb610));clear HB;have HB:=n0_;have BK610:=n1_;have GW610:=n2_;have GE610:=n3_;clear n0_ n1_ n2_ n3_;clear hb hbox hg;have hcz17_0:w16.cell? ⟨gb610,0,none⟩=some (.string a0_0):=(δl BK610.out 0).trans rfl;have hcz17_1:w16.cell? ⟨gb610,1,none⟩=some (.string a0_1):=(δl BK610.out 1).trans rfl;have hcz17_2:w16.cell? ⟨gb610,2,none⟩=some (.int .i64 a0_2):=(δl BK610.out 2).trans rfl;have hcz17_3:w16.cell? ⟨gb610,3,none⟩=some (.int .i64 a0_3):=(δl BK610.out 3).trans rfl;have hcz17_4:w16.cell? ⟨gb610,4,none⟩=some (.int .i64 a0_4):=(δl BK610.out 4).trans rfl;have hcz17_5:w16.cell? ⟨gb610,5,none⟩=some (.bool φ):=(δl BK610.out 5).trans rfl;have hfz17_0:=δm BK610.out 0;have hfz17_1:=δm BK610.out 1;have hfz17_2:=δm BK610.out 2;have hfz17_3:=δm BK610.out 3;have hfz17_4:=δm BK610.out 4;have hfz17_5:=δm BK610.out 5)|((with_reducible refine δv (f:=75) rfl ?_);refine goesL_ (some 5) rfl rfl Tryz.func75 (by kernel_rfl) rfl #[.string a0_0] rfl (by (try simp only [δd,δe,δf]);rfl) ?_;(with_reducible refine (spec_l05Name.calls k a0_0 τ _ A2.out).mono ?_);rintro e w' ⟨rfl,⟨nd,rfl⟩⟩;refine ⟨_,rfl,?_⟩)|(go_at_call 76;(with_reducible refine (spec_l08Name.calls k a0_1 τ _ A4.out).mono ?_);rintro e w' ⟨rfl,⟨nd,rfl⟩⟩)|(go_at_call 77;(with_reducible refine (spec_l01In.calls a0_2 1 1000000000000000000 τ _ A6.out).mono ?_);rintro e w' ⟨rfl,⟨nd,rfl⟩⟩)|(go_at_call 77;(with_reducible refine (spec_l01In.calls a0_3 1 1000000000000000000 τ _ A8.out).mono ?_);rintro e w' ⟨rfl,⟨nd,rfl⟩⟩)|(go_at_call 77;(with_reducible refine (spec_l01In.calls a0_4 0 a0_2 τ _ A10.out).mono ?_);rintro e w' ⟨rfl,⟨nd,rfl⟩⟩))
        go_ret
        exact ⟨by rfl,by repeat ((with_reducible first|exact HB.out|apply δi))⟩
       ·
        rw [if_neg c15] at H
        have c15b0:(a0_4 == 0)=φ:=beq_eq_false_iff_ne.mpr c15
        have c15b1:(a0_4 != 0)=τ:=bne_iff_ne.mpr c15
        obtain rfl:=Option.some.inj H
        go_enter Tryz.func101,Tryz.ntmps101
        go_wp2_with (first|((with_reducible refine δx (N:=1) rfl ?_);refine δz ?hg (N:=1) ?hd (cs:=#[.string a0_0,.string a0_1,.int .i64 a0_2,.int .i64 a0_3,.int .i64 a0_4,.bool φ]) (t:=66) ?hr ?_;(case hd=>rfl);(case hg=>rfl);(case hr=>(go_simp;done));intro gb610 hg w18 hbox hb;have n0_:=ζa (δr (by exact HB.out) hb);have n1_:=ζa (hbox);have n2_:=ζa ((by rw [hg];exact (δs (by exact HB.out)):w.heap.size≤gb610));have n3_:=ζa ((by rw [hg];exact (δs (by exact HB.out)):w.heap.size≤gb610));clear HB;have HB:=n0_;have BK610:=n1_;have GW610:=n2_;have GE610:=n3_;clear n0_ n1_ n2_ n3_;clear hb hbox hg;have hcz19_0:w18.cell? ⟨gb610,0,none⟩=some (.string a0_0):=(δl BK610.out 0).trans rfl;have hcz19_1:w18.cell? ⟨gb610,1,none⟩=some (.string a0_1):=(δl BK610.out 1).trans rfl;have hcz19_2:w18.cell? ⟨gb610,2,none⟩=some (.int .i64 a0_2):=(δl BK610.out 2).trans rfl;have hcz19_3:w18.cell? ⟨gb610,3,none⟩=some (.int .i64 a0_3):=(δl BK610.out 3).trans rfl;have hcz19_4:w18.cell? ⟨gb610,4,none⟩=some (.int .i64 a0_4):=(δl BK610.out 4).trans rfl;have hcz19_5:w18.cell? ⟨gb610,5,none⟩=some (.bool φ):=(δl BK610.out 5).trans rfl;have hfz19_0:=δm BK610.out 0;have hfz19_1:=δm BK610.out 1;have hfz19_2:=δm BK610.out 2;have hfz19_3:=δm BK610.out 3;have hfz19_4:=δm BK610.out 4;have hfz19_5:=δm BK610.out 5)|((with_reducible refine δv (f:=75) rfl ?_);refine goesL_ (some 5) rfl rfl Tryz.func75 (by kernel_rfl) rfl #[.string a0_0] rfl (by (try simp only [δd,δe,δf]);rfl) ?_;(with_reducible refine (spec_l05Name.calls k a0_0 τ _ A2.out).mono ?_);rintro e w' ⟨rfl,⟨nd,rfl⟩⟩;refine ⟨_,rfl,?_⟩)|(go_at_call 76;(with_reducible refine (spec_l08Name.calls k a0_1 τ _ A4.out).mono ?_);rintro e w' ⟨rfl,⟨nd,rfl⟩⟩)|(go_at_call 77;(with_reducible refine (spec_l01In.calls a0_2 1 1000000000000000000 τ _ A6.out).mono ?_);rintro e w' ⟨rfl,⟨nd,rfl⟩⟩)|(go_at_call 77;(with_reducible refine (spec_l01In.calls a0_3 1 1000000000000000000 τ _ A8.out).mono ?_);rintro e w' ⟨rfl,⟨nd,rfl⟩⟩)|(go_at_call 77;(with_reducible refine (spec_l01In.calls a0_4 0 a0_2 τ _ A10.out).mono ?_);rintro e w' ⟨rfl,⟨nd,rfl⟩⟩))
        go_ret
        exact ⟨by rfl,by repeat ((with_reducible first|exact HB.out|apply δi))⟩
     ·
      replace c11:=Bool.eq_false_iff.mpr c11
      subst c11
      have H1:(some φ)=some r:=by rw [if_neg (show ¬ (φ=τ) by decide)] at H;exact H
      clear H
      have H:=H1
      clear H1
      obtain rfl:=Option.some.inj H
      go_enter Tryz.func101,Tryz.ntmps101
      go_wp2_with (first|((with_reducible refine δx (N:=1) rfl ?_);refine δz ?hg (N:=1) ?hd (cs:=#[.string a0_0,.string a0_1,.int .i64 a0_2,.int .i64 a0_3,.int .i64 a0_4,.bool a0_5]) (t:=66) ?hr ?_;(case hd=>rfl);(case hg=>rfl);(case hr=>(go_simp;done));intro gb610 hg w20 hbox hb;have n0_:=ζa (δr (by exact HB.out) hb);have n1_:=ζa (hbox);have n2_:=ζa ((by rw [hg];exact (δs (by exact HB.out)):w.heap.size≤gb610));have n3_:=ζa ((by rw [hg];exact (δs (by exact HB.out)):w.heap.size≤gb610));clear HB;have HB:=n0_;have BK610:=n1_;have GW610:=n2_;have GE610:=n3_;clear n0_ n1_ n2_ n3_;clear hb hbox hg;have hcz21_0:w20.cell? ⟨gb610,0,none⟩=some (.string a0_0):=(δl BK610.out 0).trans rfl;have hcz21_1:w20.cell? ⟨gb610,1,none⟩=some (.string a0_1):=(δl BK610.out 1).trans rfl;have hcz21_2:w20.cell? ⟨gb610,2,none⟩=some (.int .i64 a0_2):=(δl BK610.out 2).trans rfl;have hcz21_3:w20.cell? ⟨gb610,3,none⟩=some (.int .i64 a0_3):=(δl BK610.out 3).trans rfl;have hcz21_4:w20.cell? ⟨gb610,4,none⟩=some (.int .i64 a0_4):=(δl BK610.out 4).trans rfl;have hcz21_5:w20.cell? ⟨gb610,5,none⟩=some (.bool a0_5):=(δl BK610.out 5).trans rfl;have hfz21_0:=δm BK610.out 0;have hfz21_1:=δm BK610.out 1;have hfz21_2:=δm BK610.out 2;have hfz21_3:=δm BK610.out 3;have hfz21_4:=δm BK610.out 4;have hfz21_5:=δm BK610.out 5)|((with_reducible refine δv (f:=75) rfl ?_);refine goesL_ (some 5) rfl rfl Tryz.func75 (by kernel_rfl) rfl #[.string a0_0] rfl (by (try simp only [δd,δe,δf]);rfl) ?_;(with_reducible refine (spec_l05Name.calls k a0_0 τ _ A2.out).mono ?_);rintro e w' ⟨rfl,⟨nd,rfl⟩⟩;refine ⟨_,rfl,?_⟩)|(go_at_call 76;(with_reducible refine (spec_l08Name.calls k a0_1 τ _ A4.out).mono ?_);rintro e w' ⟨rfl,⟨nd,rfl⟩⟩)|(go_at_call 77;(with_reducible refine (spec_l01In.calls a0_2 1 1000000000000000000 τ _ A6.out).mono ?_);rintro e w' ⟨rfl,⟨nd,rfl⟩⟩)|(go_at_call 77;(with_reducible refine (spec_l01In.calls a0_3 1 1000000000000000000 τ _ A8.out).mono ?_);rintro e w' ⟨rfl,⟨nd,rfl⟩⟩)|(go_at_call 77;(with_reducible refine (spec_l01In.calls a0_4 0 a0_2 φ _ A10.out).mono ?_);rintro e w' ⟨rfl,⟨nd,rfl⟩⟩))
      go_ret
      exact ⟨by rfl,by repeat ((with_reducible first|exact HB.out|apply δi))⟩
    ·
     replace c9:=Bool.eq_false_iff.mpr c9
     subst c9
     have H1:(some φ)=some r:=by rw [if_neg (show ¬ (φ=τ) by decide)] at H;exact H
     clear H
     have H:=H1
     clear H1
     obtain rfl:=Option.some.inj H
     go_enter Tryz.func101,Tryz.ntmps101
     go_wp2_with (first|((with_reducible refine δx (N:=1) rfl ?_);refine δz ?hg (N:=1) ?hd (cs:=#[.string a0_0,.string a0_1,.int .i64 a0_2,.int .i64 a0_3,.int .i64 a0_4,.bool a0_5]) (t:=66) ?hr ?_;(case hd=>rfl);(case hg=>rfl);(case hr=>(go_simp;done));intro gb610 hg w22 hbox hb;have n0_:=ζa (δr (by exact HB.out) hb);have n1_:=ζa (hbox);have n2_:=ζa ((by rw [hg];exact (δs (by exact HB.out)):w.heap.size≤gb610));have n3_:=ζa ((by rw [hg];exact (δs (by exact HB.out)):w.heap.size≤gb610));clear HB;have HB:=n0_;have BK610:=n1_;have GW610:=n2_;have GE610:=n3_;clear n0_ n1_ n2_ n3_;clear hb hbox hg;have hcz23_0:w22.cell? ⟨gb610,0,none⟩=some (.string a0_0):=(δl BK610.out 0).trans rfl;have hcz23_1:w22.cell? ⟨gb610,1,none⟩=some (.string a0_1):=(δl BK610.out 1).trans rfl;have hcz23_2:w22.cell? ⟨gb610,2,none⟩=some (.int .i64 a0_2):=(δl BK610.out 2).trans rfl;have hcz23_3:w22.cell? ⟨gb610,3,none⟩=some (.int .i64 a0_3):=(δl BK610.out 3).trans rfl;have hcz23_4:w22.cell? ⟨gb610,4,none⟩=some (.int .i64 a0_4):=(δl BK610.out 4).trans rfl;have hcz23_5:w22.cell? ⟨gb610,5,none⟩=some (.bool a0_5):=(δl BK610.out 5).trans rfl;have hfz23_0:=δm BK610.out 0;have hfz23_1:=δm BK610.out 1;have hfz23_2:=δm BK610.out 2;have hfz23_3:=δm BK610.out 3;have hfz23_4:=δm BK610.out 4;have hfz23_5:=δm BK610.out 5)|((with_reducible refine δv (f:=75) rfl ?_);refine goesL_ (some 5) rfl rfl Tryz.func75 (by kernel_rfl) rfl #[.string a0_0] rfl (by (try simp only [δd,δe,δf]);rfl) ?_;(with_reducible refine (spec_l05Name.calls k a0_0 τ _ A2.out).mono ?_);rintro e w' ⟨rfl,⟨nd,rfl⟩⟩;refine ⟨_,rfl,?_⟩)|(go_at_call 76;(with_reducible refine (spec_l08Name.calls k a0_1 τ _ A4.out).mono ?_);rintro e w' ⟨rfl,⟨nd,rfl⟩⟩)|(go_at_call 77;(with_reducible refine (spec_l01In.calls a0_2 1 1000000000000000000 τ _ A6.out).mono ?_);rintro e w' ⟨rfl,⟨nd,rfl⟩⟩)|(go_at_call 77;(with_reducible refine (spec_l01In.calls a0_3 1 1000000000000000000 φ _ A8.out).mono ?_);rintro e w' ⟨rfl,⟨nd,rfl⟩⟩))
     go_ret
     exact ⟨by rfl,by repeat ((with_reducible first|exact HB.out|apply δi))⟩
   ·
    replace c7:=Bool.eq_false_iff.mpr c7
    subst c7
    have H1:(some φ)=some r:=by rw [if_neg (show ¬ (φ=τ) by decide)] at H;exact H
    clear H
    have H:=H1
    clear H1
    obtain rfl:=Option.some.inj H
    go_enter Tryz.func101,Tryz.ntmps101
    go_wp2_with (first|((with_reducible refine δx (N:=1) rfl ?_);refine δz ?hg (N:=1) ?hd (cs:=#[.string a0_0,.string a0_1,.int .i64 a0_2,.int .i64 a0_3,.int .i64 a0_4,.bool a0_5]) (t:=66) ?hr ?_;(case hd=>rfl);(case hg=>rfl);(case hr=>(go_simp;done));intro gb610 hg w24 hbox hb;have n0_:=ζa (δr (by exact HB.out) hb);have n1_:=ζa (hbox);have n2_:=ζa ((by rw [hg];exact (δs (by exact HB.out)):w.heap.size≤gb610));have n3_:=ζa ((by rw [hg];exact (δs (by exact HB.out)):w.heap.size≤gb610));clear HB;have HB:=n0_;have BK610:=n1_;have GW610:=n2_;have GE610:=n3_;clear n0_ n1_ n2_ n3_;clear hb hbox hg;have hcz25_0:w24.cell? ⟨gb610,0,none⟩=some (.string a0_0):=(δl BK610.out 0).trans rfl;have hcz25_1:w24.cell? ⟨gb610,1,none⟩=some (.string a0_1):=(δl BK610.out 1).trans rfl;have hcz25_2:w24.cell? ⟨gb610,2,none⟩=some (.int .i64 a0_2):=(δl BK610.out 2).trans rfl;have hcz25_3:w24.cell? ⟨gb610,3,none⟩=some (.int .i64 a0_3):=(δl BK610.out 3).trans rfl;have hcz25_4:w24.cell? ⟨gb610,4,none⟩=some (.int .i64 a0_4):=(δl BK610.out 4).trans rfl;have hcz25_5:w24.cell? ⟨gb610,5,none⟩=some (.bool a0_5):=(δl BK610.out 5).trans rfl;have hfz25_0:=δm BK610.out 0;have hfz25_1:=δm BK610.out 1;have hfz25_2:=δm BK610.out 2;have hfz25_3:=δm BK610.out 3;have hfz25_4:=δm BK610.out 4;have hfz25_5:=δm BK610.out 5)|((with_reducible refine δv (f:=75) rfl ?_);refine goesL_ (some 5) rfl rfl Tryz.func75 (by kernel_rfl) rfl #[.string a0_0] rfl (by (try simp only [δd,δe,δf]);rfl) ?_;(with_reducible refine (spec_l05Name.calls k a0_0 τ _ A2.out).mono ?_);rintro e w' ⟨rfl,⟨nd,rfl⟩⟩;refine ⟨_,rfl,?_⟩)|(go_at_call 76;(with_reducible refine (spec_l08Name.calls k a0_1 τ _ A4.out).mono ?_);rintro e w' ⟨rfl,⟨nd,rfl⟩⟩)|(go_at_call 77;(with_reducible refine (spec_l01In.calls a0_2 1 1000000000000000000 φ _ A6.out).mono ?_);rintro e w' ⟨rfl,⟨nd,rfl⟩⟩))
    go_ret
    exact ⟨by rfl,by repeat ((with_reducible first|exact HB.out|apply δi))⟩
  ·
   replace c5:=Bool.eq_false_iff.mpr c5
   subst c5
   have H1:(some φ)=some r:=by rw [if_neg (show ¬ (φ=τ) by decide)] at H;exact H
   clear H
   have H:=H1
   clear H1
   obtain rfl:=Option.some.inj H
   go_enter Tryz.func101,Tryz.ntmps101
   go_wp2_with (first|((with_reducible refine δx (N:=1) rfl ?_);refine δz ?hg (N:=1) ?hd (cs:=#[.string a0_0,.string a0_1,.int .i64 a0_2,.int .i64 a0_3,.int .i64 a0_4,.bool a0_5]) (t:=66) ?hr ?_;(case hd=>rfl);(case hg=>rfl);(case hr=>(go_simp;done));intro gb610 hg w26 hbox hb;have n0_:=ζa (δr (by exact HB.out) hb);have n1_:=ζa (hbox);have n2_:=ζa ((by rw [hg];exact (δs (by exact HB.out)):w.heap.size≤gb610));have n3_:=ζa ((by rw [hg];exact (δs (by exact HB.out)):w.heap.size≤gb610));clear HB;have HB:=n0_;have BK610:=n1_;have GW610:=n2_;have GE610:=n3_;clear n0_ n1_ n2_ n3_;clear hb hbox hg;have hcz27_0:w26.cell? ⟨gb610,0,none⟩=some (.string a0_0):=(δl BK610.out 0).trans rfl;have hcz27_1:w26.cell? ⟨gb610,1,none⟩=some (.string a0_1):=(δl BK610.out 1).trans rfl;have hcz27_2:w26.cell? ⟨gb610,2,none⟩=some (.int .i64 a0_2):=(δl BK610.out 2).trans rfl;have hcz27_3:w26.cell? ⟨gb610,3,none⟩=some (.int .i64 a0_3):=(δl BK610.out 3).trans rfl;have hcz27_4:w26.cell? ⟨gb610,4,none⟩=some (.int .i64 a0_4):=(δl BK610.out 4).trans rfl;have hcz27_5:w26.cell? ⟨gb610,5,none⟩=some (.bool a0_5):=(δl BK610.out 5).trans rfl;have hfz27_0:=δm BK610.out 0;have hfz27_1:=δm BK610.out 1;have hfz27_2:=δm BK610.out 2;have hfz27_3:=δm BK610.out 3;have hfz27_4:=δm BK610.out 4;have hfz27_5:=δm BK610.out 5)|((with_reducible refine δv (f:=75) rfl ?_);refine goesL_ (some 5) rfl rfl Tryz.func75 (by kernel_rfl) rfl #[.string a0_0] rfl (by (try simp only [δd,δe,δf]);rfl) ?_;(with_reducible refine (spec_l05Name.calls k a0_0 τ _ A2.out).mono ?_);rintro e w' ⟨rfl,⟨nd,rfl⟩⟩;refine ⟨_,rfl,?_⟩)|(go_at_call 76;(with_reducible refine (spec_l08Name.calls k a0_1 φ _ A4.out).mono ?_);rintro e w' ⟨rfl,⟨nd,rfl⟩⟩))
   go_ret
   exact ⟨by rfl,by repeat ((with_reducible first|exact HB.out|apply δi))⟩
 ·
  replace c3:=Bool.eq_false_iff.mpr c3
  subst c3
  have H1:(some φ)=some r:=by rw [if_neg (show ¬ (φ=τ) by decide)] at H;exact H
  clear H
  have H:=H1
  clear H1
  obtain rfl:=Option.some.inj H
  go_enter Tryz.func101,Tryz.ntmps101
  go_wp2_with (first|((with_reducible refine δx (N:=1) rfl ?_);refine δz ?hg (N:=1) ?hd (cs:=#[.string a0_0,.string a0_1,.int .i64 a0_2,.int .i64 a0_3,.int .i64 a0_4,.bool a0_5]) (t:=66) ?hr ?_;(case hd=>rfl);(case hg=>rfl);(case hr=>(go_simp;done));intro gb610 hg w28 hbox hb;have n0_:=ζa (δr (by exact HB.out) hb);have n1_:=ζa (hbox);have n2_:=ζa ((by rw [hg];exact (δs (by exact HB.out)):w.heap.size≤gb610));have n3_:=ζa ((by rw [hg];exact (δs (by exact HB.out)):w.heap.size≤gb610));clear HB;have HB:=n0_;have BK610:=n1_;have GW610:=n2_;have GE610:=n3_;clear n0_ n1_ n2_ n3_;clear hb hbox hg;have hcz29_0:w28.cell? ⟨gb610,0,none⟩=some (.string a0_0):=(δl BK610.out 0).trans rfl;have hcz29_1:w28.cell? ⟨gb610,1,none⟩=some (.string a0_1):=(δl BK610.out 1).trans rfl;have hcz29_2:w28.cell? ⟨gb610,2,none⟩=some (.int .i64 a0_2):=(δl BK610.out 2).trans rfl;have hcz29_3:w28.cell? ⟨gb610,3,none⟩=some (.int .i64 a0_3):=(δl BK610.out 3).trans rfl;have hcz29_4:w28.cell? ⟨gb610,4,none⟩=some (.int .i64 a0_4):=(δl BK610.out 4).trans rfl;have hcz29_5:w28.cell? ⟨gb610,5,none⟩=some (.bool a0_5):=(δl BK610.out 5).trans rfl;have hfz29_0:=δm BK610.out 0;have hfz29_1:=δm BK610.out 1;have hfz29_2:=δm BK610.out 2;have hfz29_3:=δm BK610.out 3;have hfz29_4:=δm BK610.out 4;have hfz29_5:=δm BK610.out 5)|((with_reducible refine δv (f:=75) rfl ?_);refine goesL_ (some 5) rfl rfl Tryz.func75 (by kernel_rfl) rfl #[.string a0_0] rfl (by (try simp only [δd,δe,δf]);rfl) ?_;(with_reducible refine (spec_l05Name.calls k a0_0 φ _ A2.out).mono ?_);rintro e w' ⟨rfl,⟨nd,rfl⟩⟩;refine ⟨_,rfl,?_⟩))
  go_ret
  exact ⟨by rfl,by repeat ((with_reducible first|exact HB.out|apply δi))⟩

end Go.Proofs.YtabmfhnhmoiljaaGreatDoor.Q
