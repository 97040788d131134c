/- Parts of the proof: what single Go functions compute, each with its walk, and plain laws over these. -/
import Derived.Test.YtabmfhnhmoiljaaGreatDoorM0
import Derived.Test.YtabmfhnhmoiljaaGreatDoorM1
namespace Go.Proofs.YtabmfhnhmoiljaaGreatDoor.Q
open Go.RowKit Go.Proofs.YtabmfhnhmoiljaaGreatDoorW.PrintWords Go.Proofs.YtabmfhnhmoiljaaGreatDoorW.PrintLast Go.Proofs.YtabmfhnhmoiljaaGreatDoorW.PrintMore
open Go.Proofs.YtabmfhnhmoiljaaGreatDoorW.PrintWords.Aside0 renaming mk → ζa
open Go.Proofs.YtabmfhnhmoiljaaGreatDoorW.PrintWords renaming gate_callee → δv, below_step → δr, below_alloc → δk, pw_below_drewN → δi, below_drew1 → δj
open List renaming map_toArray → δd, map_cons → δe, map_nil → δf, length_drop → δg, length_take → δh
attribute [local go_sem] max2_int min2_int max_two min_two max_three min_three max_four min_four   -- for this text's walks alone
set_option linter.unusedVariables false
set_option linter.unusedSimpArgs false

/-! ### impl_amountAt: function 186 -/
def impl_amountAt.f (k:Nat) (l0:List (S51)) (a1:ByteArray):Option (Int):=(impl_get.f k l0 a1).bind fun bt217=>((impl_readAmount.f bt217.1).bind fun bt219=>(some bt219.1))
set_option maxHeartbeats 8000000 in
set_option maxRecDepth 100000 in
theorem impl_amountAt.calls (k:Nat) (A0:Option Addr) (c0:Nat) (l0:List (S51)) (a1:ByteArray) (r:Int) (w:World) (hr0:Kd.C k51 w A0 l0.length l0) (hc0:l0.length≤c0) (hT0:TabsOK w) (h:impl_amountAt.f k l0 a1=some r) :
  Calls Tryz.prog 186 #[.slice A0 l0.length c0,.string a1] w fun e w'=>e = .returned (.int .i64 r)∧Below w.heap.size w w':=by
 have HT0:=ζa hT0
 clear hT0
 have HR0:=ζa hr0
 have HC0:=ζa hc0
 clear hr0 hc0
 have HB:=ζa (Below.refl w.heap.size w)
 have H:((impl_get.f k l0 a1).bind fun bt217=>((impl_readAmount.f bt217.1).bind fun bt219=>(some bt219.1)))=some r:=h
 clear h
 replace H:=Option.bind_eq_some_iff.mp H
 obtain ⟨⟨t217,t218⟩,A30,H⟩:=H
 replace H:((impl_readAmount.f t217).bind fun bt219=>(some bt219.1))=some r:=H
 have A3:=ζa A30
 clear A30
 replace H:=Option.bind_eq_some_iff.mp H
 obtain ⟨⟨t219,t220⟩,A40,H⟩:=H
 replace H:(some t219)=some r:=H
 have A4:=ζa A40
 clear A40
 obtain rfl:=Option.some.inj H
 go_enter Tryz.func186,Tryz.ntmps186
 go_wp2_with (first|((with_reducible refine δv (f:=107) rfl ?_);refine goesL_ (some 12) rfl rfl Tryz.func107 (by kernel_rfl) rfl #[.slice A0 l0.length c0,.string a1] rfl (by (try simp only [δd,δe,δf]);first|done|rfl|(simp only [δg,δh];rfl)) ?_;(with_reducible refine (impl_get.calls k _ _ l0 a1 t217 t218 _ ?side1 ?side2 A3.out).mono ?_);(case side1=>repeat (first|exact HR0.out|(with_reducible refine Kd.C_alloc ?_ _)|(with_reducible refine Kd.C_drewN ?_ _)|(with_reducible refine Kd.C_drew ?_)));(case side2=>exact HC0.out);rintro e w5 ⟨rfl,hb⟩;refine ⟨_,rfl,?_⟩;have n0_:=ζa (δr (by repeat (first|(with_reducible first|exact HB.out|apply δk|apply δi|apply δj)|exact HB.out)) hb);clear HB;have HB:=n0_;clear n0_;(try clear hb);(try clear hb2);(try clear hk);(try clear hi))|((with_reducible refine δv (f:=151) rfl ?_);refine goesL_ (some 17) rfl rfl Tryz.func151 (by kernel_rfl) rfl #[.string t217] rfl (by (try simp only [δd,δe,δf]);first|done|rfl|(simp only [δg,δh];rfl)) ?_;(with_reducible refine (impl_readAmount.calls t217 t219 t220 _ (HT0.out.below (by repeat (first|(with_reducible first|exact HB.out|apply δk|apply δi|apply δj)|exact HB.out))) A4.out).mono ?_);rintro e w6 ⟨rfl,hb⟩;refine ⟨_,rfl,?_⟩;have n0_:=ζa (δr (by repeat (first|(with_reducible first|exact HB.out|apply δk|apply δi|apply δj)|exact HB.out)) hb);clear HB;have HB:=n0_;clear n0_;(try clear hb);(try clear hb2);(try clear hk);(try clear hi)))
 go_ret
 exact ⟨by first|rfl|(simp [errW_none,errW_some] <;> rfl)|(simp [*,errW_none,errW_some] <;> rfl),by repeat (first|(with_reducible first|exact HB.out|apply δk|apply δi|apply δj)|exact HB.out)⟩


open List renaming length_take → δh, length_drop → δg
open Go.Proofs.YtabmfhnhmoiljaaGreatDoorW.PrintWords.Kd renaming R_reads' → ζg
open Go.Proofs.YtabmfhnhmoiljaaGreatDoorW.PrintWords renaming below_drew1 → δj, gate_dst → δx
open Go.Act renaming put → ζl
open Bool renaming true → τ, false → φ

/-! ### slices_Insert_impl_Pair_impl_Pair: function 197 -/
theorem slices_Insert_impl_Pair_impl_Pair.cell_at {W:World} {g:Nat} {cur:Array Value} (hg:W.heap[g]? = some (.cells cur 51 (0,0))) (j:Nat):W.cell? ⟨g,j,none⟩=cur[j]?:=by
 simp [World.cell?,hg]
theorem slices_Insert_impl_Pair_impl_Pair.reps {α:Type} {R:α→List Value→Prop} {ps:List α} {cs new:List Value} {p:α} (h:Reps R 2 ps cs) (hp:R p new) (hc:new.length=2) (i:Nat) (hi:i≤ps.length) :
  Reps R 2 (ps.insertIdx i p) (cs.take (i * 2) ++ new ++ cs.drop (i * 2)):=by
 have hl:=h.1
 have ht:(cs.take (i * 2)).length=i * 2:=by rw [δh];omega
 refine ⟨by rw [List.length_insertIdx_of_le_length hi,List.length_append,List.length_append,ht,hc,δg];omega,fun j q hq => ?_⟩
 rw [List.getElem?_insertIdx] at hq
 have e : ∀ d:List Value,d.drop (j * 2)=d.drop (j * 2):=fun _=>rfl
 split at hq
 ·
  rename_i hj
  have:=h.2 j q hq
  rw [List.append_assoc,List.drop_append_of_le_length (by omega),List.take_append_of_le_length (by rw [δg];omega),List.drop_take,List.take_take,Nat.min_eq_left (by omega)]
  exact this
 ·
  rename_i hj
  split at hq
  ·
   rename_i hji
   subst hji
   rw [if_pos hi] at hq
   have hq':p=q:=by simpa using hq
   subst hq'
   rw [List.append_assoc,List.drop_append,ht,Nat.sub_self,List.drop_zero,List.drop_of_length_le (by omega),List.nil_append,List.take_append_of_le_length (by omega),List.take_of_length_le (by omega)]
   exact hp
  ·
   rename_i hji
   have:=h.2 (j - 1) q hq
   rw [List.drop_append,List.length_append,ht,hc,List.drop_of_length_le (by rw [List.length_append];omega),List.nil_append,List.drop_drop,show i * 2+(j * 2 - (i * 2+2))=(j - 1) * 2 by omega]
   exact this
theorem slices_Insert_impl_Pair_impl_Pair.one {w:World} {base:Nat} {ok:Nat→Prop} {xs:List S51} {cs:List Value} (h:Reps (k51.M w base ok) 2 xs cs) : ∀ v ∈ cs,v.oneCell'=τ:=by
 intro v hv
 obtain ⟨k,hk,rfl⟩:=List.getElem_of_mem hv
 have hl:=h.1
 have hj:k / 2<xs.length:=by omega
 have hs:=k51_openM (h.2 (k / 2) _ (List.getElem?_eq_getElem hj))
 have hm:cs[k] ∈ (cs.drop (k / 2 * 2)).take 2:=by
  refine List.mem_iff_getElem?.2 ⟨k % 2,?_⟩
  rw [List.getElem?_take,if_pos (by omega),List.getElem?_drop,show k / 2 * 2+k % 2=k by omega,List.getElem?_eq_getElem hk]
 rw [hs] at hm
 simp at hm
 rcases hm with e|e <;> (rw [e];rfl)
set_option maxHeartbeats 4000000 in
set_option maxRecDepth 100000 in
theorem slices_Insert_impl_Pair_impl_Pair.room (base g n c i vb:Nat) (xs:List S51) (p:S51) (w0 w:World) (ho:Kd.R k51 51 w base (fun _=>True) (.slice (some ⟨g,0,none⟩) n c) xs) (hi:i<n) (hroom:n+1≤c) (hn:n≤1000000) (hc:c≤9223372036854775807) (hv:w.heap[vb]? = some (.cells #[.string p.f0,.string p.f1] 51 (0,0))) (hvb:vb≠g) (hb:Below base w0 w) :
  Calls Tryz.prog 197 #[.slice (some ⟨g,0,none⟩) n c,.int .i64 i,.slice (some ⟨vb,0,none⟩) 1 1] w fun e w'=>e = .returned (.slice (some ⟨g,0,none⟩) (n+1) c)∧Kd.R k51 51 w' base (fun _=>True) (.slice (some ⟨g,0,none⟩) (n+1) c) (xs.insertIdx i p)∧Below base w0 w':=by
 have hnl:=(ζg ho).1
 obtain ⟨hok,inner,hown,hr⟩:=ho
 have hin:=hown.1
 rcases hown.2 with ⟨h',_⟩|⟨g',cap',cur,h',hbg,hg,hnc2,hcm,hcs,htk⟩
 · simp at h'
 simp only [Value.slice.injEq,Option.some.injEq,Addr.mk.injEq,and_true,true_and] at h'
 obtain ⟨rfl,hnx,rfl⟩:=h'
 have hs2:k51.sz=2:=rfl
 rw [hs2] at hin hcs htk
 obtain ⟨CU,hCU⟩ : ∃ CU,CU=cur.toList:=⟨_,rfl⟩
 have hCUl:CU.length=c * 2:=by rw [hCU,Array.length_toList,hcs]
 obtain ⟨cs1,hcs1⟩ : ∃ cs1,cs1=(CU.drop (i * 2)).take ((n - i) * 2):=⟨_,rfl⟩
 have hl1:cs1.length=(n - i) * 2:=by rw [hcs1,δh,δg];omega
 obtain ⟨row1,hrow1⟩ : ∃ row1,row1=CU.take ((i+1) * 2) ++ cs1 ++ CU.drop ((n+1) * 2):=⟨_,rfl⟩
 obtain ⟨row2,hrow2⟩ : ∃ row2,row2=row1.take (i * 2) ++ [.string p.f0,.string p.f1] ++ row1.drop (i * 2+2):=⟨_,rfl⟩
 have hl2:row1.length=c * 2:=by rw [hrow1];simp only [List.length_append,δh,δg,hl1];omega
 have hci:cs1=inner.drop (i * 2):=by rw [hcs1,← htk,← hCU,List.drop_take,← hnx];congr 1;omega
 have h1c : ∀ v ∈ cs1,v.oneCell'=τ:=fun v hv=>slices_Insert_impl_Pair_impl_Pair.one hr v (by rw [hci] at hv;exact List.mem_of_mem_drop hv)
 have hsz:(Tryz.prog.info? 51).map (·.size)=some 2:=by kernel_rfl
 have hcp1 : ∀ ty dc sc,(Builtin.copy_ #[24,24] ty #[.slice (some ⟨g,(i+1) * 2,none⟩) (n - i) dc,.slice (some ⟨g,i * 2,none⟩) (n+1 - i) sc]).run Tryz.prog w.drew = .ok (goInt ((n - i:Nat):Int)) (w.drew.setRow g row1.toArray):=fun ty dc sc=>by
  have h:=U.run_copy_row_n (P:=Tryz.prog) w.drew 24 24 ty 51 g ((i+1) * 2) (n - i) dc ⟨g,i * 2,none⟩ (n+1 - i) sc cur 51 cs1 2 (n - i) Tryz.underlying24 hsz hg (by simp only [Nat.min_def];split <;> omega) hl1
   (fun j v hj=>by
    rw [Addr.add_lit,slices_Insert_impl_Pair_impl_Pair.cell_at (W:=w.drew) hg,← Array.getElem?_toList,← hCU]
    rw [hcs1,List.getElem?_take] at hj
    split at hj
    · rwa [List.getElem?_drop] at hj
    ·
     cases hj) (by rw [hl1,hcs];omega) h1c
  rw [h,← hCU,hl1,show (i+1) * 2+(n - i) * 2=(n+1) * 2 by omega,← hrow1]
 have hcp2 : ∀ W:World,W.heap[g]? = some (.cells row1.toArray 51 (0,0))→W.heap[vb]? = some (.cells #[.string p.f0,.string p.f1] 51 (0,0)) → ∀ ty dc,(Builtin.copy_ #[24,24] ty #[.slice (some ⟨g,i * 2,none⟩) (n+1 - i) dc,.slice (some ⟨vb,0,none⟩) 1 1]).run Tryz.prog W = .ok (goInt ((1:Nat):Int)) (W.setRow g row2.toArray):=fun W hW hV ty dc=>by
  have h:=U.run_copy_row_n (P:=Tryz.prog) W 24 24 ty 51 g (i * 2) (n+1 - i) dc ⟨vb,0,none⟩ 1 1 row1.toArray 51 [.string p.f0,.string p.f1] 2 1 Tryz.underlying24 hsz hW (by simp only [Nat.min_def];split <;> omega) rfl
   (fun j v hj=>by
    rw [Addr.add_lit,slices_Insert_impl_Pair_impl_Pair.cell_at hV]
    rcases j with _|_|j
    · simpa using hj
    ·
     simpa using hj
    · simp at hj) (by simp only [List.length_cons,List.length_nil,List.size_toArray,hl2];omega) (by intro v hv;simp at hv;rcases hv with rfl|rfl <;> rfl)
  rw [h,hrow2]
  simp only [List.length_cons,List.length_nil]
 have hov : ∀ lb cb,(callFunc 211 #[.slice (some ⟨vb,0,none⟩) 1 1,.slice (some ⟨g,(i+1) * 2,none⟩) lb cb]).run Tryz.prog w = .ok (.value (.bool φ)) w:=fun lb cb=>by
  rw [run_callFunc_extern Tryz.func211 (by kernel_rfl) (by kernel_rfl) (by kernel_rfl) (e:=Extern.SlicesOverlaps.overlaps #[24,24] #[4]) (by kernel_rfl),
   Lib.run_overlaps_apart w 24 4 51 Tryz.underlying24 2 (fun w=>by kernel_rfl) ⟨vb,0,none⟩ ⟨g,(i+1) * 2,none⟩ 1 1 lb cb hvb 51 51 2 (c * 2) (by simp [World.shape?,hv]) (by simp [World.shape?,hg,hcs]) (by omega) (by simp [World.frozen?,hv]) (by simp [World.frozen?,hv])]
  rfl
 have hR : ∀ W:World,W.heap[g]? = some (.cells row2.toArray 51 (0,0))→Kd.R k51 51 W base (fun _=>True) (.slice (some ⟨g,0,none⟩) (n+1) c) (xs.insertIdx i p):=fun W hW=>by
  have hrr:=slices_Insert_impl_Pair_impl_Pair.reps (hr.imp_ (fun q z hq=>(by rw [k51_openM hq];exact k51_mkM _ _ _ q:k51.M W base (fun k=>True∧some k≠(Value.slice (some ⟨g,0,none⟩) (n+1) c).ownBlock) q z))) (k51_mkM _ _ _ p) rfl i (by omega)
  have hlen:(xs.insertIdx i p).length=n+1:=by rw [List.length_insertIdx_of_le_length (by omega)];omega
  have hmid:=U.ins_list CU [.string p.f0,.string p.f1] i n 2 (by omega) rfl (by omega)
  have htk2:row2.take ((n+1) * 2)=inner.take (i * 2) ++ [.string p.f0,.string p.f1] ++ inner.drop (i * 2):=by
   rw [hrow2,hrow1,hcs1,hmid,List.take_append_of_le_length (by simp only [List.length_append,δh,δg,List.length_cons,List.length_nil];omega),List.take_of_length_le (by simp only [List.length_append,δh,δg,List.length_cons,List.length_nil];omega),← htk,← hCU,List.take_take,Nat.min_eq_left (by omega),← hnx]
  refine ⟨fun _ _=>trivial,_,⟨?_,Or.inr ⟨g,c,row2.toArray,by rw [hlen],hbg,hW,by omega,hcm,?_,?_⟩⟩,hrr⟩
  · rw [hs2];exact hrr.1
  ·
   rw [hs2,List.size_toArray,hrow2]
   simp only [List.length_append,δh,δg,List.length_cons,List.length_nil,hl2]
   omega
  · rw [hs2,hlen];exact htk2
 have hz2 : ¬ ((i:Int)=(n:Int)):=by omega
 have hw1:IntKind.i64.wrap ((i:Int)+(1:Int))=(i:Int)+(1:Int):=by rw [IntKind.wrap_i64];omega
 have hb1:(0:Int)≤(i:Int)+(1:Int):=by omega
 have htn:((i:Int)+(1:Int)).toNat=i+1:=by omega
 have hb2 : ¬ (c=i+1):=by omega
 have hb3:(i:Int)≤(n:Int)+(1:Int):=by omega
 have hb4 : ¬ (c=i):=by omega
 have hil:i≤n:=by omega
 have mixed:Tryz.prog.follows Departure.mixedOrders=τ:=by kernel_rfl
 have hgW:=setRow_heap w.drew g cur row1.toArray 51 (0,0) hg
 have hvW:(w.drew.setRow g row1.toArray).heap[vb]? = some (.cells #[.string p.f0,.string p.f1] 51 (0,0)):=by
  rw [setRow_other w.drew g vb _ hvb];exact hv
 have hgF:=setRow_heap (w.drew.setRow g row1.toArray) g row1.toArray row2.toArray 51 (0,0) hgW
 have HR:=ζa (hR _ hgF)
 have HB:=ζa (below_setRow (below_setRow (δj hb) hbg row1.toArray) hbg row2.toArray)
 have hcp2':=hcp2 _ hgW hvW
 clear hR hcp2 hrow2 hrow1 hcs1 hCU hCUl hl1 hl2 htk hcs hin hown hr hok hb hgF hgW hvW h1c hv hnl hnx hnc2
 go_enter Tryz.func197,Tryz.ntmps197
 go_wp2_with (simp only [hov])
 go_region_law_o (refine step_copy_runI rfl _ _ 24 24 rfl _ _ (by simp [Act.eval,ζl]) (by simp [Act.eval,ζl]) (hcp1 _ _ _) ?_)
 go_wp2_with (at_builtin;refine wpList_copy_runI _ rfl _ _ 24 24 rfl _ _ rfl rfl (hcp2' _ _) ?_)
 go_ret
 exact ⟨rfl,HR.out,HB.out⟩
set_option maxHeartbeats 4000000 in
set_option maxRecDepth 100000 in
theorem slices_Insert_impl_Pair_impl_Pair.grow (base g n c i vb:Nat) (xs:List S51) (p:S51) (w0 w:World) (ho:Kd.R k51 51 w base (fun _=>True) (.slice (some ⟨g,0,none⟩) n c) xs) (hi:i<n) (hnc:n≤c) (hroom:c<n+1) (hn:n≤1000000) (hv:w.heap[vb]? = some (.cells #[.string p.f0,.string p.f1] 51 (0,0))) (hb:Below base w0 w) (hbs:base≤w.heap.size) :
  Calls Tryz.prog 197 #[.slice (some ⟨g,0,none⟩) n c,.int .i64 i,.slice (some ⟨vb,0,none⟩) 1 1] w fun e w' => ∃ v0,e = .returned v0∧Kd.R k51 51 w' base (fun _=>True) v0 (xs.insertIdx i p)∧Below base w0 w':=by
 have hnl:=(ζg ho).1
 obtain ⟨hok,inner,hown,hr⟩:=ho
 have hin:=hown.1
 rcases hown.2 with ⟨h',_⟩|⟨g',cap',cur,h',hbg,hg,hnc2,hcm,hcs,htk⟩
 · simp at h'
 simp only [Value.slice.injEq,Option.some.injEq,Addr.mk.injEq,and_true,true_and] at h'
 obtain ⟨rfl,hnx,rfl⟩:=h'
 have hs2:k51.sz=2:=rfl
 rw [hs2] at hin hcs htk
 obtain ⟨CU,hCU⟩ : ∃ CU,CU=cur.toList:=⟨_,rfl⟩
 have hCUl:CU.length=c * 2:=by rw [hCU,Array.length_toList,hcs]
 obtain ⟨cs1,hci⟩ : ∃ cs1,cs1=inner.drop (i * 2):=⟨_,rfl⟩
 have hinl:inner.length=n * 2:=by rw [hin,hnl]
 have hl1:cs1.length=(n - i) * 2:=by rw [hci,δg];omega
 have h1c : ∀ v ∈ cs1,v.oneCell'=τ:=fun v hv=>slices_Insert_impl_Pair_impl_Pair.one hr v (by rw [hci] at hv;exact List.mem_of_mem_drop hv)
 have hsz:(Tryz.prog.info? 51).map (·.size)=some 2:=by kernel_rfl
 obtain ⟨i0,hi0,hzz⟩:=Option.map_eq_some_iff.1 info51
 simp only [Prod.mk.injEq] at hzz
 obtain ⟨hz0,hzs,hzb⟩:=hzz
 have hgw:g<w.heap.size:=(Array.getElem?_eq_some_iff.1 hg).1
 have hvw:vb<w.heap.size:=(Array.getElem?_eq_some_iff.1 hv).1
 have hkk:(n:Int)+(1:Int) - (i:Int)=((n+1 - i:Nat):Int):=by omega
 have hik:i+(n+1 - i)=n+1:=by omega
 have hold:(Builtin.firstCells i0.size i (.slice (some ⟨g,0,none⟩) i c)).run Tryz.prog w.drew = .ok (inner.take (i * 2)).toArray w.drew:=by
  rw [hzs]
  exact run_firstCells_some w.drew 2 i ⟨g,0,none⟩ i c (inner.take (i * 2)) (by rw [δh];omega) (fun j v hj=>by
   rw [Addr.add_lit,Nat.zero_add,slices_Insert_impl_Pair_impl_Pair.cell_at (W:=w.drew) hg,← Array.getElem?_toList]
   rw [List.getElem?_take] at hj
   split at hj
   ·
    rw [← htk,List.getElem?_take] at hj
    split at hj
    · exact hj
    ·
     cases hj
   · cases hj)
 have hrz : ∀ ty,(Builtin.append_ #[24,3] ty #[.slice (some ⟨g,0,none⟩) i c,.int .i64 ((n:Int)+(1:Int) - (i:Int))]).run Tryz.prog w = .ok (.slice (some ⟨w.heap.size,0,none⟩) (n+1) (grownCap w (n+1) c 51)) (w.drew.alloc (.cells ((inner.take (i * 2)).toArray ++ Builtin.zeroCells (Value.agg #[.string ⟨#[]⟩,.string ⟨#[]⟩]).cells (n+1 - i) ++ Builtin.zeroCells (Value.agg #[.string ⟨#[]⟩,.string ⟨#[]⟩]).cells (grownCap w (n+1) c 51 - (n+1))) 51)):=fun ty=>by
  have h:=Lib.run_append_grow_zeros w 24 3 ty 51 i0 _ .i64 .i64 Tryz.underlying24 Tryz.underlying3 hi0 hz0 (some ⟨g,0,none⟩) i c _ hold (n+1 - i) (by omega) (by rw [hzs];omega) (by omega) (by omega) (by rw [hzb];omega) (by rw [hzb,hik];exact growslice_fits hroom (by omega))
  rw [hik] at h
  rw [hkk]
  exact h
 obtain ⟨G,hG⟩ : ∃ G,G=grownCap w (n+1) c 51:=⟨_,rfl⟩
 rw [← hG] at hrz
 obtain ⟨ROW,hROW⟩ : ∃ ROW:Array Value,ROW=(inner.take (i * 2)).toArray ++ Builtin.zeroCells (Value.agg #[.string ⟨#[]⟩,.string ⟨#[]⟩]).cells (n+1 - i) ++ Builtin.zeroCells (Value.agg #[.string ⟨#[]⟩,.string ⟨#[]⟩]).cells (G - (n+1)):=⟨_,rfl⟩
 rw [← hROW] at hrz
 have hRl:ROW.toList.length=G * 2:=by
  have hGn:n+1≤G:=by rw [hG];exact grownCap_ge w _ _ _
  rw [hROW]
  simp [Builtin.zeroCells,Value.cells]
  omega
 have hGn:n+1≤G:=by rw [hG];exact grownCap_ge w _ _ _
 have hG63:G≤maxLen:=by rw [hG];exact grownCap_le_maxLen w (n+1) c _ (by unfold maxLen;omega)
 have hRt:ROW.toList.take (i * 2)=inner.take (i * 2):=by
  rw [hROW]
  simp only [Array.toList_append,List.append_assoc]
  rw [List.take_append_of_le_length (by rw [δh];omega),List.take_take,Nat.min_self]
 obtain ⟨rowA,hrowA⟩ : ∃ rowA,rowA=ROW.toList.take (i * 2) ++ [.string p.f0,.string p.f1] ++ ROW.toList.drop (i * 2+2):=⟨_,rfl⟩
 have hlA:rowA.length=G * 2:=by rw [hrowA];simp only [List.length_append,δh,δg,List.length_cons,List.length_nil,hRl];omega
 obtain ⟨rowB,hrowB⟩ : ∃ rowB,rowB=rowA.take ((i+1) * 2) ++ cs1 ++ rowA.drop ((n+1) * 2):=⟨_,rfl⟩
 obtain ⟨N,hN⟩ : ∃ N,N=w.heap.size:=⟨_,rfl⟩
 have hcpA : ∀ W:World,W.heap[N]? = some (.cells ROW 51 (0,0))→W.heap[vb]? = some (.cells #[.string p.f0,.string p.f1] 51 (0,0)) → ∀ ty dc,(Builtin.copy_ #[24,24] ty #[.slice (some ⟨N,i * 2,none⟩) (n+1 - i) dc,.slice (some ⟨vb,0,none⟩) 1 1]).run Tryz.prog W = .ok (goInt ((1:Nat):Int)) (W.setRow N rowA.toArray):=fun W hW hV ty dc=>by
  have h:=U.run_copy_row_n (P:=Tryz.prog) W 24 24 ty 51 N (i * 2) (n+1 - i) dc ⟨vb,0,none⟩ 1 1 ROW 51 [.string p.f0,.string p.f1] 2 1 Tryz.underlying24 hsz hW (by simp only [Nat.min_def];split <;> omega) rfl
   (fun j v hj=>by
    rw [Addr.add_lit,slices_Insert_impl_Pair_impl_Pair.cell_at hV]
    rcases j with _|_|j
    · simpa using hj
    ·
     simpa using hj
    · simp at hj) (by rw [Array.length_toList] at hRl;simp only [List.length_cons,List.length_nil,hRl];omega) (by intro v hv;simp at hv;rcases hv with rfl|rfl <;> rfl)
  rw [h,hrowA]
  simp only [List.length_cons,List.length_nil]
 have hcpB : ∀ W:World,W.heap[N]? = some (.cells rowA.toArray 51 (0,0))→W.heap[g]? = some (.cells cur 51 (0,0)) → ∀ ty dc sc,(Builtin.copy_ #[24,24] ty #[.slice (some ⟨N,(i+1) * 2,none⟩) (n - i) dc,.slice (some ⟨g,i * 2,none⟩) (n - i) sc]).run Tryz.prog W = .ok (goInt ((n - i:Nat):Int)) (W.setRow N rowB.toArray):=fun W hW hV ty dc sc=>by
  have h:=U.run_copy_row_n (P:=Tryz.prog) W 24 24 ty 51 N ((i+1) * 2) (n - i) dc ⟨g,i * 2,none⟩ (n - i) sc rowA.toArray 51 cs1 2 (n - i) Tryz.underlying24 hsz hW (by simp only [Nat.min_def];split <;> omega) hl1
   (fun j v hj=>by
    rw [Addr.add_lit,slices_Insert_impl_Pair_impl_Pair.cell_at hV,← Array.getElem?_toList]
    rw [hci,← htk,List.getElem?_drop,List.getElem?_take] at hj
    split at hj
    · exact hj
    ·
     cases hj) (by rw [hl1,List.size_toArray,hlA];omega) h1c
  rw [h,hl1,show (i+1) * 2+(n - i) * 2=(n+1) * 2 by omega,hrowB]
 have hR : ∀ W:World,W.heap[N]? = some (.cells rowB.toArray 51 (0,0))→Kd.R k51 51 W base (fun _=>True) (.slice (some ⟨N,0,none⟩) (n+1) G) (xs.insertIdx i p):=fun W hW=>by
  have hrr:=slices_Insert_impl_Pair_impl_Pair.reps (hr.imp_ (fun q z hq=>(by rw [k51_openM hq];exact k51_mkM _ _ _ q:k51.M W base (fun k=>True∧some k≠(Value.slice (some ⟨N,0,none⟩) (n+1) G).ownBlock) q z))) (k51_mkM _ _ _ p) rfl i (by omega)
  have hlen:(xs.insertIdx i p).length=n+1:=by rw [List.length_insertIdx_of_le_length (by omega)];omega
  have hA2:rowA.take ((i+1) * 2)=inner.take (i * 2) ++ [.string p.f0,.string p.f1]:=by
   rw [hrowA,hRt,List.take_append_of_le_length (by simp only [List.length_append,δh,List.length_cons,List.length_nil];omega),List.take_of_length_le (by simp only [List.length_append,δh,List.length_cons,List.length_nil];omega)]
  have htk2:rowB.take ((n+1) * 2)=inner.take (i * 2) ++ [.string p.f0,.string p.f1] ++ inner.drop (i * 2):=by
   rw [hrowB,hA2,hci,List.take_append_of_le_length (by simp only [List.length_append,δh,δg,List.length_cons,List.length_nil];omega),List.take_of_length_le (by simp only [List.length_append,δh,δg,List.length_cons,List.length_nil];omega)]
  refine ⟨fun _ _=>trivial,_,⟨?_,Or.inr ⟨N,G,rowB.toArray,by rw [hlen],by omega,hW,by omega,hG63,?_,?_⟩⟩,hrr⟩
  · rw [hs2];exact hrr.1
  ·
   rw [hs2,List.size_toArray,hrowB]
   simp only [List.length_append,δh,δg,hl1,hlA]
   omega
  · rw [hs2,hlen];exact htk2
 have HR:=ζa hR
 have HB:=ζa hb
 have hgA : ∀ o:Array Value,(w.drew.alloc (.cells o 51)).heap[N]? = some (.cells o 51 (0,0)):=fun o=>by rw [hN];exact Go.Deep.blk_alloc_new w.drew _
 have hvA : ∀ o:Obj,(w.drew.alloc o).heap[vb]? = some (.cells #[.string p.f0,.string p.f1] 51 (0,0)):=fun o=>by rw [Go.Deep.blk_alloc_lt w.drew _ _ hvw];exact hv
 have hcA : ∀ o:Obj,(w.drew.alloc o).heap[g]? = some (.cells cur 51 (0,0)):=fun o=>by rw [Go.Deep.blk_alloc_lt w.drew _ _ hgw];exact hg
 have hgN:g≠N:=by omega
 have hw1:IntKind.i64.wrap ((i:Int)+(1:Int))=(i:Int)+(1:Int):=by rw [IntKind.wrap_i64];omega
 have hz2 : ¬ ((i:Int)=(n:Int)):=by omega
 have hz3:(c:Int)<(n:Int)+(1:Int):=by omega
 have hb1:(0:Int)≤(i:Int)+(1:Int):=by omega
 have hin:i≤n:=by omega
 have htn:((i:Int)+(1:Int)).toNat=i+1:=by omega
 have hb3:(i:Int)≤(n:Int):=by omega
 have hGi : ¬ (G=i):=by omega
 have hGim : ¬ (G=i+1):=by omega
 have hci2 : ¬ (c=i):=by omega
 have mixed:Tryz.prog.follows Departure.mixedOrders=τ:=by kernel_rfl
 have hNb:base≤N:=by omega
 have hcpA1:=hcpA _ (hgA ROW) (hvA _)
 have hcpA2 : ∀ ty dc,(Builtin.copy_ #[24,24] ty #[.slice (some ⟨N,i * 2,none⟩) (n+1 - i) dc,.slice (some ⟨vb,0,none⟩) 1 1]).run Tryz.prog (w.alloc (.cells ROW 51)).drew = .ok (goInt ((1:Nat):Int)) ((w.alloc (.cells ROW 51)).drew.setRow N rowA.toArray):=hcpA1
 have hgB:=setRow_heap (w.drew.alloc (.cells ROW 51)) N ROW rowA.toArray 51 (0,0) (hgA ROW)
 have hgF:=setRow_heap _ N rowA.toArray rowB.toArray 51 (0,0) hgB
 have hcpB1:=hcpB _ hgB (by rw [setRow_other _ N g _ hgN];exact hcA _)
 have hgc:((w.drew.alloc (.cells ROW 51)).setRow N rowA.toArray).heap[g]? = some (.cells cur 51 (0,0)):=by rw [setRow_other _ N g _ hgN];exact hcA _
 have hcpB2 : ∀ ty dc sc,(Builtin.copy_ #[24,24] ty #[.slice (some ⟨N,(i+1) * 2,none⟩) (n - i) dc,.slice (some ⟨g,i * 2,none⟩) (n - i) sc]).run Tryz.prog ((w.alloc (.cells ROW 51)).drew.setRow N rowA.toArray).drew = .ok (goInt ((n - i:Nat):Int)) (((w.alloc (.cells ROW 51)).drew.setRow N rowA.toArray).drew.setRow N rowB.toArray):=hcpB _ hgB hgc
 have HF2:Aside0 (Kd.R k51 51 (((w.alloc (.cells ROW 51)).drew.setRow N rowA.toArray).drew.setRow N rowB.toArray) base (fun _=>True) (.slice (some ⟨N,0,none⟩) (n+1) G) (xs.insertIdx i p)):=⟨hR _ hgF⟩
 have hb2:Below base w0 ((w.alloc (.cells ROW 51)).drew):=δj (hb.alloc hbs _)
 have HB2:Aside0 (Below base w0 (((w.alloc (.cells ROW 51)).drew.setRow N rowA.toArray).drew.setRow N rowB.toArray)):=⟨below_setRow (δj (below_setRow hb2 hNb _)) hNb _⟩
 clear hb2
 have HF:=ζa (hR _ hgF)
 have HBF:Aside0 (Below base w0 (((w.drew.alloc (.cells ROW 51)).setRow N rowA.toArray).setRow N rowB.toArray)):=⟨below_setRow (below_setRow ((δj hb).alloc hbs _) hNb _) hNb _⟩
 rw [← hN] at hrz
 clear hgc hN hkk hik hold hROW hG hRl hR hcpA hcpB hrowA hrowB hlA hRt hgA hvA hcA hgB hgF hci hl1 h1c hinl hCU hCUl htk hcs hown hr hok hv hg hb hnl hnx hnc2 hi0 hz0 hzs hzb HR HB hgw hvw hbs hbg hNb
 go_enter Tryz.func197,Tryz.ntmps197
 go_wp2_with (first
  | (at_builtin;refine Lib.wpList_append_run _ rfl _ _ _ _ rfl _ _ rfl rfl _ _ (hrz _) ?_)
  | simp only [hcpA2,Result.andThen_ok])
 go_region_law_o (refine step_copy_runI rfl _ _ 24 24 rfl _ _ (by simp [Act.eval,ζl]) (by simp [Act.eval,ζl]) (hcpB2 _ _ _) ?_)
 go_wp2_with fail
 go_ret
 exact ⟨_,rfl,HF2.out,HB2.out⟩
set_option maxHeartbeats 4000000 in
set_option maxRecDepth 100000 in
theorem slices_Insert_impl_Pair_impl_Pair.atEnd (base n c vb:Nat) (A:Option Addr) (xs:List S51) (p:S51) (w0 w:World) (ho:Kd.R k51 51 w base (fun _=>True) (.slice A n c) xs) (hn:n≤1000000) (hv:w.heap[vb]? = some (.cells #[.string p.f0,.string p.f1] 51 (0,0))) (hb:Below base w0 w) (hbs:base≤w.heap.size) :
  Calls Tryz.prog 197 #[.slice A n c,.int .i64 n,.slice (some ⟨vb,0,none⟩) 1 1] w fun e w' => ∃ v0,e = .returned v0∧Kd.R k51 51 w' base (fun _=>True) v0 (xs ++ [p])∧Below base w0 w':=by
 have HO:=ζa ho
 have HB:=ζa hb
 have hl:=(ζg ho).1
 have HRR:Aside0 (ReadsRow (fun (x:S51) cs=>cs = [.string x.f0,.string x.f1]) k51.sz w (some ⟨vb,0,none⟩) 1 [p]):=⟨rfl,by omega,fun _=>⟨_,rfl,fun j q hj=>by
  have hj0:j=0:=by
   rcases j with _|j
   · rfl
   ·
    simp at hj
  subst hj0
  have hq:p=q:=by simpa using hj
  subst hq
  refine ⟨_,rfl,rfl,fun t u hu => ?_⟩
  rw [Addr.add_lit,slices_Insert_impl_Pair_impl_Pair.cell_at hv]
  rcases t with _|_|t
  · simpa using hu
  ·
   simpa using hu
  · simp at hu⟩⟩
 have HL:Aside0 ((xs.length+1) * 32≤140737488355328):=⟨by omega⟩
 clear ho hb hl
 go_enter Tryz.func197,Tryz.ntmps197
 go_wp2_with ((with_reducible refine δx (N:=25) rfl ?_);refine Kd.R_append_rows (w0:=w0) (Rr:=fun (x:S51) cs=>cs = [.string x.f0,.string x.f1]) k51 base ?hg (.tmp 23) (.tmp 24) 24 51 (.agg #[(.string ⟨#[]⟩),(.string ⟨#[]⟩)]) 32 rfl Tryz.underlying24 info51 rfl (by decide) (by decide) (.slice A n c) xs [p] (some ⟨vb,0,none⟩) 1 1 (fun _=>True) (fun _=>False) rfl rfl HO.out HRR.out (fun x cs h=>by rw [h];exact k51_mkM _ _ _ x) (fun _ h=>h.elim) (fun _ _=>trivial) HB.out hbs HL.out ?_;(case hg=>rfl);intro v7 w7 ho7 hb7 hg_ hnew_;clear hg_ hnew_;have HO7:=ζa ho7;have HB7:=ζa hb7;clear ho7 hb7)
 all_goals (go_ret;exact ⟨_,rfl,HO7.out,HB7.out⟩)
theorem slices_Insert_impl_Pair_impl_Pair.calls (base n c i vb:Nat) (A:Option Addr) (xs:List S51) (p:S51) (w0 w:World) (ho:Kd.R k51 51 w base (fun _=>True) (.slice A n c) xs) (hi:i≤n) (hnc:n≤c) (hc:c≤9223372036854775807) (hn:n≤1000000) (hv:w.heap[vb]? = some (.cells #[.string p.f0,.string p.f1] 51 (0,0))) (hvb : ∀ a,A=some a→vb≠a.block) (hb:Below base w0 w) (hbs:base≤w.heap.size) :
  Calls Tryz.prog 197 #[.slice A n c,.int .i64 i,.slice (some ⟨vb,0,none⟩) 1 1] w fun e w' => ∃ v0,e = .returned v0∧Kd.R k51 51 w' base (fun _=>True) v0 (xs.insertIdx i p)∧Below base w0 w':=by
 have hnl:=(ζg ho).1
 by_cases hin:i=n
 ·
  subst hin
  have e:xs.insertIdx i p=xs ++ [p]:=by rw [hnl];exact List.insertIdx_length_self
  rw [e]
  exact slices_Insert_impl_Pair_impl_Pair.atEnd base i c vb A xs p w0 w ho hn hv hb hbs
 ·
  have hlt:i<n:=by omega
  have hA : ∃ g,A=some ⟨g,0,none⟩:=by
   obtain ⟨_,inner,hown,_⟩:=ho
   rcases hown.2 with ⟨_,h0⟩|⟨g,cap,cur,hv',_⟩
   · omega
   ·
    simp only [Value.slice.injEq] at hv'
    exact ⟨g,hv'.1⟩
  obtain ⟨g,rfl⟩:=hA
  by_cases hr:n+1≤c
  · exact (slices_Insert_impl_Pair_impl_Pair.room base g n c i vb xs p w0 w ho hlt hr hn hc hv (hvb _ rfl) hb).mono (fun e w' h=>⟨_,h⟩)
  ·
   exact slices_Insert_impl_Pair_impl_Pair.grow base g n c i vb xs p w0 w ho hlt hnc (by omega) hn hv hb hbs


open Go.Proofs.YtabmfhnhmoiljaaGreatDoorW.PrintWords.Kd renaming R_reads' → ζg, R_below → ζh, R_alloc → ζd, R_drew → ζe, R_drewN → ζc
open Go.Proofs.YtabmfhnhmoiljaaGreatDoorW.PrintWords renaming below_step → δr, below_set → δq, below_alloc → δk, below_drew1 → δj, pw_below_drewN → δi

/-! ### impl_put: function 165 -/
def impl_put.f (k:Nat) (l0:List (S51)) (a1 a2:ByteArray):Option (List (S51) × Int) :=
 if l0.length≤1000000 then ((impl_pairAt.f k l0 a1).bind fun b=>if 0≤b.1 then (if b.1≤(l0.length:Int) then (if b.2=τ then (if b.1<(l0.length:Int) then some (l0.set b.1.toNat ⟨(rd_T51 l0 b.1).f0,a2⟩,0) else none) else (if (l0.length:Int)=400 then some (l0,7) else some (l0.insertIdx b.1.toNat ⟨a1,a2⟩,0))) else none) else none) else none
set_option maxHeartbeats 4000000 in
set_option maxRecDepth 100000 in
theorem impl_put.calls (k:Nat) (A0:Option Addr) (c0:Nat) (l0:List (S51)) (a1 a2:ByteArray) (r1:List (S51)) (r2:Int) (w:World) (hr0:Kd.C k51 w A0 l0.length l0) (hc0:l0.length≤c0) (h:impl_put.f k l0 a1 a2=some (r1,r2)) :
  Calls Tryz.prog 165 #[.slice A0 l0.length c0,.string a1,.string a2] w fun e w' => ∃ v0_:Value,e = .returned (.tuple #[v0_,.int .i64 r2])∧Kd.R k51 51 w' w.heap.size (fun _=>True) v0_ r1∧Below w.heap.size w w':=by
 unfold impl_put.f at h
 by_cases hl:l0.length≤1000000
 ·
  rw [if_pos hl] at h
  obtain ⟨⟨b1,b2⟩,h1,h⟩:=Option.bind_eq_some_iff.mp h
  by_cases g1:0≤b1
  ·
   rw [if_pos g1] at h
   by_cases g2:b1≤(l0.length:Int)
   ·
    rw [if_pos g2] at h
    have H1:=ζa h1
    have HL:=ζa hl
    have HR0:=ζa hr0
    have HC0:=ζa hc0
    have HCL:Aside0 (slices_Clone_impl_Pair_impl_Pair.f l0=some l0):=⟨by unfold slices_Clone_impl_Pair_impl_Pair.f;rw [if_pos (by omega)]⟩
    clear h1 hr0 hc0 hl
    obtain ⟨i,rfl⟩ : ∃ i:Nat,b1=(i:Int):=⟨b1.toNat,by omega⟩
    have hi:i≤l0.length:=by omega
    have HI:=ζa hi
    clear g1 g2 hi
    cases b2 with
    | true =>
     rw [if_pos rfl] at h
     by_cases g3:(i:Int)<(l0.length:Int)
     ·
      rw [if_pos g3] at h
      simp only [Option.some.injEq,Prod.mk.injEq] at h
      obtain ⟨rfl,rfl⟩:=h
      have G3:=ζa g3
      clear g3
      go_enter Tryz.func165,Tryz.ntmps165
      go_wp2_with fail
      refine (slices_Clone_impl_Pair_impl_Pair.calls A0 c0 l0 l0 _ HR0.out HC0.out HCL.out).mono ?_
      rintro e w' ⟨v,rfl,ho,hb⟩
      have hshape : ∃ g c,v = .slice (some ⟨g,0,none⟩) l0.length c∧l0.length≤c∧w.heap.size≤g:=by
       obtain ⟨_,inner,hown,_⟩:=ho
       rcases hown.2 with ⟨_,h0⟩|⟨g,cap,cur,hv,hbg,_,hn,_⟩
       · have:=G3.out;omega
       ·
        exact ⟨g,cap,hv,hn,hbg⟩
      obtain ⟨g,c,rfl,hnc,hwg⟩:=hshape
      have HC:=ζa (ζg ho).2.2
      have HO:=ζa ho
      have HB:=ζa hb
      have HN:=ζa hnc
      have HG:=ζa hwg
      clear ho hb hnc hwg
      go_wp2_with fail
      refine (impl_pairAt.calls k (some ⟨g,0,none⟩) c l0 a1 i τ _ HC.out HN.out H1.out).mono ?_
      rintro e w2 ⟨rfl,hb2⟩
      have HO2:=ζa (ζh HO.out hb2)
      have HB2:=ζa (δr HB.out hb2)
      clear hb2
      have p0:0≤(i:Int):=by omega
      have q0:(i:Int)<(l0.length:Int):=G3.out
      obtain ⟨ce,hcl,hM,hcc,hfr⟩:=Kd.R_elem HO2.out z51 (i:Int) p0 q0
      obtain rfl:=k51_openM hM
      have HP:=ζa (Kd.R_seg HO2.out (i:Int) p0 q0 (seg:=[.string a2]) (j:=1) hcl hcc (show 2≤2 from by decide) (x':=(⟨(rd_T51 l0 (i:Int)).f0,a2⟩:S51)) (k51_mkM _ _ _ (⟨(rd_T51 l0 (i:Int)).f0,a2⟩:S51)) (fun _ hk=>hk))
      have hx1:w2.cell? ⟨g,i * 2+1,none⟩=some (.string ((rd_T51 l0 (i:Int)).f1)):=hcc 1 _ rfl
      have hf1:w2.frozen? ⟨g,i * 2+1,none⟩=φ:=hfr 1
      clear hcl hcc hfr hM
      go_wp2_with (((with_reducible refine gate_store (t:=9) (p:=32) rfl ?_);refine store_event (t:=9) (p:=32) (v:=?vo) (w1:=(w2.setCell ⟨g,i * 2+1,none⟩ (.string a2))) ?hg ?ho ?hn ?hr ?_;(case ho=>rfl);(case hg=>rfl);(case hn=>rfl);(case hr=>(go_simp;done));intro w3 hw;have HO3:Aside0 (Kd.R k51 51 w3 w.heap.size (fun _=>True) (.slice (some ⟨g,0,none⟩) l0.length c) (l0.set (i:Int).toNat ⟨(rd_T51 l0 (i:Int)).f0,a2⟩)):=⟨by rw [hw];exact HP.out.1⟩;have HB3:Aside0 (Below w.heap.size w w3):=⟨by rw [hw];exact δq HB2.out HG.out⟩;clear hw))
      go_ret2
      exact ⟨_,rfl,HO3.out,HB3.out⟩
     · rw [if_neg g3] at h;cases h
    | false =>
     simp only [Bool.false_eq_true,if_false] at h
     by_cases g3:(l0.length:Int)=400
     ·
      rw [if_pos g3] at h
      simp only [Option.some.injEq,Prod.mk.injEq] at h
      obtain ⟨rfl,rfl⟩:=h
      have c3:((l0.length:Int) == 400)=τ:=beq_iff_eq.mpr g3
      clear g3
      go_enter Tryz.func165,Tryz.ntmps165
      go_wp2_with fail
      refine (slices_Clone_impl_Pair_impl_Pair.calls A0 c0 l0 l0 _ HR0.out HC0.out HCL.out).mono ?_
      rintro e w' ⟨v,rfl,ho,hb⟩
      obtain ⟨A,c,rfl,hnc,hrc⟩:=Kd.R_reads ho
      have HO:=ζa ho
      have HB:=ζa hb
      have HC:=ζa hrc
      have HN:=ζa hnc
      clear ho hb hrc hnc
      go_wp2_with fail
      refine (impl_pairAt.calls k A c l0 a1 i φ _ HC.out HN.out H1.out).mono ?_
      rintro e w2 ⟨rfl,hb2⟩
      have HO2:=ζa (ζh HO.out hb2)
      have HB2:=ζa (δr HB.out hb2)
      clear hb2
      go_wp2
      go_ret2
      exact ⟨_,rfl,HO2.out,HB2.out⟩
     ·
      rw [if_neg g3] at h
      simp only [Option.some.injEq,Prod.mk.injEq] at h
      obtain ⟨rfl,rfl⟩:=h
      have c3:((l0.length:Int) == 400)=φ:=beq_eq_false_iff_ne.mpr g3
      clear g3
      go_enter Tryz.func165,Tryz.ntmps165
      go_wp2_with fail
      refine (slices_Clone_impl_Pair_impl_Pair.calls A0 c0 l0 l0 _ HR0.out HC0.out HCL.out).mono ?_
      rintro e w' ⟨v,rfl,ho,hb⟩
      have hmx : ∀ A n c,v = .slice A n c→c≤9223372036854775807:=by
       rintro A n c rfl
       obtain ⟨_,inner,hown,_⟩:=ho
       rcases hown.2 with ⟨hv,_⟩|⟨g,cap,cur,hv,_,_,_,hm,_⟩
       · simp only [Value.slice.injEq] at hv;omega
       ·
        simp only [Value.slice.injEq] at hv
        have:maxLen=9223372036854775807:=rfl
        omega
      obtain ⟨A,c,rfl,hnc,hrc⟩:=Kd.R_reads ho
      have HM:=ζa (hmx A _ c rfl)
      have HO:=ζa ho
      have HB:=ζa hb
      have HC:=ζa hrc
      have HN:=ζa hnc
      clear ho hb hrc hnc hmx
      go_wp2_with fail
      refine (impl_pairAt.calls k A c l0 a1 i φ _ HC.out HN.out H1.out).mono ?_
      rintro e w2 ⟨rfl,hb2⟩
      have HO2:=ζa (ζh HO.out hb2)
      have HB2:=ζa (δr HB.out hb2)
      clear hb2
      go_wp2_with fail
      have hA : ∀ a,A=some a→w2.heap.size≠a.block:=by
       rintro a rfl
       have:=Kd.R_lt HO2.out a.block (by
        obtain ⟨_,inner,hown,_⟩:=HO2.out
        rcases hown.2 with ⟨hv,_⟩|⟨g,cap,cur,hv,_⟩
        · simp at hv
        ·
         simp only [Value.slice.injEq,Option.some.injEq] at hv;rw [hv.1];rfl)
       omega
      refine (slices_Insert_impl_Pair_impl_Pair.calls w.heap.size l0.length c i _ A l0 ⟨a1,a2⟩ w _ ?_ HI.out HN.out HM.out HL.out ?_ hA ?_ ?_).mono ?_
      · repeat (first|exact HO2.out|apply ζd|apply ζe|apply ζc)
      ·
       exact heap_alloc_new _ _
      · repeat (first|exact HB2.out|apply δk|apply δj|apply δi)
      ·
       have:=HB2.out.size;simp;omega
      rintro e w3 ⟨v3,rfl,ho3,hb3⟩
      have HO3:=ζa ho3
      have HB3:=ζa hb3
      clear ho3 hb3 hA
      go_wp2
      go_ret2
      exact ⟨_,rfl,HO3.out,HB3.out⟩
   · rw [if_neg g2] at h;cases h
  ·
   rw [if_neg g1] at h;cases h
 · rw [if_neg hl] at h;cases h


open Go.Proofs.YtabmfhnhmoiljaaGreatDoorW.PrintWords renaming gate_callee → δv, below_alloc → δk, pw_below_drewN → δi, below_drew1 → δj, below_step → δr, below_size → δs
open Go.Proofs.YtabmfhnhmoiljaaGreatDoorW.PrintWords.Kd renaming R_alloc → ζd, R_drewN → ζc, R_drew → ζe

/-! ### impl_putAmount: function 187 -/
def impl_putAmount.f (k:Nat) (l0:List (S51)) (a1:ByteArray) (a2:Int):Option ((List (S51)) × Int):=if a2 > 0 then ((impl_amountText.f a2).bind fun t229=>((impl_put.f k l0 a1 t229).bind fun bt230=>(some (bt230.1,bt230.2)))) else ((impl_drop.f k l0 a1).bind fun bt234=>(some (bt234.1,0)))
set_option maxHeartbeats 8000000 in
set_option maxRecDepth 100000 in
theorem impl_putAmount.calls (k:Nat) (A0:Option Addr) (c0:Nat) (l0:List (S51)) (a1:ByteArray) (a2:Int) (r1:List (S51)) (r2:Int) (w:World) (hr0:Kd.C k51 w A0 l0.length l0) (hc0:l0.length≤c0) (hT0:TabsOK w) (h:impl_putAmount.f k l0 a1 a2=some (r1,r2)) :
  Calls Tryz.prog 187 #[.slice A0 l0.length c0,.string a1,.int .i64 a2] w fun e w' => ∃ v0_:Value,e = .returned (.tuple #[v0_,.int .i64 r2])∧Kd.R k51 51 w' w.heap.size (fun _=>True) v0_ r1∧Below w.heap.size w w':=by
 have HT0:=ζa hT0
 clear hT0
 have HR0:=ζa hr0
 have HC0:=ζa hc0
 clear hr0 hc0
 have HB:=ζa (Below.refl w.heap.size w)
 have H:(if a2 > 0 then ((impl_amountText.f a2).bind fun t229=>((impl_put.f k l0 a1 t229).bind fun bt230=>(some (bt230.1,bt230.2)))) else ((impl_drop.f k l0 a1).bind fun bt234=>(some (bt234.1,0))))=some (r1,r2):=h
 clear h
 by_cases c4:a2 > 0
 ·
  rw [if_pos c4] at H
  have c4b0:decide (0<a2)=τ:=decide_eq_true c4
  clear c4
  replace H:=Option.bind_eq_some_iff.mp H
  obtain ⟨t229,A50,H⟩:=H
  replace H:((impl_put.f k l0 a1 t229).bind fun bt230=>(some (bt230.1,bt230.2)))=some (r1,r2):=H
  have A5:=ζa A50
  clear A50
  replace H:=Option.bind_eq_some_iff.mp H
  obtain ⟨⟨t230,t231⟩,A60,H⟩:=H
  replace H:(some (t230,t231))=some (r1,r2):=H
  have A6:=ζa A60
  clear A60
  simp only [Option.some.injEq,Prod.mk.injEq] at H
  obtain ⟨rfl,rfl⟩:=H
  go_enter Tryz.func187,Tryz.ntmps187
  go_wp2_with (first|((with_reducible refine δv (f:=147) rfl ?_);refine goesL_ (some 15) rfl rfl Tryz.func147 (by kernel_rfl) rfl #[.int .i64 a2] rfl (by (try simp only [δd,δe,δf]);first|done|rfl|(simp only [δg,δh];rfl)) ?_;(with_reducible refine (impl_amountText.calls a2 t229 _ (HT0.out.below (by repeat (first|(with_reducible first|exact HB.out|apply δk|apply δi|apply δj)|exact HB.out))) A5.out).mono ?_);rintro e w7 ⟨rfl,hb⟩;refine ⟨_,rfl,?_⟩;have n0_:=ζa (δr (by repeat (first|(with_reducible first|exact HB.out|apply δk|apply δi|apply δj)|exact HB.out)) hb);clear HB;have HB:=n0_;clear n0_;(try clear hb);(try clear hb2);(try clear hk);(try clear hi))|((with_reducible refine δv (f:=165) rfl ?_);refine goesL_ (some 16) rfl rfl Tryz.func165 (by kernel_rfl) rfl #[.slice A0 l0.length c0,.string a1,.string t229] rfl (by (try simp only [δd,δe,δf]);first|done|rfl|(simp only [δg,δh];rfl)) ?_;(with_reducible refine (impl_put.calls k _ _ l0 a1 t229 t230 t231 _ ?side1 ?side2 A6.out).mono ?_);(case side1=>repeat (first|exact (Kd.C_below HR0.out HB.out)|(with_reducible refine Kd.C_alloc ?_ _)|(with_reducible refine Kd.C_drewN ?_ _)|(with_reducible refine Kd.C_drew ?_)));(case side2=>exact HC0.out);rintro e w8 ⟨v232,rfl,ho0,hb⟩;refine ⟨_,rfl,?_⟩;have n0_:=ζa (Kd.R_lower ho0 (δs (by repeat (first|(with_reducible first|exact HB.out|apply δk|apply δi|apply δj)|exact HB.out))));have n1_:=ζa (δr (by repeat (first|(with_reducible first|exact HB.out|apply δk|apply δi|apply δj)|exact HB.out)) hb);clear HB;have HO233:=n0_;have HB:=n1_;clear n0_ n1_;(try clear hb);(try clear hb2);(try clear hk);(try clear hi);(try clear ho0)))
  go_ret2
  exact ⟨_,by first|rfl|(simp [errW_none,errW_some] <;> rfl)|(simp [*,errW_none,errW_some] <;> rfl),by (with_reducible repeat (first|apply ζd|apply ζc|apply ζe));exact HO233.out,by repeat (first|(with_reducible first|exact HB.out|apply δk|apply δi|apply δj)|exact HB.out)⟩
 ·
  rw [if_neg c4] at H
  have c4b0:decide (0<a2)=φ:=decide_eq_false c4
  clear c4
  replace H:=Option.bind_eq_some_iff.mp H
  obtain ⟨⟨t234,t235⟩,A90,H⟩:=H
  replace H:(some (t234,0))=some (r1,r2):=H
  have A9:=ζa A90
  clear A90
  simp only [Option.some.injEq,Prod.mk.injEq] at H
  obtain ⟨rfl,rfl⟩:=H
  go_enter Tryz.func187,Tryz.ntmps187
  go_wp2_with (first|((with_reducible refine δv (f:=163) rfl ?_);refine goesL_ (some 22) rfl rfl Tryz.func163 (by kernel_rfl) rfl #[.slice A0 l0.length c0,.string a1] rfl (by (try simp only [δd,δe,δf]);first|done|rfl|(simp only [δg,δh];rfl)) ?_;(with_reducible refine (impl_drop.calls k _ _ l0 a1 t234 t235 _ ?side1 ?side2 A9.out).mono ?_);(case side1=>repeat (first|exact HR0.out|(with_reducible refine Kd.C_alloc ?_ _)|(with_reducible refine Kd.C_drewN ?_ _)|(with_reducible refine Kd.C_drew ?_)));(case side2=>exact HC0.out);rintro e w10 ⟨v236,rfl,ho0,hb⟩;refine ⟨_,rfl,?_⟩;have n0_:=ζa (Kd.R_lower ho0 (δs (by repeat (first|(with_reducible first|exact HB.out|apply δk|apply δi|apply δj)|exact HB.out))));have n1_:=ζa (δr (by repeat (first|(with_reducible first|exact HB.out|apply δk|apply δi|apply δj)|exact HB.out)) hb);clear HB;have HO237:=n0_;have HB:=n1_;clear n0_ n1_;(try clear hb);(try clear hb2);(try clear hk);(try clear hi);(try clear ho0)))
  go_ret2
  exact ⟨_,by first|rfl|(simp [errW_none,errW_some] <;> rfl)|(simp [*,errW_none,errW_some] <;> rfl),by (with_reducible repeat (first|apply ζd|apply ζc|apply ζe));exact HO237.out,by repeat (first|(with_reducible first|exact HB.out|apply δk|apply δi|apply δj)|exact HB.out)⟩


open Go.Proofs.YtabmfhnhmoiljaaGreatDoorW.PrintWords renaming below_step → δr
open Bool renaming true → τ

/-! ### impl_fewer: function 142 -/
def impl_fewer.f (k:Nat) (l0:List S51) (a1:ByteArray) (a2:Int):Option (List S51 × Int) :=
 (impl_amountAt.f k l0 a1).bind fun a=>(impl_SubAmount.f k a a2).bind fun s=>if s.2=0 then impl_putAmount.f k l0 a1 s.1 else some (l0,s.2)
set_option maxHeartbeats 2000000 in
set_option maxRecDepth 100000 in
theorem impl_fewer.calls (k:Nat) (A0:Option Addr) (c0:Nat) (l0:List S51) (a1:ByteArray) (a2:Int) (r1:List S51) (r2:Int) (w:World) (hr0:Kd.C k51 w A0 l0.length l0) (hc0:l0.length≤c0) (hT0:TabsOK w) (h:impl_fewer.f k l0 a1 a2=some (r1,r2)) :
  Calls Tryz.prog 142 #[.slice A0 l0.length c0,.string a1,.int .i64 a2] w fun e w' => ∃ v0_:Value,e = .returned (.tuple #[v0_,.int .i64 r2])∧(r2=0→Kd.R k51 51 w' w.heap.size (fun _=>True) v0_ r1)∧Below w.heap.size w w':=by
 obtain ⟨a,h1,h⟩:=Option.bind_eq_some_iff.mp h
 obtain ⟨⟨s1,s2⟩,h2,h⟩:=Option.bind_eq_some_iff.mp h
 have H1:=ζa h1
 have H2:=ζa h2
 have HR0:=ζa hr0
 have HC0:=ζa hc0
 have HT0:=ζa hT0
 clear h1 h2 hr0 hc0 hT0
 go_enter Tryz.func142,Tryz.ntmps142
 go_wp2_with fail
 refine (impl_amountAt.calls k A0 c0 l0 a1 a _ HR0.out HC0.out HT0.out H1.out).mono ?_
 rintro e w1 ⟨rfl,hb⟩
 have HB1:=ζa hb
 clear hb
 go_wp2_with fail
 refine (impl_SubAmount.calls k a a2 s1 s2 _ H2.out).mono ?_
 rintro e w2 ⟨rfl,hd⟩
 have HB2:=ζa (δr HB1.out hd.below)
 clear hd
 by_cases c2:s2=0
 ·
  subst c2
  rw [if_pos rfl] at h
  have H3:=ζa h
  clear h
  go_wp2_with fail
  refine (impl_putAmount.calls k A0 c0 l0 a1 s1 r1 r2 _ (Kd.C_below HR0.out HB2.out) HC0.out (HT0.out.below HB2.out) H3.out).mono ?_
  rintro e w3 ⟨v3,rfl,ho,hb⟩
  have HO3:=ζa (Kd.R_lower ho HB2.out.size)
  have HB3:=ζa (δr HB2.out hb)
  clear ho hb
  go_wp2
  go_ret2
  exact ⟨_,rfl,fun _=>HO3.out,HB3.out⟩
 ·
  rw [if_neg c2] at h
  simp only [Option.some.injEq,Prod.mk.injEq] at h
  obtain ⟨rfl,rfl⟩:=h
  have C2:=ζa c2
  have c2b:(s2 != 0)=τ:=bne_iff_ne.mpr c2
  clear c2
  go_wp2
  go_ret2
  exact ⟨_,rfl,fun h0=>absurd h0 C2.out,HB2.out⟩



/-! ### impl_balanceKey: function 143 -/
def impl_balanceKey.f (a0:ByteArray) (a1:ByteArray):Option (ByteArray):=if a0.size+a1.size≤1000000000000 then some ((((⟨#[98,47]⟩:ByteArray) ++ a0) ++ (⟨#[47]⟩:ByteArray)) ++ a1) else none
set_option maxHeartbeats 1000000 in
theorem impl_balanceKey.calls (a0:ByteArray) (a1:ByteArray) (r:ByteArray) (w:World) (h:impl_balanceKey.f a0 a1=some r) :
  Calls Tryz.prog 143 #[.string a0,.string a1] w fun e w'=>e = .returned (.string r)∧Drawn0 w w':=by
 unfold impl_balanceKey.f at h
 by_cases c:a0.size+a1.size≤1000000000000
 ·
  rw [if_pos c] at h
  obtain rfl:=Option.some.inj h
  have c1:(2+a0.size≤9223372036854775807)=True:=eq_true (by omega)
  have c2:(9223372036854775807<2+a0.size)=False:=eq_false (by omega)
  have c3:(2+a0.size+1≤9223372036854775807)=True:=eq_true (by omega)
  have c4:(9223372036854775807<2+a0.size+1)=False:=eq_false (by omega)
  have c5:(2+a0.size+1+a1.size≤9223372036854775807)=True:=eq_true (by omega)
  have c6:(9223372036854775807<2+a0.size+1+a1.size)=False:=eq_false (by omega)
  clear c
  go_enter Tryz.func143,Tryz.ntmps143
  go_wp2
  go_ret
  exact ⟨by first|rfl|(simp;done)|(simp [*];done),by repeat (first|exact Drawn0.refl _|apply Drawn0.step)⟩
 · rw [if_neg c] at h;cases h


open Go.Proofs.YtabmfhnhmoiljaaGreatDoorW.PrintWords renaming below_drew1 → δj, pw_below_drewN → δi, below_step → δr

/-! ### impl_move_1_1: function 141 -/
theorem cell_keep {w w':World} {p:Addr} {v:Value} (hb:Below w.heap.size w w') (h:w.cell? p=some v):w'.cell? p=some v:=(hb.cell (World.block_lt_of_cell? w _ h)).trans h
set_option maxHeartbeats 2000000 in
set_option maxRecDepth 100000 in
theorem impl_move_1_1.calls (k:Nat) (A0:Option Addr) (c0:Nat) (l0:List S51) (pd pf pn_:Addr) (d f:ByteArray) (n_:Int) (r1:List S51) (r2:Int) (w:World) (hr0:Kd.C k51 w A0 l0.length l0) (hc0:l0.length≤c0) (hT0:TabsOK w) (hd:w.cell? pd=some (.string d)) (hf:w.cell? pf=some (.string f)) (hn_:w.cell? pn_=some (.int .i64 n_))
  (h:((impl_balanceKey.f d f).bind fun key=>impl_fewer.f k l0 key n_)=some (r1,r2)) :
  Calls Tryz.prog 141 #[.slice A0 l0.length c0,.pointer (some pd),.pointer (some pf),.pointer (some pn_)] w fun e w' => ∃ v0_:Value,e = .returned (.tuple #[v0_,.int .i64 r2])∧(r2=0→Kd.R k51 51 w' w.heap.size (fun _=>True) v0_ r1)∧Below w.heap.size w w':=by
 obtain ⟨key,hk,h⟩:=Option.bind_eq_some_iff.mp h
 have HK:=ζa hk
 have HF:=ζa h
 have HR0:=ζa hr0
 have HC0:=ζa hc0
 have HT0:=ζa hT0
 have HB0:=ζa (Below.refl w.heap.size w)
 have Hd:=ζa hd
 have Hf:=ζa hf
 have Hn_:=ζa hn_
 clear hk h hr0 hc0 hT0
 go_enter Tryz.func141,Tryz.ntmps141
 go_wp2_with fail
 go_region_held3 (fun w'=>w'.cell? pd=some (.string d)∧w'.cell? pf=some (.string f)∧w'.cell? pn_=some (.int .i64 n_)) (first|go_keep|exact ⟨cell_keep HB3.out Hd.out,cell_keep HB3.out Hf.out,cell_keep HB3.out Hn_.out⟩)
  (first
   | (go_at_call 143;refine (impl_balanceKey.calls d f key _ HK.out).mono ?_;rintro e w' ⟨rfl,⟨q',rfl⟩⟩)
   | (go_at_call 142;refine (impl_fewer.calls k A0 c0 l0 key n_ r1 r2 _ (by repeat (first|exact HR0.out|apply Kd.C_drew|apply Kd.C_drewN)) HC0.out (by first|exact HT0.out|exact HT0.out.below (by repeat (first|exact HB0.out|apply δj|apply δi))) HF.out).mono ?_;rintro e w3 ⟨v3,rfl,ho,hb⟩;have HO3:=ζa ho;have HB3:Aside0 (Below w.heap.size w w3):=⟨δr (by repeat (first|exact HB0.out|apply δj|apply δi)) hb⟩;clear ho hb))
 all_goals go_wp2
 all_goals (go_ret2;exact ⟨_,rfl,fun h0=>HO3.out h0,HB3.out⟩)


open Go.RowKit renaming wrap64 → ζm
open Go.Proofs.YtabmfhnhmoiljaaGreatDoorW.PrintWords renaming gate_callee → δv

/-! ### impl_AddAmount: function 188 -/
def impl_AddAmount.j0:Nat→Int→Int→Bool→Option (Int × Int)
 | 0,_,_,_=>none
 | k+1,x0,x1,x6=>if x6=τ then (some (0,4)) else (if (ζm (x0+x1)) > 1000000000000000000 then (some (0,13)) else (some (ζm (x0+x1),0)))
def impl_AddAmount.f (k:Nat) (a0:Int) (a1:Int):Option (Int × Int):=(impl_isAmount.f a0).bind fun t238=>(if t238=τ then ((impl_isAmount.f a1).bind fun t239=>(impl_AddAmount.j0 k a0 a1 (!t239))) else (impl_AddAmount.j0 k a0 a1 τ))
set_option maxHeartbeats 8000000 in
set_option maxRecDepth 100000 in
theorem impl_AddAmount.calls (k:Nat) (a0:Int) (a1:Int) (r1:Int) (r2:Int) (w:World) (h:impl_AddAmount.f k a0 a1=some (r1,r2)) :
  Calls Tryz.prog 188 #[.int .i64 a0,.int .i64 a1] w fun e w'=>e = .returned (.tuple #[.int .i64 r1,.int .i64 r2])∧Drawn0 w w':=by
 have H:((impl_isAmount.f a0).bind fun t238=>(if t238=τ then ((impl_isAmount.f a1).bind fun t239=>(impl_AddAmount.j0 k a0 a1 (!t239))) else (impl_AddAmount.j0 k a0 a1 τ)))=some (r1,r2):=h
 clear h
 have HC3:=ζa H
 clear H
 go_enter Tryz.func188,Tryz.ntmps188
 go_upto_region 1 with (fail)
 go_cut [6] (fun v6 wc => ∃ (kq:Nat) (x6_2:Bool),v6 = .bool x6_2∧Aside0 (impl_AddAmount.j0 kq a0 a1 x6_2=some (r1,r2))∧Aside0 (kq≤k)∧Drawn0 w wc)
 case first =>
  have H:=HC3.out
  clear HC3
  replace H:=Option.bind_eq_some_iff.mp H
  obtain ⟨t238,A40,H⟩:=H
  replace H:(if t238=τ then ((impl_isAmount.f a1).bind fun t239=>(impl_AddAmount.j0 k a0 a1 (!t239))) else (impl_AddAmount.j0 k a0 a1 τ))=some (r1,r2):=H
  have A4:=ζa A40
  clear A40
  by_cases c5:t238=τ
  ·
   subst c5
   have H1:((impl_isAmount.f a1).bind fun t239=>(impl_AddAmount.j0 k a0 a1 (!t239)))=some (r1,r2):=by rw [if_pos rfl] at H;exact H
   clear H
   have H:=H1
   clear H1
   replace H:=Option.bind_eq_some_iff.mp H
   obtain ⟨t239,A60,H⟩:=H
   replace H:(impl_AddAmount.j0 k a0 a1 (!t239))=some (r1,r2):=H
   have A6:=ζa A60
   clear A60
   have H':=ζa H
   clear H
   go_wp2_with (first|((with_reducible refine δv (f:=128) rfl ?_);refine goesL_ (some 8) rfl rfl Tryz.func128 (by kernel_rfl) rfl #[.int .i64 a0] rfl (by (try simp only [δd,δe,δf]);first|done|rfl|(simp only [δg,δh];rfl)) ?_;(with_reducible refine (impl_isAmount.calls a0 τ _ A4.out).mono ?_);rintro e w' ⟨rfl,⟨nd,rfl⟩⟩;refine ⟨_,rfl,?_⟩)|(go_at_call 128;(with_reducible refine (impl_isAmount.calls a1 t239 _ A6.out).mono ?_);rintro e w' ⟨rfl,⟨nd,rfl⟩⟩))
   go_meet
   case rel=>exact ⟨_,(!t239),(by first|rfl|(simp;done)|(simp [*];done)),H',⟨by first|omega|exact Nat.le_refl _⟩,by repeat (first|exact Drawn0.refl _|apply Drawn0.step)⟩
  ·
   replace c5:=Bool.eq_false_iff.mpr c5
   subst c5
   have H1:(impl_AddAmount.j0 k a0 a1 τ)=some (r1,r2):=by rw [if_neg (show ¬ (φ=τ) by decide)] at H;exact H
   clear H
   have H:=H1
   clear H1
   have H':=ζa H
   clear H
   go_wp2_with (first|((with_reducible refine δv (f:=128) rfl ?_);refine goesL_ (some 8) rfl rfl Tryz.func128 (by kernel_rfl) rfl #[.int .i64 a0] rfl (by (try simp only [δd,δe,δf]);first|done|rfl|(simp only [δg,δh];rfl)) ?_;(with_reducible refine (impl_isAmount.calls a0 φ _ A4.out).mono ?_);rintro e w' ⟨rfl,⟨nd,rfl⟩⟩;refine ⟨_,rfl,?_⟩))
   go_meet
   case rel=>exact ⟨_,(τ),(by first|rfl|(simp;done)|(simp [*];done)),H',⟨by first|omega|exact Nat.le_refl _⟩,by repeat (first|exact Drawn0.refl _|apply Drawn0.step)⟩
 case rest =>
  clear HC3
  try clear c1
  try clear p2
  try clear c5
  obtain ⟨kq,x6_2,rfl,HA,HJ2,⟨mc2,rfl⟩⟩:=hcut
  cases kq with
  | zero=>exact absurd HA.out (by simp [impl_AddAmount.j0])
  | succ kj2 =>
   have H:=HA.out
   clear HA
   simp only [impl_AddAmount.j0] at H
   by_cases c7:x6_2=τ
   ·
    subst c7
    have H1:(some (0,4))=some (r1,r2):=by rw [if_pos rfl] at H;exact H
    clear H
    have H:=H1
    clear H1
    simp only [Option.some.injEq,Prod.mk.injEq] at H
    obtain ⟨rfl,rfl⟩:=H
    go_wp2
    go_ret2
    exact ⟨by first|rfl|(simp;done)|(simp [*];done),by repeat (first|exact Drawn0.refl _|apply Drawn0.step)⟩
   ·
    replace c7:=Bool.eq_false_iff.mpr c7
    subst c7
    have H1:(if (ζm (a0+a1)) > 1000000000000000000 then (some (0,13)) else (some (ζm (a0+a1),0)))=some (r1,r2):=by rw [if_neg (show ¬ (φ=τ) by decide)] at H;exact H
    clear H
    have H:=H1
    clear H1
    by_cases c8:(ζm (a0+a1)) > 1000000000000000000
    ·
     rw [if_pos c8] at H
     have c8b0:decide (1000000000000000000<(ζm (a0+a1)))=τ:=decide_eq_true c8
     clear c8
     simp only [Option.some.injEq,Prod.mk.injEq] at H
     obtain ⟨rfl,rfl⟩:=H
     go_wp2
     go_ret2
     exact ⟨by first|rfl|(simp;done)|(simp [*];done),by repeat (first|exact Drawn0.refl _|apply Drawn0.step)⟩
    ·
     rw [if_neg c8] at H
     have c8b0:decide (1000000000000000000<(ζm (a0+a1)))=φ:=decide_eq_false c8
     clear c8
     simp only [Option.some.injEq,Prod.mk.injEq] at H
     obtain ⟨rfl,rfl⟩:=H
     go_wp2
     go_ret2
     exact ⟨by first|rfl|(simp;done)|(simp [*];done),by repeat (first|exact Drawn0.refl _|apply Drawn0.step)⟩



/-! ### impl_more: function 145 -/
def impl_more.f (k:Nat) (l0:List S51) (a1:ByteArray) (a2:Int):Option (List S51 × Int) :=
 (impl_amountAt.f k l0 a1).bind fun a=>(impl_AddAmount.f k a a2).bind fun s=>if s.2=0 then impl_putAmount.f k l0 a1 s.1 else some (l0,s.2)
set_option maxHeartbeats 2000000 in
set_option maxRecDepth 100000 in
theorem impl_more.calls (k:Nat) (A0:Option Addr) (c0:Nat) (l0:List S51) (a1:ByteArray) (a2:Int) (r1:List S51) (r2:Int) (w:World) (hr0:Kd.C k51 w A0 l0.length l0) (hc0:l0.length≤c0) (hT0:TabsOK w) (h:impl_more.f k l0 a1 a2=some (r1,r2)) :
  Calls Tryz.prog 145 #[.slice A0 l0.length c0,.string a1,.int .i64 a2] w fun e w' => ∃ v0_:Value,e = .returned (.tuple #[v0_,.int .i64 r2])∧(r2=0→Kd.R k51 51 w' w.heap.size (fun _=>True) v0_ r1)∧Below w.heap.size w w':=by
 obtain ⟨a,h1,h⟩:=Option.bind_eq_some_iff.mp h
 obtain ⟨⟨s1,s2⟩,h2,h⟩:=Option.bind_eq_some_iff.mp h
 have H1:=ζa h1
 have H2:=ζa h2
 have HR0:=ζa hr0
 have HC0:=ζa hc0
 have HT0:=ζa hT0
 clear h1 h2 hr0 hc0 hT0
 go_enter Tryz.func145,Tryz.ntmps145
 go_wp2_with fail
 refine (impl_amountAt.calls k A0 c0 l0 a1 a _ HR0.out HC0.out HT0.out H1.out).mono ?_
 rintro e w1 ⟨rfl,hb⟩
 have HB1:=ζa hb
 clear hb
 go_wp2_with fail
 refine (impl_AddAmount.calls k a a2 s1 s2 _ H2.out).mono ?_
 rintro e w2 ⟨rfl,hd⟩
 have HB2:=ζa (δr HB1.out hd.below)
 clear hd
 by_cases c2:s2=0
 ·
  subst c2
  rw [if_pos rfl] at h
  have H3:=ζa h
  clear h
  go_wp2_with fail
  refine (impl_putAmount.calls k A0 c0 l0 a1 s1 r1 r2 _ (Kd.C_below HR0.out HB2.out) HC0.out (HT0.out.below HB2.out) H3.out).mono ?_
  rintro e w3 ⟨v3,rfl,ho,hb⟩
  have HO3:=ζa (Kd.R_lower ho HB2.out.size)
  have HB3:=ζa (δr HB2.out hb)
  clear ho hb
  go_wp2
  go_ret2
  exact ⟨_,rfl,fun _=>HO3.out,HB3.out⟩
 ·
  rw [if_neg c2] at h
  simp only [Option.some.injEq,Prod.mk.injEq] at h
  obtain ⟨rfl,rfl⟩:=h
  have C2:=ζa c2
  have c2b:(s2 != 0)=τ:=bne_iff_ne.mpr c2
  clear c2
  go_wp2
  go_ret2
  exact ⟨_,rfl,fun h0=>absurd h0 C2.out,HB2.out⟩



/-! ### impl_move_1_2: function 144 -/
set_option maxHeartbeats 2000000 in
set_option maxRecDepth 100000 in
theorem impl_move_1_2.calls (k:Nat) (A0:Option Addr) (c0:Nat) (l0:List S51) (pd pf pn_:Addr) (d f:ByteArray) (n_:Int) (r1:List S51) (r2:Int) (w:World) (hr0:Kd.C k51 w A0 l0.length l0) (hc0:l0.length≤c0) (hT0:TabsOK w) (hd:w.cell? pd=some (.string d)) (hf:w.cell? pf=some (.string f)) (hn_:w.cell? pn_=some (.int .i64 n_))
  (h:((impl_balanceKey.f d f).bind fun key=>impl_more.f k l0 key n_)=some (r1,r2)) :
  Calls Tryz.prog 144 #[.slice A0 l0.length c0,.pointer (some pd),.pointer (some pf),.pointer (some pn_)] w fun e w' => ∃ v0_:Value,e = .returned (.tuple #[v0_,.int .i64 r2])∧(r2=0→Kd.R k51 51 w' w.heap.size (fun _=>True) v0_ r1)∧Below w.heap.size w w':=by
 obtain ⟨key,hk,h⟩:=Option.bind_eq_some_iff.mp h
 have HK:=ζa hk
 have HF:=ζa h
 have HR0:=ζa hr0
 have HC0:=ζa hc0
 have HT0:=ζa hT0
 have HB0:=ζa (Below.refl w.heap.size w)
 have Hd:=ζa hd
 have Hf:=ζa hf
 have Hn_:=ζa hn_
 clear hk h hr0 hc0 hT0
 go_enter Tryz.func144,Tryz.ntmps144
 go_wp2_with fail
 go_region_held3 (fun w'=>w'.cell? pd=some (.string d)∧w'.cell? pf=some (.string f)∧w'.cell? pn_=some (.int .i64 n_)) (first|go_keep|exact ⟨cell_keep HB3.out Hd.out,cell_keep HB3.out Hf.out,cell_keep HB3.out Hn_.out⟩)
  (first
   | (go_at_call 143;refine (impl_balanceKey.calls d f key _ HK.out).mono ?_;rintro e w' ⟨rfl,⟨q',rfl⟩⟩)
   | (go_at_call 145;refine (impl_more.calls k A0 c0 l0 key n_ r1 r2 _ (by repeat (first|exact HR0.out|apply Kd.C_drew|apply Kd.C_drewN)) HC0.out (by first|exact HT0.out|exact HT0.out.below (by repeat (first|exact HB0.out|apply δj|apply δi))) HF.out).mono ?_;rintro e w3 ⟨v3,rfl,ho,hb⟩;have HO3:=ζa ho;have HB3:Aside0 (Below w.heap.size w w3):=⟨δr (by repeat (first|exact HB0.out|apply δj|apply δi)) hb⟩;clear ho hb))
 all_goals go_wp2
 all_goals (go_ret2;exact ⟨_,rfl,fun h0=>HO3.out h0,HB3.out⟩)


open Go.Proofs.YtabmfhnhmoiljaaGreatDoorW.PrintWords renaming below_alloc → δk, below_step → δr

/-! ### impl_move_1: function 140 -/
theorem rowF {w:World} {g:Nat} {t:TypeId} (xs:List FV) (hm:xs.length≤1000) (h:w.heap[g]? = some (.cells (xs.map encF).toArray t (0,0))):kF.C w (some ⟨g,0,none⟩) xs.length xs:=by
 refine ⟨rfl,by omega,fun _=>⟨_,rfl,fun j p hp=>⟨[encF p],rfl,rfl,fun t u hu => ?_⟩⟩⟩
 obtain ⟨rfl,rfl⟩:t=0∧u=encF p:=by
  rcases t with _|t
  · simpa using hu.symm
  ·
   simp at hu
 rw [Addr.add_lit,cell_of_row w g _ _ _ (0,0) h]
 have:kF.sz=1:=rfl
 simp [this,hp]
def impl_move.F (k:Nat) (f t d:ByteArray) (n_:Int):List S51→Option (List S51 × Int):=fun l0=>impl_all.f k l0 [(fun l=>(impl_balanceKey.f d f).bind fun key=>impl_fewer.f k l key n_),(fun l=>(impl_balanceKey.f d t).bind fun key=>impl_more.f k l key n_)]
set_option maxHeartbeats 2000000 in
set_option maxRecDepth 100000 in
theorem impl_move_1.calls (k:Nat) (A0:Option Addr) (c0:Nat) (l0:List S51) (pf pt pd pn_:Addr) (f t d:ByteArray) (n_:Int) (r1:List S51) (r2:Int) (w:World) (hr0:Kd.C k51 w A0 l0.length l0) (hc0:l0.length≤c0) (hT0:TabsOK w) (hf:w.cell? pf=some (.string f)) (ht:w.cell? pt=some (.string t)) (hd:w.cell? pd=some (.string d)) (hn_:w.cell? pn_=some (.int .i64 n_)) (h:impl_move.F k f t d n_ l0=some (r1,r2)) :
  Calls Tryz.prog 140 #[.slice A0 l0.length c0,.pointer (some pd),.pointer (some pf),.pointer (some pn_),.pointer (some pt)] w fun e w' => ∃ v0_:Value,e = .returned (.tuple #[v0_,.int .i64 r2])∧Kd.R k51 51 w' w.heap.size (fun _=>True) v0_ r1∧Below w.heap.size w w':=by
 have HH:=ζa h
 have HR0:=ζa hr0
 have HC0:=ζa hc0
 have HT0:=ζa hT0
 have Hf:=ζa hf
 have Ht:=ζa ht
 have Hd:=ζa hd
 have Hn_:=ζa hn_
 have HB:=ζa (Below.refl w.heap.size w)
 clear h hr0 hc0 hT0 hf ht hd hn_
 go_enter Tryz.func140,Tryz.ntmps140
 go_wp2_with fail
 have HB1:Aside0 (Below w.heap.size w (w.alloc (.cells ([((141,#[.pointer (some pd),.pointer (some pf),.pointer (some pn_)]):FV),(144,#[.pointer (some pd),.pointer (some pt),.pointer (some pn_)])].map encF).toArray 79))):=⟨δk HB.out _⟩
 refine (impl_all.calls k A0 c0 l0 _ _ [(141,#[.pointer (some pd),.pointer (some pf),.pointer (some pn_)]),(144,#[.pointer (some pd),.pointer (some pt),.pointer (some pn_)])] [(fun l=>(impl_balanceKey.f d f).bind fun key=>impl_fewer.f k l key n_),(fun l=>(impl_balanceKey.f d t).bind fun key=>impl_more.f k l key n_)] r1 r2 _ (Kd.C_alloc HR0.out _) HC0.out (rowF _ (show 2≤1000 by decide) (heap_alloc_new _ _)) rfl ?_ HH.out).mono ?_
 ·
  intro i x F hx hF
  rcases i with _|_|i
  ·
   simp only [List.getElem?_cons_zero,Option.some.injEq] at hx hF
   subst hx hF
   exact ⟨enters_of Tryz.func141 (by kernel_rfl) rfl,fun W A c l r code hb hr hc hF=>impl_move_1_1.calls k A c l pd pf pn_ d f n_ r code W hr hc ((HT0.out.below HB1.out).below hb) (cell_keep hb (cell_keep HB1.out Hd.out)) (cell_keep hb (cell_keep HB1.out Hf.out)) (cell_keep hb (cell_keep HB1.out Hn_.out)) hF⟩
  ·
   simp only [List.getElem?_cons_succ,List.getElem?_cons_zero,Option.some.injEq] at hx hF
   subst hx hF
   exact ⟨enters_of Tryz.func144 (by kernel_rfl) rfl,fun W A c l r code hb hr hc hF=>impl_move_1_2.calls k A c l pd pt pn_ d t n_ r code W hr hc ((HT0.out.below HB1.out).below hb) (cell_keep hb (cell_keep HB1.out Hd.out)) (cell_keep hb (cell_keep HB1.out Ht.out)) (cell_keep hb (cell_keep HB1.out Hn_.out)) hF⟩
  · simp at hx
 rintro e w3 ⟨v3,rfl,ho,hb⟩
 have HO3:=ζa (Kd.R_lower ho HB1.out.size)
 have HB3:=ζa (δr HB1.out hb)
 clear ho hb
 go_wp2
 go_ret2
 exact ⟨_,rfl,HO3.out,HB3.out⟩


open Go.Proofs.YtabmfhnhmoiljaaGreatDoorW.PrintWords renaming gate_dst → δx, box_event → δz, below_step → δr, below_alloc → δk, pw_below_drewN → δi, below_drew1 → δj, blk_cell → δl

/-! ### impl_move: function 84 -/
set_option maxHeartbeats 2000000 in
set_option maxRecDepth 100000 in
theorem impl_move.calls (k:Nat) (f t d:ByteArray) (n_:Int) (w:World) (hT0:TabsOK w) :
  Calls Tryz.prog 84 #[.string f,.string t,.string d,.int .i64 n_] w fun e w' => ∃ (g:Nat) (lb:Array Value),e = .returned (.func (.func g) #[] lb)∧ChgR w' (g,lb) (impl_move.F k f t d n_)∧Below w.heap.size w w':=by
 have HT0:=ζa hT0
 have HB:=ζa (Below.refl w.heap.size w)
 clear hT0
 go_enter Tryz.func84,Tryz.ntmps84
 go_wp2_with (first
  | ((with_reducible refine δx (N:=4) rfl ?_);refine δz ?hg (N:=4) ?hd (cs:=#[(.string f)]) (t:=9) ?hr ?_;(case hd=>rfl);(case hg=>rfl);(case hr=>first|(go_simp;done)|(go_simp;rfl));intro gbf hg wf hbox hb;have n0_:=ζa (δr (by repeat (first|exact HB.out|apply δk|apply δi|apply δj)) hb);clear HB;have HB:=n0_;clear n0_;have BKf:=ζa hbox;clear hb hbox hg)
  | ((with_reducible refine δx (N:=5) rfl ?_);refine δz ?hg (N:=5) ?hd (cs:=#[(.string t)]) (t:=9) ?hr ?_;(case hd=>rfl);(case hg=>rfl);(case hr=>first|(go_simp;done)|(go_simp;rfl));intro gbt hg wt hbox hb;have n0_:=ζa (δr (by repeat (first|exact HB.out|apply δk|apply δi|apply δj)) hb);clear HB;have HB:=n0_;clear n0_;have BKt:=ζa hbox;have mf:=ζa (blk_below BKf.out hb);clear BKf;have BKf:=mf;clear mf;clear hb hbox hg)
  | ((with_reducible refine δx (N:=6) rfl ?_);refine δz ?hg (N:=6) ?hd (cs:=#[(.string d)]) (t:=9) ?hr ?_;(case hd=>rfl);(case hg=>rfl);(case hr=>first|(go_simp;done)|(go_simp;rfl));intro gbd hg wd hbox hb;have n0_:=ζa (δr (by repeat (first|exact HB.out|apply δk|apply δi|apply δj)) hb);clear HB;have HB:=n0_;clear n0_;have BKd:=ζa hbox;have mf:=ζa (blk_below BKf.out hb);clear BKf;have BKf:=mf;clear mf;have mt:=ζa (blk_below BKt.out hb);clear BKt;have BKt:=mt;clear mt;clear hb hbox hg)
  | ((with_reducible refine δx (N:=7) rfl ?_);refine δz ?hg (N:=7) ?hd (cs:=#[(.int .i64 n_)]) (t:=3) ?hr ?_;(case hd=>rfl);(case hg=>rfl);(case hr=>first|(go_simp;done)|(go_simp;rfl));intro gbn_ hg wn_ hbox hb;have n0_:=ζa (δr (by repeat (first|exact HB.out|apply δk|apply δi|apply δj)) hb);clear HB;have HB:=n0_;clear n0_;have BKn_:=ζa hbox;have mf:=ζa (blk_below BKf.out hb);clear BKf;have BKf:=mf;clear mf;have mt:=ζa (blk_below BKt.out hb);clear BKt;have BKt:=mt;clear mt;have md:=ζa (blk_below BKd.out hb);clear BKd;have BKd:=md;clear md;clear hb hbox hg))
 go_ret
 refine ⟨_,_,rfl,⟨enters_of Tryz.func140 (by kernel_rfl) rfl,fun W A c l r code hb hr hc hF => ?_⟩,HB.out⟩
 exact (impl_move_1.calls k A c l _ _ _ _ f t d n_ r code W hr hc ((HT0.out.below HB.out).below hb) ((δl (blk_below BKf.out hb) 0).trans rfl) ((δl (blk_below BKt.out hb) 0).trans rfl) ((δl (blk_below BKd.out hb) 0).trans rfl) ((δl (blk_below BKn_.out hb) 0).trans rfl) hF)


open Go.Proofs.YtabmfhnhmoiljaaGreatDoorW.PrintWords renaming gate_dst → δx, below_size → δs, below_alloc → δk, pw_below_drewN → δi, below_drew1 → δj, below_step → δr, below_set → δq

/-! ### impl_number: function 189 -/
def impl_number.l0:Nat→Int→List Int→Int→Option (ByteArray)
 | 0,_,_,_=>none
 | k+1,x0,x5,x6=>if x6 ≥ 0 then (if 0≤x6 then (if x6<(x5.length:Int) then (impl_number.l0 k (x0 / 256) (x5.set (x6:Int).toNat ((x0) % 256)) (ζm (x6 - 1))) else (none)) else (none)) else (some (strOfNums x5))
def impl_number.f (k:Nat) (a0:Int) (a1:Int):Option (ByteArray):=if 0≤a1 then (if (a1:Int).toNat≤281474976710656 then (impl_number.l0 k a0 (List.replicate (a1:Int).toNat 0) (ζm (a1 - 1))) else (none)) else (none)
set_option maxHeartbeats 8000000 in
set_option maxRecDepth 100000 in
theorem impl_number.calls (k:Nat) (a0:Int) (a1:Int) (r:ByteArray) (w:World) (h:impl_number.f k a0 a1=some r) :
  Calls Tryz.prog 189 #[.int .i64 a0,.int .i64 a1] w fun e w'=>e = .returned (.string r)∧Below w.heap.size w w':=by
 have HB:=ζa (Below.refl w.heap.size w)
 have H:(if 0≤a1 then (if (a1:Int).toNat≤281474976710656 then (impl_number.l0 k a0 (List.replicate (a1:Int).toNat 0) (ζm (a1 - 1))) else (none)) else (none))=some r:=h
 clear h
 by_cases c3:0≤a1
 ·
  rw [if_pos c3] at H
  have c3b0:=eq_true c3
  have c3b1:decide (0≤a1)=τ:=decide_eq_true c3
  clear c3
  by_cases c4:(a1:Int).toNat≤281474976710656
  ·
   rw [if_pos c4] at H
   have c4b0:=eq_true c4
   have c4b1:decide ((a1:Int).toNat≤281474976710656)=τ:=decide_eq_true c4
   clear c4
   obtain ⟨y240,hy240⟩ : ∃ y_:List Int,y_=(List.replicate (a1:Int).toNat 0):=⟨_,rfl⟩
   replace H:(impl_number.l0 k a0 y240 (ζm (a1 - 1)))=some r:=by first|(rw [hy240];with_reducible exact H)|(have H2_:=(Option.bind_some _ _).symm.trans H;rw [hy240];with_reducible exact H2_)|(have H2_:=(Option.bind_some _ _).symm.trans H;with_reducible exact H2_)|with_reducible exact H|(rw [hy240];exact H)|exact H
   have Ny240:=ζa hy240
   clear hy240
   have H':=ζa H
   clear H
   go_enter Tryz.func189,Tryz.ntmps189
   go_wp2_with (first|((with_reducible refine δx (N:=8) rfl ?_);refine Kd.R_make (Kd.int .u8) _ 5 rfl (N:=8) rfl 82 _ _ rfl a1 rfl rfl Tryz.underlying82 (.int .u8 0) 1 info5 rfl (by decide) (by omega) 0 (ok:=fun _=>True) (okp:=fun _=>True) rfl (fun _ hk=>hk) trivial (of_decide_eq_true (by first|(with_reducible assumption)|assumption)) (Nat.le_trans (Nat.mul_le_mul_right _ (of_decide_eq_true (by first|(with_reducible assumption)|assumption):a1.toNat≤281474976710656)) (by omega)) (Below.refl _ _) (Nat.le_refl _) ?_;intro v241 w5 ho6 hb hg_ hnew_;clear hg_ hnew_;(first|rw [← Ny240.out] at ho6|(simp only [Int.reduceToNat] at ho6;rw [← Ny240.out] at ho6));have n0_:=ζa (Kd.R_lower ho6 (δs (by repeat (first|(with_reducible first|exact HB.out|apply δk|apply δi|apply δj)|exact HB.out))));have n1_:=ζa (δr (by repeat (first|(with_reducible first|exact HB.out|apply δk|apply δi|apply δj)|exact HB.out)) hb);clear HB;have HO242:=n0_;have HB:=n1_;clear n0_ n1_;clear hb ho6))
   go_loopg [0,6] k (fun kq v0 v6 w' => ∃ (x0_1:Int) (x5_1:List Int) (x6_1:Int),v0 = .int .i64 x0_1∧v6 = .int .i64 x6_1∧Aside0 (impl_number.l0 kq x0_1 x5_1 x6_1=some r)∧Aside0 (kq≤k)∧Aside0 (Kd.R (Kd.int .u8) 5 w' w.heap.size (fun _=>True) v241 x5_1)∧Aside0 (Below w.heap.size w w'))
   case atStart=>exact ⟨(a0),(y240),(ζm (a1 - 1)),(by first|rfl|(simp;done)|(simp [*];done)),(by first|rfl|(simp;done)|(simp [*];done)),H',⟨Nat.le_refl _⟩,⟨by (with_reducible repeat (first|apply ζd|apply ζc|apply ζe));exact HO242.out⟩,⟨by repeat (first|(with_reducible first|exact HB.out|apply δk|apply δi|apply δj)|exact HB.out)⟩⟩
   case round =>
    clear H'
    try clear c1
    try clear p2
    try clear c3
    try clear c3b0
    try clear c3b1
    try clear c4
    try clear c4b0
    try clear c4b1
    try clear p6
    obtain ⟨x0_1,x5_1,x6_1,rfl,rfl,HA,HK1,HO_5,HB⟩:=hrel
    cases gk with
    | zero=>exact absurd HA.out (by simp [impl_number.l0])
    | succ k1 =>
     have H:=HA.out
     clear HA
     simp only [impl_number.l0] at H
     by_cases c7:x6_1 ≥ 0
     ·
      rw [if_pos c7] at H
      have c7b0:decide (0≤x6_1)=τ:=decide_eq_true c7
      clear c7
      by_cases c8:0≤x6_1
      ·
       rw [if_pos c8] at H
       have c8b0:decide (0≤x6_1)=τ:=decide_eq_true c8
       clear c8
       by_cases c9:x6_1<(x5_1.length:Int)
       ·
        rw [if_pos c9] at H
        have c9b0:decide (x6_1<(x5_1.length:Int))=τ:=decide_eq_true c9
        clear c9
        obtain ⟨y243,hy243⟩ : ∃ y_:List Int,y_=(x5_1.set (x6_1:Int).toNat ((x0_1) % 256)):=⟨_,rfl⟩
        replace H:(impl_number.l0 k1 (x0_1 / 256) y243 (ζm (x6_1 - 1)))=some r:=by first|(rw [hy243];with_reducible exact H)|(have H2_:=(Option.bind_some _ _).symm.trans H;rw [hy243];with_reducible exact H2_)|(have H2_:=(Option.bind_some _ _).symm.trans H;with_reducible exact H2_)|with_reducible exact H|(rw [hy243];exact H)|exact H
        have Ny243:=ζa hy243
        clear hy243
        have H':=ζa H
        clear H
        have p10:0≤(x6_1:Int):=of_decide_eq_true (by first|(with_reducible assumption)|assumption)
        have q10:(x6_1:Int)<((x5_1.length:Int):Int):=of_decide_eq_true (by first|(with_reducible assumption)|assumption)
        obtain ⟨go10,co10,eo10,gb10,gl10,cl10,HG10⟩:=Kd.R_form HO_5.out (by omega)
        (first|cases eo10|(injection eo10 with ea_ en_ ec_;(first|subst ea_|(injection ea_ with ea_;subst ea_));subst ec_;clear en_))
        have GB10:=ζa gb10
        have GG10:=ζa HG10
        clear gb10 gl10 HG10
        obtain ⟨hx10_0,hf10_0⟩:=Kd.R_celln 0 HO_5.out (x6_1:Int) p10 q10
        replace p10:=eq_true p10
        replace q10:=eq_true q10
        have HP11:=Kd.R_putg HO_5.out (x6_1:Int) ((x0_1) % 256)
        go_wp2_with (first|((with_reducible refine gate_store (t:=5) (p:=19) rfl ?_);refine store_event (t:=5) (p:=19) (v:=?vo_w12) (w1:=(wr.setCell ⟨go10,(x6_1:Int).toNat,none⟩ (.int .u8 ((x0_1) % 256)))) ?hg ?ho ?hn ?hr ?_;(case ho=>rfl);(case hg=>rfl);(case hn=>rfl);(case hr=>first|(go_simp;done)|(go_simp;rfl));intro w12 hw;have hg:wr.grownBy w12 (some go10):=(by rw [hw];exact HP11.2);have hp_:Kd.R (Kd.int .u8) 5 w12 w.heap.size (fun _=>True) (.slice (some ⟨go10,0,none⟩) x5_1.length co10) y243:=(by rw [hw,Ny243.out];exact HP11.1);clear HP11;have n0_:=ζa (hp_);have n1_:=ζa ((by rw [hw];exact δq (HB.out) GB10.out:Below w.heap.size w w12));clear HO_5;clear HB;have HO_5:=n0_;have HB:=n1_;clear n0_ n1_;clear hg hw hp_))
        go_roundg k1
        case measure=>have:=HK1.out;omega
        case rel=>exact ⟨(x0_1 / 256),(y243),(ζm (x6_1 - 1)),(by first|rfl|(simp;done)|(simp [*];done)),(by first|rfl|(simp;done)|(simp [*];done)),H',⟨by have:=HK1.out;omega⟩,⟨by (with_reducible repeat (first|apply ζd|apply ζc|apply ζe));exact HO_5.out⟩,⟨by repeat (first|(with_reducible first|exact HB.out|apply δk|apply δi|apply δj)|exact HB.out)⟩⟩
       ·
        rw [if_neg c9] at H
        exact absurd H (by simp)
      ·
       rw [if_neg c8] at H
       exact absurd H (by simp)
     ·
      rw [if_neg c7] at H
      have c7b0:decide (0≤x6_1)=φ:=decide_eq_false c7
      clear c7
      obtain rfl:=Option.some.inj H
      have hcv13:=own_string (P:=Tryz.prog) Tryz.underlying82 Tryz.underlying5 Tryz.underlying9 (Kd.own_of_R HO_5.out)
      go_wp2
      go_ret
      exact ⟨by first|rfl|(simp [errW_none,errW_some] <;> rfl)|(simp [*,errW_none,errW_some] <;> rfl),by repeat (first|(with_reducible first|exact HB.out|apply δk|apply δi|apply δj)|exact HB.out)⟩
  ·
   rw [if_neg c4] at H
   exact absurd H (by simp)
 ·
  rw [if_neg c3] at H
  exact absurd H (by simp)



/-! ### impl_fields: function 146 -/
def impl_fields.l0:Nat→ByteArray→List ByteArray→Int→Int→Option (ByteArray)
 | 0,_,_,_,_=>none
 | k+1,x3,x9,x10,x11=>if x11<x10 then (if 0≤x11 then (if x11<(x9.length:Int) then ((impl_number.f k ((rdOf ByteArray.empty x9 x11).size:Int) 2).bind fun t246=>(if t246.size+(rdOf ByteArray.empty x9 x11).size≤9223372036854775807 then (if x3.size+(t246 ++ (rdOf ByteArray.empty x9 x11)).size≤9223372036854775807 then (impl_fields.l0 k (x3 ++ (t246 ++ (rdOf ByteArray.empty x9 x11))) x9 x10 (ζm (x11+1))) else (none)) else (none))) else (none)) else (none)) else (some x3)
def impl_fields.f (k:Nat) (l0:List ByteArray):Option (ByteArray):=(impl_number.f k (l0.length:Int) 1).bind fun t244=>(impl_fields.l0 k t244 l0 (l0.length:Int) 0)
set_option maxHeartbeats 8000000 in
set_option maxRecDepth 100000 in
theorem impl_fields.calls (k:Nat) (A0:Option Addr) (c0:Nat) (l0:List ByteArray) (r:ByteArray) (w:World) (hr0:Kd.C Kd.string w A0 l0.length l0) (hc0:l0.length≤c0) (h:impl_fields.f k l0=some r) :
  Calls Tryz.prog 146 #[.slice A0 l0.length c0] w fun e w'=>e = .returned (.string r)∧Below w.heap.size w w':=by
 have HR0:=ζa hr0
 have HC0:=ζa hc0
 clear hr0 hc0
 have HB:=ζa (Below.refl w.heap.size w)
 have H:((impl_number.f k (l0.length:Int) 1).bind fun t244=>(impl_fields.l0 k t244 l0 (l0.length:Int) 0))=some r:=h
 clear h
 replace H:=Option.bind_eq_some_iff.mp H
 obtain ⟨t244,A20,H⟩:=H
 replace H:(impl_fields.l0 k t244 l0 (l0.length:Int) 0)=some r:=H
 have A2:=ζa A20
 clear A20
 have H':=ζa H
 clear H
 go_enter Tryz.func146,Tryz.ntmps146
 go_wp2_with (first|((with_reducible refine δv (f:=189) rfl ?_);refine goesL_ (some 8) rfl rfl Tryz.func189 (by kernel_rfl) rfl #[.int .i64 (l0.length:Int),.int .i64 1] rfl (by (try simp only [δd,δe,δf]);first|done|rfl|(simp only [δg,δh];rfl)) ?_;(with_reducible refine (impl_number.calls k (l0.length:Int) 1 t244 _ A2.out).mono ?_);rintro e w3 ⟨rfl,hb⟩;refine ⟨_,rfl,?_⟩;have n0_:=ζa (δr (by repeat (first|(with_reducible first|exact HB.out|apply δk|apply δi|apply δj)|exact HB.out)) hb);clear HB;have HB:=n0_;clear n0_;(try clear hb);(try clear hb2);(try clear hk);(try clear hi)))
 go_loopg [3,11] k (fun kq v3 v11 w' => ∃ (x3_1:ByteArray) (x11_1:Int),v3 = .string x3_1∧v11 = .int .i64 x11_1∧Aside0 (impl_fields.l0 kq x3_1 l0 (l0.length:Int) x11_1=some r)∧Aside0 (kq≤k)∧Aside0 (Below w.heap.size w w'))
 case atStart=>exact ⟨(t244),(0),(by first|rfl|(simp;done)|(simp [*];done)),(by first|rfl|(simp;done)|(simp [*];done)),H',⟨Nat.le_refl _⟩,⟨by repeat (first|(with_reducible first|exact HB.out|apply δk|apply δi|apply δj)|exact HB.out)⟩⟩
 case round =>
  clear H'
  try clear c1
  try clear p2
  obtain ⟨x3_1,x11_1,rfl,rfl,HA,HK1,HB⟩:=hrel
  cases gk with
  | zero=>exact absurd HA.out (by simp [impl_fields.l0])
  | succ k1 =>
   have H:=HA.out
   clear HA
   simp only [impl_fields.l0] at H
   by_cases c4:x11_1<(l0.length:Int)
   ·
    rw [if_pos c4] at H
    have c4b0:decide (x11_1<(l0.length:Int))=τ:=decide_eq_true c4
    clear c4
    by_cases c5:0≤x11_1
    ·
     rw [if_pos c5] at H
     have c5b0:decide (0≤x11_1)=τ:=decide_eq_true c5
     clear c5
     by_cases c6:x11_1<(l0.length:Int)
     ·
      rw [if_pos c6] at H
      have c6b0:decide (x11_1<(l0.length:Int))=τ:=decide_eq_true c6
      clear c6
      replace H:=Option.bind_eq_some_iff.mp H
      obtain ⟨t246,A70,H⟩:=H
      replace H:(if t246.size+(rdOf ByteArray.empty l0 x11_1).size≤9223372036854775807 then (if x3_1.size+(t246 ++ (rdOf ByteArray.empty l0 x11_1)).size≤9223372036854775807 then (impl_fields.l0 k1 (x3_1 ++ (t246 ++ (rdOf ByteArray.empty l0 x11_1))) l0 (l0.length:Int) (ζm (x11_1+1))) else (none)) else (none))=some r:=H
      have A7:=ζa A70
      clear A70
      by_cases c8:t246.size+(rdOf ByteArray.empty l0 x11_1).size≤9223372036854775807
      ·
       rw [if_pos c8] at H
       have c8b0:=eq_true c8
       have c8b1:decide (t246.size+(rdOf ByteArray.empty l0 x11_1).size≤9223372036854775807)=τ:=decide_eq_true c8
       try have c8b2:(9223372036854775807<t246.size+(rdOf ByteArray.empty l0 x11_1).size)=False:=eq_false (Nat.not_lt.2 c8)
       by_cases c9:x3_1.size+(t246 ++ (rdOf ByteArray.empty l0 x11_1)).size≤9223372036854775807
       ·
        rw [if_pos c9] at H
        have c9b0:=eq_true c9
        have c9b1:decide (x3_1.size+(t246 ++ (rdOf ByteArray.empty l0 x11_1)).size≤9223372036854775807)=τ:=decide_eq_true c9
        try have c9b2:(9223372036854775807<x3_1.size+(t246 ++ (rdOf ByteArray.empty l0 x11_1)).size)=False:=eq_false (Nat.not_lt.2 c9)
        have H':=ζa H
        clear H
        have p245:0≤(x11_1:Int):=of_decide_eq_true (by first|(with_reducible assumption)|assumption)
        have q245:x11_1<(l0.length:Int):=of_decide_eq_true (by first|(with_reducible assumption)|assumption)
        obtain ⟨ad245,e245,hx245_0⟩:=Kd.at_string HR0.out x11_1 p245 q245
        cases e245
        replace hx245_0:=(HB.out.cell (World.block_lt_of_cell? w _ hx245_0)).trans hx245_0
        replace p245:=eq_true p245
        replace q245:=eq_true q245
        go_wp2_with (first|((with_reducible refine δv (f:=189) rfl ?_);refine goesL_ (some 18) rfl rfl Tryz.func189 (by kernel_rfl) rfl #[.int .i64 ((rdOf ByteArray.empty l0 x11_1).size:Int),.int .i64 2] rfl (by (try simp only [δd,δe,δf]);first|done|rfl|(simp only [δg,δh];rfl)) ?_;(with_reducible refine (impl_number.calls k1 ((rdOf ByteArray.empty l0 x11_1).size:Int) 2 t246 _ A7.out).mono ?_);rintro e w10 ⟨rfl,hb⟩;refine ⟨_,rfl,?_⟩;have n0_:=ζa (δr (by repeat (first|(with_reducible first|exact HB.out|apply δk|apply δi|apply δj)|exact HB.out)) hb);clear HB;have HB:=n0_;clear n0_;(try clear hb);(try clear hb2);(try clear hk);(try clear hi)))
        go_roundg k1
        case measure=>have:=HK1.out;omega
        case rel=>exact ⟨(x3_1 ++ (t246 ++ (rdOf ByteArray.empty l0 x11_1))),(ζm (x11_1+1)),(by first|rfl|(simp;done)|(simp [*];done)),(by first|rfl|(simp;done)|(simp [*];done)),H',⟨by have:=HK1.out;omega⟩,⟨by repeat (first|(with_reducible first|exact HB.out|apply δk|apply δi|apply δj)|exact HB.out)⟩⟩
       ·
        rw [if_neg c9] at H
        exact absurd H (by simp)
      ·
       rw [if_neg c8] at H
       exact absurd H (by simp)
     ·
      rw [if_neg c6] at H
      exact absurd H (by simp)
    ·
     rw [if_neg c5] at H
     exact absurd H (by simp)
   ·
    rw [if_neg c4] at H
    have c4b0:decide (x11_1<(l0.length:Int))=φ:=decide_eq_false c4
    clear c4
    obtain rfl:=Option.some.inj H
    go_wp2
    go_ret
    exact ⟨by first|rfl|(simp [errW_none,errW_some] <;> rfl)|(simp [*,errW_none,errW_some] <;> rfl),by repeat (first|(with_reducible first|exact HB.out|apply δk|apply δi|apply δj)|exact HB.out)⟩


open Go.Proofs.YtabmfhnhmoiljaaGreatDoorW.PrintWords renaming gate_dst → δx, box_event → δz, below_step → δr, below_alloc → δk, pw_below_drewN → δi, below_drew1 → δj, below_size → δs, blk_drew → δp, blk_cell → δl, below_set → δq, blk_drewN → δn, blk_alloc → δo
open Go.Proofs.YtabmfhnhmoiljaaGreatDoorW.PrintLast renaming pure_ → ζk, any_of → ζj
open List renaming setIfInBounds_toArray → δa, set_cons_zero → δb, set_cons_succ → δc, map_toArray → δd, map_cons → δe, map_nil → δf, length_drop → δg, length_take → δh
open Go.Proofs.YtabmfhnhmoiljaaGreatDoorW.PrintWords.Kd renaming R_reads' → ζg, R_below → ζh, R_alloc → ζd, R_drewN → ζc, R_drew → ζe

/-! ### impl_take_data: function 85 -/
def impl_take_data.f (k:Nat) (a0_0:ByteArray) (a0_1:ByteArray) (a0_2:ByteArray) (a0_3:Int):Option (ByteArray):=(impl_amountText.f a0_3).bind fun t248=>((impl_fields.f k (([(⟨#[107]⟩:ByteArray),a0_0,a0_1,a0_2,t248]:List ByteArray))).bind fun t252=>(some t252))
def impl_take_data.T1:Bool × List (List Nat × List Nat):=(τ,[([],[]),([0],[0]),([],[]),([2],[2]),([],[]),([4],[4]),([],[]),([6],[6]),([7],[7]),([1,3,5,8],[1,3,5,8]),([9,8],[9]),([10,10,0,1,2,3,4,5,6,7,8,9,10],[10])])
def impl_take_data.B1:List Nat:=[0,1,0,4,0,16,0,64,192,511,1023,2047]
theorem impl_take_data.tab1:rtab .any (opsOf Tryz.f85 1)=impl_take_data.T1:=by kernel_rfl
theorem impl_take_data.bits1:waitsOk impl_take_data.T1.2 impl_take_data.B1=τ:=by kernel_rfl
set_option maxHeartbeats 8000000 in
set_option maxRecDepth 100000 in
theorem impl_take_data.calls (k:Nat) (a0_0:ByteArray) (a0_1:ByteArray) (a0_2:ByteArray) (a0_3:Int) (r:ByteArray) (w:World) (hT0:TabsOK w) (h:impl_take_data.f k a0_0 a0_1 a0_2 a0_3=some r) :
  Calls Tryz.prog 85 #[.agg #[.string a0_0,.string a0_1,.string a0_2,.int .i64 a0_3]] w fun e w'=>e = .returned (.string r)∧Below w.heap.size w w':=by
 have HT0:=ζa hT0
 clear hT0
 have hu56:=Tryz.underlying56
 have HB:=ζa (Below.refl w.heap.size w)
 have H:((impl_amountText.f a0_3).bind fun t248=>((impl_fields.f k (([(⟨#[107]⟩:ByteArray),a0_0,a0_1,a0_2,t248]:List ByteArray))).bind fun t252=>(some t252)))=some r:=h
 clear h
 replace H:=Option.bind_eq_some_iff.mp H
 obtain ⟨t248,A20,H⟩:=H
 replace H:((impl_fields.f k (([(⟨#[107]⟩:ByteArray),a0_0,a0_1,a0_2,t248]:List ByteArray))).bind fun t252=>(some t252))=some r:=H
 have A2:=ζa A20
 clear A20
 obtain ⟨y249,hy249⟩ : ∃ y_:List ByteArray,y_=(([(⟨#[107]⟩:ByteArray),a0_0,a0_1,a0_2,t248]:List ByteArray)):=⟨_,rfl⟩
 replace H:((impl_fields.f k y249).bind fun t252=>(some t252))=some r:=by first|(rw [hy249];with_reducible exact H)|(have H2_:=(Option.bind_some _ _).symm.trans H;rw [hy249];with_reducible exact H2_)|(have H2_:=(Option.bind_some _ _).symm.trans H;with_reducible exact H2_)|with_reducible exact H|(rw [hy249];exact H)|exact H
 have Ny249:=ζa hy249
 clear hy249
 replace H:=Option.bind_eq_some_iff.mp H
 obtain ⟨t252,A30,H⟩:=H
 replace H:(some t252)=some r:=H
 have A3:=ζa A30
 clear A30
 obtain rfl:=Option.some.inj H
 go_enter Tryz.func85,Tryz.ntmps85
 try go_wp2_with (first|((with_reducible refine δx (N:=1) rfl ?_);refine δz ?hg (N:=1) ?hd (cs:=#[.string a0_0,.string a0_1,.string a0_2,.int .i64 a0_3]) (t:=56) ?hr ?_;(case hd=>rfl);(case hg=>rfl);(case hr=>first|(go_simp;done)|(go_simp;rfl));intro gb247 hg w4 hbox hb;have n0_:=ζa (δr (by repeat (first|(with_reducible first|exact HB.out|apply δk|apply δi|apply δj)|exact HB.out)) hb);have n1_:=ζa (hbox);have n2_:=ζa ((by rw [hg];exact (δs (by repeat (first|(with_reducible first|exact HB.out|apply δk|apply δi|apply δj)|exact HB.out))):w.heap.size≤gb247));have n3_:=ζa ((by rw [hg];exact (δs (by repeat (first|(with_reducible first|exact HB.out|apply δk|apply δi|apply δj)|exact HB.out))):w.heap.size≤gb247));clear HB;have HB:=n0_;have BK247:=n1_;have GW247:=n2_;have GE247:=n3_;clear n0_ n1_ n2_ n3_;clear hb hbox hg))
 have n0_:=ζa (δp BK247.out)
 have n1_:=ζa (δj HB.out)
 clear BK247
 clear HB
 have BK247:=n0_
 have HB:=n1_
 clear n0_ n1_
 refine start_ (n:=12) (S:=fun w'=>w'.cell? ⟨gb247,0,none⟩=some (.string a0_0)∧w'.cell? ⟨gb247,1,none⟩=some (.string a0_1)∧w'.cell? ⟨gb247,2,none⟩=some (.string a0_2)∧w'.cell? ⟨gb247,3,none⟩=some (.int .i64 a0_3)) (ds:=[]) #[φ,φ,φ,φ,φ,φ,φ,φ,φ,φ,φ,φ] (by kernel_rfl) rfl rfl ⟨(δl BK247.out 0).trans rfl,(δl BK247.out 1).trans rfl,(δl BK247.out 2).trans rfl,(δl BK247.out 3).trans rfl⟩ (fun hHeld => ?_);refine with_tabW impl_take_data.tab1 impl_take_data.bits1 (fun HT_ HW_ => ?_)
 generalize w4.drew=w5 at BK247 HB hHeld ⊢
 refine ζk (i:=0) (N:=some 3) (v:=?_) (a':=?_) #[τ,φ,φ,φ,φ,φ,φ,φ,φ,φ,φ,φ] rfl rfl (ζj HT_.out (by kernel_rfl)) (fun _ _ _ h=>h) (Or.inl ⟨by rfl,?_⟩) ?_ ?_
 rotate_left
 · intro w';go_simp;with_reducible rfl
 rotate_left
 · simp only [ζl,δa,δb,δc,i64_w,i32_w];rfl
 refine ζk (i:=2) (N:=some 5) (v:=?_) (a':=?_) #[τ,φ,τ,φ,φ,φ,φ,φ,φ,φ,φ,φ] rfl rfl (ζj HT_.out (by kernel_rfl)) (fun _ _ _ h=>h) (Or.inl ⟨by rfl,?_⟩) ?_ ?_
 rotate_left
 · intro w';go_simp;with_reducible rfl
 rotate_left
 · simp only [ζl,δa,δb,δc,i64_w,i32_w];rfl
 refine ζk (i:=4) (N:=some 7) (v:=?_) (a':=?_) #[τ,φ,τ,φ,τ,φ,φ,φ,φ,φ,φ,φ] rfl rfl (ζj HT_.out (by kernel_rfl)) (fun _ _ _ h=>h) (Or.inl ⟨by rfl,?_⟩) ?_ ?_
 rotate_left
 · intro w';go_simp;with_reducible rfl
 rotate_left
 · simp only [ζl,δa,δb,δc,i64_w,i32_w];rfl
 refine ζk (i:=6) (N:=some 9) (v:=?_) (a':=?_) #[τ,φ,τ,φ,τ,φ,τ,φ,φ,φ,φ,φ] rfl rfl (ζj HT_.out (by kernel_rfl)) (fun _ _ _ h=>h) (Or.inl ⟨by rfl,?_⟩) ?_ ?_
 rotate_left
 · intro w';go_simp;with_reducible rfl
 rotate_left
 · simp only [ζl,δa,δb,δc,i64_w,i32_w];rfl
 refine take_ (i:=1) (N:=some 4) (v:=?_) (a':=?_) #[τ,τ,τ,φ,τ,φ,τ,φ,φ,φ,φ,φ] rfl rfl (take_ofW HT_.out HW_.out (by kernel_rfl)) (fun _ _ _ h=>h) (Or.inl ⟨by rfl,?_⟩) hHeld ?_ ?_
 rotate_left
 · rintro w' ⟨s0,s1,s2,s3⟩;go_simp;with_reducible rfl
 rotate_left
 · simp only [ζl,δa,δb,δc,i64_w,i32_w];rfl
 refine take_ (i:=3) (N:=some 6) (v:=?_) (a':=?_) #[τ,τ,τ,τ,τ,φ,τ,φ,φ,φ,φ,φ] rfl rfl (take_ofW HT_.out HW_.out (by kernel_rfl)) (fun _ _ _ h=>h) (Or.inl ⟨by rfl,?_⟩) hHeld ?_ ?_
 rotate_left
 · rintro w' ⟨s0,s1,s2,s3⟩;go_simp;with_reducible rfl
 rotate_left
 · simp only [ζl,δa,δb,δc,i64_w,i32_w];rfl
 refine take_ (i:=5) (N:=some 8) (v:=?_) (a':=?_) #[τ,τ,τ,τ,τ,τ,τ,φ,φ,φ,φ,φ] rfl rfl (take_ofW HT_.out HW_.out (by kernel_rfl)) (fun _ _ _ h=>h) (Or.inl ⟨by rfl,?_⟩) hHeld ?_ ?_
 rotate_left
 · rintro w' ⟨s0,s1,s2,s3⟩;go_simp;with_reducible rfl
 rotate_left
 · simp only [ζl,δa,δb,δc,i64_w,i32_w];rfl
 refine take_ (i:=7) (N:=some 10) (v:=?_) (a':=?_) #[τ,τ,τ,τ,τ,τ,τ,τ,φ,φ,φ,φ] rfl rfl (take_ofW HT_.out HW_.out (by kernel_rfl)) (fun _ _ _ h=>h) (Or.inl ⟨by rfl,?_⟩) hHeld ?_ ?_
 rotate_left
 · rintro w' ⟨s0,s1,s2,s3⟩;go_simp;with_reducible rfl
 rotate_left
 · simp only [ζl,δa,δb,δc,i64_w,i32_w];rfl
 refine one_ (i:=8) (N:=some 11) #[τ,τ,τ,τ,τ,τ,τ,τ,τ,φ,φ,φ] rfl rfl (one_of HT_.out (by kernel_rfl)) (by decide) (fun K hK => ?_)
 refine goes_ Tryz.func147 (by kernel_rfl) rfl #[.int .i64 a0_3] (by rfl) rfl rfl (by (try simp only [δd,δe,δf]);first|done|rfl|(simp only [δg,δh];rfl)) ?_
 with_reducible refine (impl_amountText.calls a0_3 t248 _ (HT0.out.below (by repeat (first|(with_reducible first|exact HB.out|apply δk|apply δi|apply δj|refine δq ?_ GE247.out)|exact HB.out))) A2.out).mono ?_
 rintro e w6 ⟨rfl,hb⟩
 refine ⟨_,rfl,?_⟩
 have n0_:=ζa (blk_below (g:=gb247) (o:=.cells #[.string a0_0,.string a0_1,.string a0_2,.int .i64 a0_3] 56 (0,0)) (by (with_reducible repeat (first|refine δn ?_ _|refine δp ?_|refine δo ?_ _));exact BK247.out) hb)
 have n1_:=ζa (δr (by repeat (first|(with_reducible first|exact HB.out|apply δk|apply δi|apply δj|refine δq ?_ GE247.out)|exact HB.out)) hb)
 clear BK247
 clear HB
 have BK247:=n0_
 have HB:=n1_
 clear n0_ n1_
 (try clear hb)
 (try clear hb2)
 (try clear hk)
 (try clear hi)
 refine hK.out _ _ ⟨(δl BK247.out 0).trans rfl,(δl BK247.out 1).trans rfl,(δl BK247.out 2).trans rfl,(δl BK247.out 3).trans rfl⟩ (fun hHeld => ?_)
 clear hK K
 refine norm_ (a':=?_) ?_ ?_
 rotate_left
 ·
  show ζl _ (some 11) _=_
  simp only [ζl,δa,δb,δc,i64_w,i32_w];rfl
 refine one_ (i:=9) (N:=some 12) #[τ,τ,τ,τ,τ,τ,τ,τ,τ,τ,φ,φ] rfl rfl (one_of HT_.out (by kernel_rfl)) (by decide) (fun K hK => ?_)
 refine Kd.R_lit_step Kd.string _ 9 ?hg (N:=12) ?hd (xs:=([(⟨#[107]⟩:ByteArray),a0_0,a0_1,a0_2,t248]:List ByteArray)) (inner:=[.string (⟨#[107]⟩:ByteArray),.string a0_0,.string a0_1,.string a0_2,.string t248]) (ok:=fun _=>True) (okp:=fun _=>True) ?hr ?hp (fun _ hk=>hk) trivial (Below.refl _ _) (Nat.le_refl _) (by simp) ?_;(case hd=>rfl);(case hg=>rfl);(case hr=>first|(go_simp;done)|(go_simp;rfl));(case hp=>exact (Reps.one (show Kd.M Kd.string _ _ _ (⟨#[107]⟩:ByteArray) [.string (⟨#[107]⟩:ByteArray)] from rfl) (Reps.one (show Kd.M Kd.string _ _ _ a0_0 [.string a0_0] from rfl) (Reps.one (show Kd.M Kd.string _ _ _ a0_1 [.string a0_1] from rfl) (Reps.one (show Kd.M Kd.string _ _ _ a0_2 [.string a0_2] from rfl) (Reps.one (show Kd.M Kd.string _ _ _ t248 [.string t248] from rfl) (Reps.none _ _)))))))
 intro v250 w7 ho8 hb hg_ hnew_
 clear hg_ hnew_
 (first|rw [← Ny249.out] at ho8|(simp only [Int.reduceToNat] at ho8;rw [← Ny249.out] at ho8))
 have n0_:=ζa (Kd.R_lower ho8 (δs (by repeat (first|(with_reducible first|exact HB.out|apply δk|apply δi|apply δj|refine δq ?_ GE247.out)|exact HB.out))))
 have n1_:=ζa (blk_below (g:=gb247) (o:=.cells #[.string a0_0,.string a0_1,.string a0_2,.int .i64 a0_3] 56 (0,0)) (by (with_reducible repeat (first|refine δn ?_ _|refine δp ?_|refine δo ?_ _));exact BK247.out) hb)
 have n2_:=ζa (δr (by repeat (first|(with_reducible first|exact HB.out|apply δk|apply δi|apply δj|refine δq ?_ GE247.out)|exact HB.out)) hb)
 clear BK247
 clear HB
 have HO251:=n0_
 have BK247:=n1_
 have HB:=n2_
 clear n0_ n1_ n2_
 clear hb ho8
 obtain ⟨Ao9,co9,eo9⟩:=Kd.R_slice HO251.out
 (first|subst eo9|(injection eo9 with f1_ f2_ f3_;have f4_:=f1_.symm;have f5_:=f3_.symm;clear f1_ f2_ f3_;subst f4_;subst f5_))
 refine hK.out _ _ ⟨(δl BK247.out 0).trans rfl,(δl BK247.out 1).trans rfl,(δl BK247.out 2).trans rfl,(δl BK247.out 3).trans rfl⟩ (fun hHeld => ?_)
 clear hK K
 refine norm_ (a':=?_) ?_ ?_
 rotate_left
 ·
  show ζl _ (some 12) _=_
  simp only [ζl,δa,δb,δc,i64_w,i32_w];rfl
 refine one_ (i:=10) (N:=some 13) #[τ,τ,τ,τ,τ,τ,τ,τ,τ,τ,τ,φ] rfl rfl (one_of HT_.out (by kernel_rfl)) (by decide) (fun K hK => ?_)
 refine goes_ Tryz.func146 (by kernel_rfl) rfl #[.slice Ao9 y249.length co9] (by rfl) rfl rfl (by (try simp only [δd,δe,δf]);first|done|rfl|(simp only [δg,δh];rfl)) ?_
 with_reducible refine (impl_fields.calls k _ _ y249 t252 _ ?side1 ?side2 A3.out).mono ?_
 (case side1=>repeat (first|exact (ζg HO251.out).2.2|(with_reducible refine Kd.C_alloc ?_ _)|(with_reducible refine Kd.C_drewN ?_ _)|(with_reducible refine Kd.C_drew ?_)))
 (case side2=>exact (ζg HO251.out).2.1)
 rintro e w10 ⟨rfl,hb⟩
 refine ⟨_,rfl,?_⟩
 have n0_:=ζa (ζh (by (with_reducible repeat (first|apply ζd|apply ζc|apply ζe));exact HO251.out) hb)
 have n1_:=ζa (blk_below (g:=gb247) (o:=.cells #[.string a0_0,.string a0_1,.string a0_2,.int .i64 a0_3] 56 (0,0)) (by (with_reducible repeat (first|refine δn ?_ _|refine δp ?_|refine δo ?_ _));exact BK247.out) hb)
 have n2_:=ζa (δr (by repeat (first|(with_reducible first|exact HB.out|apply δk|apply δi|apply δj|refine δq ?_ GE247.out)|exact HB.out)) hb)
 clear HO251
 clear BK247
 clear HB
 have HO251:=n0_
 have BK247:=n1_
 have HB:=n2_
 clear n0_ n1_ n2_
 (try clear hb)
 (try clear hb2)
 (try clear hk)
 (try clear hi)
 refine hK.out _ _ ⟨(δl BK247.out 0).trans rfl,(δl BK247.out 1).trans rfl,(δl BK247.out 2).trans rfl,(δl BK247.out 3).trans rfl⟩ (fun hHeld => ?_)
 clear hK K
 refine norm_ (a':=?_) ?_ ?_
 rotate_left
 ·
  show ζl _ (some 13) _=_
  simp only [ζl,δa,δb,δc,i64_w,i32_w];rfl
 refine ζk (i:=11) (N:=some 2) (v:=?_) (a':=?_) #[τ,τ,τ,τ,τ,τ,τ,τ,τ,τ,τ,τ] rfl rfl (ζj HT_.out (by kernel_rfl)) (fun _ _ _ h=>h) (Or.inl ⟨by rfl,?_⟩) ?_ ?_
 rotate_left
 · intro w';go_simp;with_reducible rfl
 rotate_left
 · simp only [ζl,δa,δb,δc,i64_w,i32_w];rfl
 refine done_ (done_of HT_.out (by kernel_rfl)) ?_
 try go_wp2
 go_ret
 exact ⟨by first|rfl|(simp [errW_none,errW_some] <;> rfl)|(simp [*,errW_none,errW_some] <;> rfl),by repeat (first|(with_reducible first|exact HB.out|apply δk|apply δi|apply δj|refine δq ?_ GE247.out)|exact HB.out)⟩


open Go.Proofs.YtabmfhnhmoiljaaGreatDoorW.PrintWords renaming gate_dst → δx, box_event → δz, below_step → δr, below_alloc → δk, below_drew1 → δj, pw_below_drewN → δi, blk_cell → δl, blk_frozen → δm, blk_alloc → δo, blk_drew → δp, blk_drewN → δn
open Go.Proofs.YtabmfhnhmoiljaaGreatDoorW.PrintWords.Kd renaming R_below → ζh, R_alloc → ζd, R_drew → ζe, R_drewN → ζc

/-! ### impl_sendTake: function 46 -/
def impl_sendTake.f (k:Nat) (name:ByteArray) (list:List S51) (t_0:ByteArray) (t_1:ByteArray) (t_2:ByteArray) (t_3:Int):Option (List S51 × ByteArray × Int) :=
 (impl_take_isRight.f k t_0 t_1 t_2 t_3).bind fun q1=>if q1=τ then ((impl_move.F k t_2 (⟨#[116,97,107,101,115]⟩:ByteArray) name t_3 list).bind fun q2=>if q2.2=0 then ((impl_take_data.f k t_0 t_1 t_2 t_3).bind fun q3=>some (q2.1,q3,0)) else (some (q2.1,(⟨#[]⟩:ByteArray),q2.2))) else ((slices_Clone_impl_Pair_impl_Pair.f list).bind fun q4=>some (q4,(⟨#[]⟩:ByteArray),4))
set_option maxHeartbeats 4000000 in
set_option maxRecDepth 100000 in
theorem impl_sendTake.calls (k:Nat) (name:ByteArray) (A_list:Option Addr) (c_list:Nat) (list:List S51) (t_0:ByteArray) (t_1:ByteArray) (t_2:ByteArray) (t_3:Int) (r1:List S51) (r2:ByteArray) (r3:Int) (w:World) (hr0_list:Kd.C k51 w A_list list.length list) (hc0_list:list.length≤c_list) (hT0:TabsOK w) (h:impl_sendTake.f k name list t_0 t_1 t_2 t_3=some (r1,r2,r3)) :
  Calls Tryz.prog 46 #[.string name,.slice A_list list.length c_list,.agg #[.string t_0,.string t_1,.string t_2,.int .i64 t_3]] w fun e w' => ∃ v0_:Value,e = .returned (.tuple #[v0_,.string r2,.int .i64 r3])∧Kd.R k51 51 w' w.heap.size (fun _=>True) v0_ r1∧Below w.heap.size w w':=by
 have HR0_list:=ζa hr0_list
 have HC0_list:=ζa hc0_list
 clear hr0_list hc0_list
 have HT0:=ζa hT0
 clear hT0
 have HB0:=ζa (Below.refl w.heap.size w)
 unfold impl_sendTake.f at h
 have HH:=ζa h
 clear h
 go_enter Tryz.func46,Tryz.ntmps46
 go_wp2_with (first|((with_reducible refine δx (N:=5) rfl ?_);refine δz ?hg (N:=5) ?hd (cs:=#[.string t_0,.string t_1,.string t_2,.int .i64 t_3]) (t:=56) ?hr ?_;(case hd=>rfl);(case hg=>rfl);(case hr=>first|(go_simp;done)|(go_simp;rfl));intro gbt hg w1 hbox hb;have hbc:=δr (show Below w.heap.size w _ from by repeat (first|exact Below.refl _ _|apply δk|apply δj|apply δi)) hb;have GEt:Aside0 (w.heap.size≤gbt):=⟨by rw [hg];exact Below.size (show Below w.heap.size w _ from by repeat (first|exact Below.refl _ _|apply δk|apply δj|apply δi))⟩;have BKt:=ζa hbox;have m_:=ζa (δr HB0.out hbc);have HB1:=m_;clear m_;clear hb hbc hbox hg;have hzt_0:=(δl BKt.out 0).trans rfl;have hzt_1:=(δl BKt.out 1).trans rfl;have hzt_2:=(δl BKt.out 2).trans rfl;have hzt_3:=(δl BKt.out 3).trans rfl;have hft_0:=δm BKt.out 0;have hft_1:=δm BKt.out 1;have hft_2:=δm BKt.out 2;have hft_3:=δm BKt.out 3))
 have h:=HH.out
 clear HH
 obtain ⟨ok,h2_,h⟩:=Option.bind_eq_some_iff.mp h
 have HH:=ζa h
 have H2:=ζa h2_
 clear h h2_
 go_wp2_with fail
 refine (impl_take_isRight.calls k t_0 t_1 t_2 t_3 ok _ H2.out).mono ?_
 rintro e w2 ⟨rfl,hb⟩
 have m_:=ζa (blk_below (by repeat (first|exact BKt.out|apply δo|apply δp|apply δn)) hb)
 clear BKt
 have BKt:=m_
 clear m_
 clear hzt_0 hft_0 hzt_1 hft_1 hzt_2 hft_2 hzt_3 hft_3
 have m_:=ζa (δr (by repeat (first|exact HB1.out|apply δk|apply δj|apply δi)) hb)
 clear hb
 have HB2:=m_
 clear m_
 have hzt_0:=(δl BKt.out 0).trans rfl
 have hft_0:=δm BKt.out 0
 have hzt_1:=(δl BKt.out 1).trans rfl
 have hft_1:=δm BKt.out 1
 have hzt_2:=(δl BKt.out 2).trans rfl
 have hft_2:=δm BKt.out 2
 have hzt_3:=(δl BKt.out 3).trans rfl
 have hft_3:=δm BKt.out 3
 have h:=HH.out
 clear HH
 cases ok with
 | true =>
  rw [if_pos rfl] at h
  have HH:=ζa h
  clear h
  go_wp2_with fail
  refine (impl_move.calls k t_2 ((⟨#[116,97,107,101,115]⟩:ByteArray)) name t_3 _ (HT0.out.below (by repeat (first|exact HB2.out|apply δk|apply δj|apply δi)))).mono ?_
  rintro e w4 ⟨g_m,lb_m,rfl,hch,hb⟩
  have m_:=ζa (blk_below (by repeat (first|exact BKt.out|apply δo|apply δp|apply δn)) hb)
  clear BKt
  have BKt:=m_
  clear m_
  clear hzt_0 hft_0 hzt_1 hft_1 hzt_2 hft_2 hzt_3 hft_3
  have m_:=ζa (δr (by repeat (first|exact HB2.out|apply δk|apply δj|apply δi)) hb)
  clear hb
  have HB4:=m_
  clear m_
  have CH_m:=ζa hch
  have eg_m : ∀ args w,(callFunc g_m args).run Tryz.prog w = .ok (.enter g_m args) w:=hch.enters
  clear hch
  have hzt_0:=(δl BKt.out 0).trans rfl
  have hft_0:=δm BKt.out 0
  have hzt_1:=(δl BKt.out 1).trans rfl
  have hft_1:=δm BKt.out 1
  have hzt_2:=(δl BKt.out 2).trans rfl
  have hft_2:=δm BKt.out 2
  have hzt_3:=(δl BKt.out 3).trans rfl
  have hft_3:=δm BKt.out 3
  have h:=HH.out
  clear HH
  obtain ⟨⟨o1,c1⟩,h5_,h⟩:=Option.bind_eq_some_iff.mp h
  have HH:=ζa h
  have H5:=ζa h5_
  clear h h5_
  go_wp2_with fail
  refine (CH_m.out.calls _ A_list c_list list o1 c1 (by repeat (first|exact Below.refl _ _|apply δk|apply δj|apply δi)) (by repeat (first|exact Kd.C_below HR0_list.out HB4.out|apply Kd.C_alloc|apply Kd.C_drew|apply Kd.C_drewN)) HC0_list.out H5.out).mono ?_
  rintro e w5 ⟨v5,rfl,ho,hb⟩
  have m_:=ζa (blk_below (by repeat (first|exact BKt.out|apply δo|apply δp|apply δn)) hb)
  clear BKt
  have BKt:=m_
  clear m_
  clear hzt_0 hft_0 hzt_1 hft_1 hzt_2 hft_2 hzt_3 hft_3
  have ho':=Kd.R_lower ho (Below.size (show Below w.heap.size w _ from by repeat (first|exact HB4.out|apply δk|apply δj|apply δi)))
  obtain ⟨adr5,cap5,rfl,hl5,hq5⟩:=Kd.R_reads ho'
  have HC5:=ζa hl5
  have HRn5:=ζa hq5
  have HOn5:=ζa ho'
  clear hl5 hq5 ho ho'
  have m_:=ζa (δr (by repeat (first|exact HB4.out|apply δk|apply δj|apply δi)) hb)
  clear hb
  have HB5:=m_
  clear m_
  have hzt_0:=(δl BKt.out 0).trans rfl
  have hft_0:=δm BKt.out 0
  have hzt_1:=(δl BKt.out 1).trans rfl
  have hft_1:=δm BKt.out 1
  have hzt_2:=(δl BKt.out 2).trans rfl
  have hft_2:=δm BKt.out 2
  have hzt_3:=(δl BKt.out 3).trans rfl
  have hft_3:=δm BKt.out 3
  have h:=HH.out
  clear HH
  by_cases cc6:c1=0
  ·
   rw [if_pos cc6] at h
   have HH:=ζa h
   clear h
   have f6a:(c1 == 0)=τ:=beq_iff_eq.mpr cc6
   have f6b:(c1 != 0)=φ:=bne_eq_false_iff_eq.mpr cc6
   have C6:=ζa cc6
   clear cc6
   have h:=HH.out
   clear HH
   obtain ⟨d1,h7_,h⟩:=Option.bind_eq_some_iff.mp h
   have HH:=ζa h
   have H7:=ζa h7_
   clear h h7_
   go_wp2_with fail
   refine (impl_take_data.calls k t_0 t_1 t_2 t_3 d1 _ (HT0.out.below (by repeat (first|exact HB5.out|apply δk|apply δj|apply δi))) H7.out).mono ?_
   rintro e w7 ⟨rfl,hb⟩
   have m_:=ζa (Kd.C_below (by repeat (first|exact HRn5.out|apply Kd.C_alloc|apply Kd.C_drew|apply Kd.C_drewN)) hb)
   clear HRn5
   have HRn5:=m_
   clear m_
   have m_:=ζa (ζh (by repeat (first|exact HOn5.out|apply ζd|apply ζe|apply ζc)) hb)
   clear HOn5
   have HOn5:=m_
   clear m_
   have m_:=ζa (blk_below (by repeat (first|exact BKt.out|apply δo|apply δp|apply δn)) hb)
   clear BKt
   have BKt:=m_
   clear m_
   clear hzt_0 hft_0 hzt_1 hft_1 hzt_2 hft_2 hzt_3 hft_3
   have m_:=ζa (δr (by repeat (first|exact HB5.out|apply δk|apply δj|apply δi)) hb)
   clear hb
   have HB7:=m_
   clear m_
   have hzt_0:=(δl BKt.out 0).trans rfl
   have hft_0:=δm BKt.out 0
   have hzt_1:=(δl BKt.out 1).trans rfl
   have hft_1:=δm BKt.out 1
   have hzt_2:=(δl BKt.out 2).trans rfl
   have hft_2:=δm BKt.out 2
   have hzt_3:=(δl BKt.out 3).trans rfl
   have hft_3:=δm BKt.out 3
   have h:=HH.out
   clear HH
   simp only [Option.some.injEq,Prod.mk.injEq] at h
   obtain ⟨rfl,rfl,rfl⟩:=h
   go_wp2
   go_ret3
   exact ⟨_,rfl,(by repeat (first|exact HOn5.out|apply ζd|apply ζe|apply ζc)),(by repeat (first|exact HB7.out|apply δk|apply δj|apply δi))⟩
  ·
   rw [if_neg cc6] at h
   have HH:=ζa h
   clear h
   have f6a:(c1 == 0)=φ:=beq_eq_false_iff_ne.mpr cc6
   have f6b:(c1 != 0)=τ:=bne_iff_ne.mpr cc6
   have C6:=ζa cc6
   clear cc6
   have h:=HH.out
   clear HH
   simp only [Option.some.injEq,Prod.mk.injEq] at h
   obtain ⟨rfl,rfl,rfl⟩:=h
   go_wp2
   go_ret3
   exact ⟨_,rfl,(by repeat (first|exact HOn5.out|apply ζd|apply ζe|apply ζc)),(by repeat (first|exact HB5.out|apply δk|apply δj|apply δi))⟩
 | false =>
  rw [if_neg (by decide)] at h
  have HH:=ζa h
  clear h
  have h:=HH.out
  clear HH
  obtain ⟨o2,h8_,h⟩:=Option.bind_eq_some_iff.mp h
  have HH:=ζa h
  have H8:=ζa h8_
  clear h h8_
  go_wp2_with fail
  refine (slices_Clone_impl_Pair_impl_Pair.calls A_list c_list list o2 _ (by repeat (first|exact Kd.C_below HR0_list.out HB2.out|apply Kd.C_alloc|apply Kd.C_drew|apply Kd.C_drewN)) HC0_list.out H8.out).mono ?_
  rintro e w8 ⟨v8,rfl,ho,hb⟩
  have m_:=ζa (blk_below (by repeat (first|exact BKt.out|apply δo|apply δp|apply δn)) hb)
  clear BKt
  have BKt:=m_
  clear m_
  clear hzt_0 hft_0 hzt_1 hft_1 hzt_2 hft_2 hzt_3 hft_3
  have ho':=Kd.R_lower ho (Below.size (show Below w.heap.size w _ from by repeat (first|exact HB2.out|apply δk|apply δj|apply δi)))
  obtain ⟨adr8,cap8,rfl,hl8,hq8⟩:=Kd.R_reads ho'
  have HC8:=ζa hl8
  have HRn8:=ζa hq8
  have HOn8:=ζa ho'
  clear hl8 hq8 ho ho'
  have m_:=ζa (δr (by repeat (first|exact HB2.out|apply δk|apply δj|apply δi)) hb)
  clear hb
  have HB8:=m_
  clear m_
  have hzt_0:=(δl BKt.out 0).trans rfl
  have hft_0:=δm BKt.out 0
  have hzt_1:=(δl BKt.out 1).trans rfl
  have hft_1:=δm BKt.out 1
  have hzt_2:=(δl BKt.out 2).trans rfl
  have hft_2:=δm BKt.out 2
  have hzt_3:=(δl BKt.out 3).trans rfl
  have hft_3:=δm BKt.out 3
  have h:=HH.out
  clear HH
  simp only [Option.some.injEq,Prod.mk.injEq] at h
  obtain ⟨rfl,rfl,rfl⟩:=h
  go_wp2
  go_ret3
  exact ⟨_,rfl,(by repeat (first|exact HOn8.out|apply ζd|apply ζe|apply ζc)),(by repeat (first|exact HB8.out|apply δk|apply δj|apply δi))⟩


open Go.Proofs.YtabmfhnhmoiljaaGreatDoorW.PrintWords renaming gate_dst → δx, below_size → δs, below_alloc → δk, pw_below_drewN → δi, below_drew1 → δj, below_step → δr, gate_callee → δv

/-! ### impl_SendTake: function 17 -/
def impl_SendTake.f (k:Nat) (a0:ByteArray) (l1:List (S51)) (a2:ByteArray) (a3:ByteArray) (a4:ByteArray) (a5:Int):Option ((List (S51)) × ByteArray × Int):=(impl_nameCode.f k a0 l1 (([a2,a3,a4]:List ByteArray))).bind fun t256=>(if t256=0 then ((impl_sendTake.f k a0 l1 a2 a3 a4 a5).bind fun bt257=>(some (bt257.1,bt257.2.1,bt257.2.2))) else (some (([]:List (S51)),(⟨#[]⟩:ByteArray),t256)))
set_option maxHeartbeats 8000000 in
set_option maxRecDepth 100000 in
theorem impl_SendTake.calls (k:Nat) (a0:ByteArray) (A1:Option Addr) (c1:Nat) (l1:List (S51)) (a2:ByteArray) (a3:ByteArray) (a4:ByteArray) (a5:Int) (r1:List (S51)) (r2:ByteArray) (r3:Int) (w:World) (hr1:Kd.C k51 w A1 l1.length l1) (hc1:l1.length≤c1) (hT0:TabsOK w) (h:impl_SendTake.f k a0 l1 a2 a3 a4 a5=some (r1,r2,r3)) :
  Calls Tryz.prog 17 #[.string a0,.slice A1 l1.length c1,.string a2,.string a3,.string a4,.int .i64 a5] w fun e w' => ∃ v0_:Value,e = .returned (.tuple #[v0_,.string r2,.int .i64 r3])∧Kd.R k51 51 w' w.heap.size (fun _=>True) v0_ r1∧Below w.heap.size w w':=by
 have HT0:=ζa hT0
 clear hT0
 have hu56:=Tryz.underlying56
 have HR1:=ζa hr1
 have HC1:=ζa hc1
 clear hr1 hc1
 have HB:=ζa (Below.refl w.heap.size w)
 have H:((impl_nameCode.f k a0 l1 (([a2,a3,a4]:List ByteArray))).bind fun t256=>(if t256=0 then ((impl_sendTake.f k a0 l1 a2 a3 a4 a5).bind fun bt257=>(some (bt257.1,bt257.2.1,bt257.2.2))) else (some (([]:List (S51)),(⟨#[]⟩:ByteArray),t256))))=some (r1,r2,r3):=h
 clear h
 obtain ⟨y253,hy253⟩ : ∃ y_:List ByteArray,y_=(([a2,a3,a4]:List ByteArray)):=⟨_,rfl⟩
 replace H:((impl_nameCode.f k a0 l1 y253).bind fun t256=>(if t256=0 then ((impl_sendTake.f k a0 l1 a2 a3 a4 a5).bind fun bt257=>(some (bt257.1,bt257.2.1,bt257.2.2))) else (some (([]:List (S51)),(⟨#[]⟩:ByteArray),t256))))=some (r1,r2,r3):=by first|(rw [hy253];with_reducible exact H)|(have H2_:=(Option.bind_some _ _).symm.trans H;rw [hy253];with_reducible exact H2_)|(have H2_:=(Option.bind_some _ _).symm.trans H;with_reducible exact H2_)|with_reducible exact H|(rw [hy253];exact H)|exact H
 have Ny253:=ζa hy253
 clear hy253
 replace H:=Option.bind_eq_some_iff.mp H
 obtain ⟨t256,A70,H⟩:=H
 replace H:(if t256=0 then ((impl_sendTake.f k a0 l1 a2 a3 a4 a5).bind fun bt257=>(some (bt257.1,bt257.2.1,bt257.2.2))) else (some (([]:List (S51)),(⟨#[]⟩:ByteArray),t256)))=some (r1,r2,r3):=H
 have A7:=ζa A70
 clear A70
 by_cases c8:t256=0
 ·
  rw [if_pos c8] at H
  have c8b0:(t256 == 0)=τ:=beq_iff_eq.mpr c8
  have c8b1:(t256 != 0)=φ:=bne_eq_false_iff_eq.mpr c8
  clear c8
  replace H:=Option.bind_eq_some_iff.mp H
  obtain ⟨⟨t257,t260,t261⟩,A90,H⟩:=H
  replace H:(some (t257,t260,t261))=some (r1,r2,r3):=H
  have A9:=ζa A90
  clear A90
  simp only [Option.some.injEq,Prod.mk.injEq] at H
  obtain ⟨rfl,rfl,rfl⟩:=H
  go_enter Tryz.func17,Tryz.ntmps17
  go_wp2_with (first|((with_reducible refine δx (N:=21) rfl ?_);refine Kd.R_lit Kd.string _ 9 ?hg (N:=21) ?hd (xs:=([a2,a3,a4]:List ByteArray)) (inner:=[.string a2,.string a3,.string a4]) (ok:=fun _=>True) (okp:=fun _=>True) ?hr ?hp (fun _ hk=>hk) trivial (Below.refl _ _) (Nat.le_refl _) (by simp) ?_;(case hd=>rfl);(case hg=>rfl);(case hr=>first|(go_simp;done)|(go_simp;rfl));(case hp=>exact (Reps.one (show Kd.M Kd.string _ _ _ a2 [.string a2] from rfl) (Reps.one (show Kd.M Kd.string _ _ _ a3 [.string a3] from rfl) (Reps.one (show Kd.M Kd.string _ _ _ a4 [.string a4] from rfl) (Reps.none _ _)))));intro v254 w10 ho11 hb hg_ hnew_;clear hg_ hnew_;(first|rw [← Ny253.out] at ho11|(simp only [Int.reduceToNat] at ho11;rw [← Ny253.out] at ho11));have n0_:=ζa (Kd.R_lower ho11 (δs (by repeat (first|(with_reducible first|exact HB.out|apply δk|apply δi|apply δj)|exact HB.out))));have n1_:=ζa (δr (by repeat (first|(with_reducible first|exact HB.out|apply δk|apply δi|apply δj)|exact HB.out)) hb);clear HB;have HO255:=n0_;have HB:=n1_;clear n0_ n1_;clear hb ho11;obtain ⟨Ao12,co12,eo12⟩:=Kd.R_slice HO255.out;subst eo12)|((with_reducible refine δv (f:=45) rfl ?_);refine goesL_ (some 22) rfl rfl Tryz.func45 (by kernel_rfl) rfl #[.string a0,.slice A1 l1.length c1,.slice Ao12 y253.length co12] rfl (by (try simp only [δd,δe,δf]);first|done|rfl|(simp only [δg,δh];rfl)) ?_;(with_reducible refine (impl_nameCode.calls k a0 _ _ l1 _ _ y253 t256 _ ?side1 ?side2 ?side3 ?side4 A7.out).mono ?_);(case side1=>repeat (first|exact (Kd.C_below HR1.out HB.out)|(with_reducible refine Kd.C_alloc ?_ _)|(with_reducible refine Kd.C_drewN ?_ _)|(with_reducible refine Kd.C_drew ?_)));(case side2=>exact HC1.out);(case side3=>repeat (first|exact (ζg HO255.out).2.2|(with_reducible refine Kd.C_alloc ?_ _)|(with_reducible refine Kd.C_drewN ?_ _)|(with_reducible refine Kd.C_drew ?_)));(case side4=>exact (ζg HO255.out).2.1);rintro e w13 ⟨rfl,hb⟩;refine ⟨_,rfl,?_⟩;have n0_:=ζa (ζh (by (with_reducible repeat (first|apply ζd|apply ζc|apply ζe));exact HO255.out) hb);have n1_:=ζa (δr (by repeat (first|(with_reducible first|exact HB.out|apply δk|apply δi|apply δj)|exact HB.out)) hb);clear HO255;clear HB;have HO255:=n0_;have HB:=n1_;clear n0_ n1_;(try clear hb);(try clear hb2);(try clear hk);(try clear hi))|((with_reducible refine δv (f:=46) rfl ?_);refine goesL_ (some 33) rfl rfl Tryz.func46 (by kernel_rfl) rfl #[.string a0,.slice A1 l1.length c1,.agg #[.string a2,.string a3,.string a4,.int .i64 a5]] rfl (by (try simp only [δd,δe,δf]);first|done|rfl|(simp only [δg,δh];rfl)) ?_;(with_reducible refine (impl_sendTake.calls k a0 _ _ l1 a2 a3 a4 a5 t257 t260 t261 _ ?side1 ?side2 (HT0.out.below (by repeat (first|(with_reducible first|exact HB.out|apply δk|apply δi|apply δj)|exact HB.out))) A9.out).mono ?_);(case side1=>repeat (first|exact (Kd.C_below HR1.out HB.out)|(with_reducible refine Kd.C_alloc ?_ _)|(with_reducible refine Kd.C_drewN ?_ _)|(with_reducible refine Kd.C_drew ?_)));(case side2=>exact HC1.out);rintro e w14 ⟨v258,rfl,ho0,hb⟩;refine ⟨_,rfl,?_⟩;have n0_:=ζa (ζh (by (with_reducible repeat (first|apply ζd|apply ζc|apply ζe));exact HO255.out) hb);have n1_:=ζa (Kd.R_lower ho0 (δs (by repeat (first|(with_reducible first|exact HB.out|apply δk|apply δi|apply δj)|exact HB.out))));have n2_:=ζa (δr (by repeat (first|(with_reducible first|exact HB.out|apply δk|apply δi|apply δj)|exact HB.out)) hb);clear HO255;clear HB;have HO255:=n0_;have HO259:=n1_;have HB:=n2_;clear n0_ n1_ n2_;(try clear hb);(try clear hb2);(try clear hk);(try clear hi);(try clear ho0)))
  go_ret3
  exact ⟨_,by first|rfl|(simp [errW_none,errW_some] <;> rfl)|(simp [*,errW_none,errW_some] <;> rfl),by (with_reducible repeat (first|apply ζd|apply ζc|apply ζe));exact HO259.out,by repeat (first|(with_reducible first|exact HB.out|apply δk|apply δi|apply δj)|exact HB.out)⟩
 ·
  rw [if_neg c8] at H
  have c8b0:(t256 == 0)=φ:=beq_eq_false_iff_ne.mpr c8
  have c8b1:(t256 != 0)=τ:=bne_iff_ne.mpr c8
  simp only [Option.some.injEq,Prod.mk.injEq] at H
  obtain ⟨rfl,rfl,rfl⟩:=H
  go_enter Tryz.func17,Tryz.ntmps17
  go_wp2_with (first|((with_reducible refine δx (N:=21) rfl ?_);refine Kd.R_lit Kd.string _ 9 ?hg (N:=21) ?hd (xs:=([a2,a3,a4]:List ByteArray)) (inner:=[.string a2,.string a3,.string a4]) (ok:=fun _=>True) (okp:=fun _=>True) ?hr ?hp (fun _ hk=>hk) trivial (Below.refl _ _) (Nat.le_refl _) (by simp) ?_;(case hd=>rfl);(case hg=>rfl);(case hr=>first|(go_simp;done)|(go_simp;rfl));(case hp=>exact (Reps.one (show Kd.M Kd.string _ _ _ a2 [.string a2] from rfl) (Reps.one (show Kd.M Kd.string _ _ _ a3 [.string a3] from rfl) (Reps.one (show Kd.M Kd.string _ _ _ a4 [.string a4] from rfl) (Reps.none _ _)))));intro v254 w15 ho16 hb hg_ hnew_;clear hg_ hnew_;(first|rw [← Ny253.out] at ho16|(simp only [Int.reduceToNat] at ho16;rw [← Ny253.out] at ho16));have n0_:=ζa (Kd.R_lower ho16 (δs (by repeat (first|(with_reducible first|exact HB.out|apply δk|apply δi|apply δj)|exact HB.out))));have n1_:=ζa (δr (by repeat (first|(with_reducible first|exact HB.out|apply δk|apply δi|apply δj)|exact HB.out)) hb);clear HB;have HO255:=n0_;have HB:=n1_;clear n0_ n1_;clear hb ho16;obtain ⟨Ao17,co17,eo17⟩:=Kd.R_slice HO255.out;subst eo17)|((with_reducible refine δv (f:=45) rfl ?_);refine goesL_ (some 22) rfl rfl Tryz.func45 (by kernel_rfl) rfl #[.string a0,.slice A1 l1.length c1,.slice Ao17 y253.length co17] rfl (by (try simp only [δd,δe,δf]);first|done|rfl|(simp only [δg,δh];rfl)) ?_;(with_reducible refine (impl_nameCode.calls k a0 _ _ l1 _ _ y253 t256 _ ?side1 ?side2 ?side3 ?side4 A7.out).mono ?_);(case side1=>repeat (first|exact (Kd.C_below HR1.out HB.out)|(with_reducible refine Kd.C_alloc ?_ _)|(with_reducible refine Kd.C_drewN ?_ _)|(with_reducible refine Kd.C_drew ?_)));(case side2=>exact HC1.out);(case side3=>repeat (first|exact (ζg HO255.out).2.2|(with_reducible refine Kd.C_alloc ?_ _)|(with_reducible refine Kd.C_drewN ?_ _)|(with_reducible refine Kd.C_drew ?_)));(case side4=>exact (ζg HO255.out).2.1);rintro e w18 ⟨rfl,hb⟩;refine ⟨_,rfl,?_⟩;have n0_:=ζa (ζh (by (with_reducible repeat (first|apply ζd|apply ζc|apply ζe));exact HO255.out) hb);have n1_:=ζa (δr (by repeat (first|(with_reducible first|exact HB.out|apply δk|apply δi|apply δj)|exact HB.out)) hb);clear HO255;clear HB;have HO255:=n0_;have HB:=n1_;clear n0_ n1_;(try clear hb);(try clear hb2);(try clear hk);(try clear hi)))
  go_ret3
  exact ⟨_,by first|rfl|(simp [errW_none,errW_some] <;> rfl)|(simp [*,errW_none,errW_some] <;> rfl),by first|exact Kd.R_nil _ _ _ _ _|exact Kd.N_nil _ _ _ _ _|exact Kd.V_nil _ _ _ _ _|exact Kd.Q_nil _ _ _ _ _|exact Kd.S_nil _ _ _ _ _,by repeat (first|(with_reducible first|exact HB.out|apply δk|apply δi|apply δj)|exact HB.out)⟩


open Go.Proofs.YtabmfhnhmoiljaaGreatDoorW.PrintWords renaming gate_dst → δx, box_event → δz, below_step → δr, below_alloc → δk, pw_below_drewN → δi, below_drew1 → δj, below_size → δs, blk_drewN → δn, blk_drew → δp, blk_alloc → δo, below_set → δq, blk_cell → δl, blk_frozen → δm

/-! ### laws_eqPair: function 47 -/
def laws_eqPair.f (a0_0:ByteArray) (a0_1:ByteArray) (a1_0:ByteArray) (a1_1:ByteArray):Option (Bool):=if a0_0.toList=a1_0.toList then (if a0_1.toList=a1_1.toList then (some τ) else (some φ)) else (some φ)
set_option maxHeartbeats 8000000 in
set_option maxRecDepth 100000 in
theorem laws_eqPair.calls (a0_0:ByteArray) (a0_1:ByteArray) (a1_0:ByteArray) (a1_1:ByteArray) (r:Bool) (w:World) (h:laws_eqPair.f a0_0 a0_1 a1_0 a1_1=some r) :
  Calls Tryz.prog 47 #[.agg #[.string a0_0,.string a0_1],.agg #[.string a1_0,.string a1_1]] w fun e w'=>e = .returned (.bool r)∧Below w.heap.size w w':=by
 have hu51:=Tryz.underlying51
 have HB:=ζa (Below.refl w.heap.size w)
 have H:(if a0_0.toList=a1_0.toList then (if a0_1.toList=a1_1.toList then (some τ) else (some φ)) else (some φ))=some r:=h
 clear h
 by_cases c3:a0_0.toList=a1_0.toList
 ·
  rw [if_pos c3] at H
  have c3b0:(a0_0.toList == a1_0.toList)=τ:=beq_iff_eq.mpr c3
  have c3b1:(a0_0.toList != a1_0.toList)=φ:=bne_eq_false_iff_eq.mpr c3
  clear c3
  by_cases c4:a0_1.toList=a1_1.toList
  ·
   rw [if_pos c4] at H
   have c4b0:(a0_1.toList == a1_1.toList)=τ:=beq_iff_eq.mpr c4
   have c4b1:(a0_1.toList != a1_1.toList)=φ:=bne_eq_false_iff_eq.mpr c4
   clear c4
   obtain rfl:=Option.some.inj H
   go_enter Tryz.func47,Tryz.ntmps47
   go_wp2_with (first|((with_reducible refine δx (N:=2) rfl ?_);refine δz ?hg (N:=2) ?hd (cs:=#[.string a0_0,.string a0_1]) (t:=51) ?hr ?_;(case hd=>rfl);(case hg=>rfl);(case hr=>first|(go_simp;done)|(go_simp;rfl));intro gb262 hg w5 hbox hb;have n0_:=ζa (δr (by repeat (first|(with_reducible first|exact HB.out|apply δk|apply δi|apply δj)|exact HB.out)) hb);have n1_:=ζa (hbox);have n2_:=ζa ((by rw [hg];exact (δs (by repeat (first|(with_reducible first|exact HB.out|apply δk|apply δi|apply δj)|exact HB.out))):w.heap.size≤gb262));have n3_:=ζa ((by rw [hg];exact (δs (by repeat (first|(with_reducible first|exact HB.out|apply δk|apply δi|apply δj)|exact HB.out))):w.heap.size≤gb262));clear HB;have HB:=n0_;have BK262:=n1_;have GW262:=n2_;have GE262:=n3_;clear n0_ n1_ n2_ n3_;clear hb hbox hg)|((with_reducible refine δx (N:=3) rfl ?_);refine δz ?hg (N:=3) ?hd (cs:=#[.string a1_0,.string a1_1]) (t:=51) ?hr ?_;(case hd=>rfl);(case hg=>rfl);(case hr=>first|(go_simp;done)|(go_simp;rfl));intro gb263 hg w6 hbox hb;have n0_:=ζa (blk_below (g:=gb262) (o:=.cells #[.string a0_0,.string a0_1] 51 (0,0)) (by (with_reducible repeat (first|refine δn ?_ _|refine δp ?_|refine δo ?_ _));exact BK262.out) hb);have n1_:=ζa (δr (by repeat (first|(with_reducible first|exact HB.out|apply δk|apply δi|apply δj|refine δq ?_ GE262.out)|exact HB.out)) hb);have n2_:=ζa (hbox);have n3_:=ζa ((by rw [hg];exact (δs (by repeat (first|(with_reducible first|exact HB.out|apply δk|apply δi|apply δj|refine δq ?_ GE262.out)|exact HB.out))):w.heap.size≤gb263));have n4_:=ζa ((by rw [hg];exact (δs (by repeat (first|(with_reducible first|exact HB.out|apply δk|apply δi|apply δj|refine δq ?_ GE262.out)|exact HB.out))):w.heap.size≤gb263));have n5_:=ζa ((by rw [hg];exact Nat.ne_of_lt (blk_lt (g:=gb262) (o:=.cells #[.string a0_0,.string a0_1] 51 (0,0)) (by (with_reducible repeat (first|refine δn ?_ _|refine δp ?_|refine δo ?_ _));exact BK262.out)):gb262≠gb263));have n6_:=ζa ((by rw [hg];exact Nat.ne_of_gt (blk_lt (g:=gb262) (o:=.cells #[.string a0_0,.string a0_1] 51 (0,0)) (by (with_reducible repeat (first|refine δn ?_ _|refine δp ?_|refine δo ?_ _));exact BK262.out)):gb263≠gb262));clear BK262;clear HB;have BK262:=n0_;have HB:=n1_;have BK263:=n2_;have GW263:=n3_;have GE263:=n4_;have NB262_263:=n5_;have NB263_262:=n6_;clear n0_ n1_ n2_ n3_ n4_ n5_ n6_;clear hb hbox hg;have hnb7:=NB262_263.out;have hnc7:=NB263_262.out;have hcz8_0:w6.cell? ⟨gb262,0,none⟩=some (.string a0_0):=(δl BK262.out 0).trans rfl;have hcz8_1:w6.cell? ⟨gb262,1,none⟩=some (.string a0_1):=(δl BK262.out 1).trans rfl;have hfz8_0:=δm BK262.out 0;have hfz8_1:=δm BK262.out 1;have hcz9_0:w6.cell? ⟨gb263,0,none⟩=some (.string a1_0):=(δl BK263.out 0).trans rfl;have hcz9_1:w6.cell? ⟨gb263,1,none⟩=some (.string a1_1):=(δl BK263.out 1).trans rfl;have hfz9_0:=δm BK263.out 0;have hfz9_1:=δm BK263.out 1))
   go_ret
   exact ⟨by first|rfl|(simp [errW_none,errW_some] <;> rfl)|(simp [*,errW_none,errW_some] <;> rfl),by repeat (first|(with_reducible first|exact HB.out|apply δk|apply δi|apply δj|refine δq ?_ GE262.out|refine δq ?_ GE263.out)|exact HB.out)⟩
  ·
   rw [if_neg c4] at H
   have c4b0:(a0_1.toList == a1_1.toList)=φ:=beq_eq_false_iff_ne.mpr c4
   have c4b1:(a0_1.toList != a1_1.toList)=τ:=bne_iff_ne.mpr c4
   obtain rfl:=Option.some.inj H
   go_enter Tryz.func47,Tryz.ntmps47
   go_wp2_with (first|((with_reducible refine δx (N:=2) rfl ?_);refine δz ?hg (N:=2) ?hd (cs:=#[.string a0_0,.string a0_1]) (t:=51) ?hr ?_;(case hd=>rfl);(case hg=>rfl);(case hr=>first|(go_simp;done)|(go_simp;rfl));intro gb262 hg w10 hbox hb;have n0_:=ζa (δr (by repeat (first|(with_reducible first|exact HB.out|apply δk|apply δi|apply δj)|exact HB.out)) hb);have n1_:=ζa (hbox);have n2_:=ζa ((by rw [hg];exact (δs (by repeat (first|(with_reducible first|exact HB.out|apply δk|apply δi|apply δj)|exact HB.out))):w.heap.size≤gb262));have n3_:=ζa ((by rw [hg];exact (δs (by repeat (first|(with_reducible first|exact HB.out|apply δk|apply δi|apply δj)|exact HB.out))):w.heap.size≤gb262));clear HB;have HB:=n0_;have BK262:=n1_;have GW262:=n2_;have GE262:=n3_;clear n0_ n1_ n2_ n3_;clear hb hbox hg)|((with_reducible refine δx (N:=3) rfl ?_);refine δz ?hg (N:=3) ?hd (cs:=#[.string a1_0,.string a1_1]) (t:=51) ?hr ?_;(case hd=>rfl);(case hg=>rfl);(case hr=>first|(go_simp;done)|(go_simp;rfl));intro gb263 hg w11 hbox hb;have n0_:=ζa (blk_below (g:=gb262) (o:=.cells #[.string a0_0,.string a0_1] 51 (0,0)) (by (with_reducible repeat (first|refine δn ?_ _|refine δp ?_|refine δo ?_ _));exact BK262.out) hb);have n1_:=ζa (δr (by repeat (first|(with_reducible first|exact HB.out|apply δk|apply δi|apply δj|refine δq ?_ GE262.out)|exact HB.out)) hb);have n2_:=ζa (hbox);have n3_:=ζa ((by rw [hg];exact (δs (by repeat (first|(with_reducible first|exact HB.out|apply δk|apply δi|apply δj|refine δq ?_ GE262.out)|exact HB.out))):w.heap.size≤gb263));have n4_:=ζa ((by rw [hg];exact (δs (by repeat (first|(with_reducible first|exact HB.out|apply δk|apply δi|apply δj|refine δq ?_ GE262.out)|exact HB.out))):w.heap.size≤gb263));have n5_:=ζa ((by rw [hg];exact Nat.ne_of_lt (blk_lt (g:=gb262) (o:=.cells #[.string a0_0,.string a0_1] 51 (0,0)) (by (with_reducible repeat (first|refine δn ?_ _|refine δp ?_|refine δo ?_ _));exact BK262.out)):gb262≠gb263));have n6_:=ζa ((by rw [hg];exact Nat.ne_of_gt (blk_lt (g:=gb262) (o:=.cells #[.string a0_0,.string a0_1] 51 (0,0)) (by (with_reducible repeat (first|refine δn ?_ _|refine δp ?_|refine δo ?_ _));exact BK262.out)):gb263≠gb262));clear BK262;clear HB;have BK262:=n0_;have HB:=n1_;have BK263:=n2_;have GW263:=n3_;have GE263:=n4_;have NB262_263:=n5_;have NB263_262:=n6_;clear n0_ n1_ n2_ n3_ n4_ n5_ n6_;clear hb hbox hg;have hnb12:=NB262_263.out;have hnc12:=NB263_262.out;have hcz13_0:w11.cell? ⟨gb262,0,none⟩=some (.string a0_0):=(δl BK262.out 0).trans rfl;have hcz13_1:w11.cell? ⟨gb262,1,none⟩=some (.string a0_1):=(δl BK262.out 1).trans rfl;have hfz13_0:=δm BK262.out 0;have hfz13_1:=δm BK262.out 1;have hcz14_0:w11.cell? ⟨gb263,0,none⟩=some (.string a1_0):=(δl BK263.out 0).trans rfl;have hcz14_1:w11.cell? ⟨gb263,1,none⟩=some (.string a1_1):=(δl BK263.out 1).trans rfl;have hfz14_0:=δm BK263.out 0;have hfz14_1:=δm BK263.out 1))
   go_ret
   exact ⟨by first|rfl|(simp [errW_none,errW_some] <;> rfl)|(simp [*,errW_none,errW_some] <;> rfl),by repeat (first|(with_reducible first|exact HB.out|apply δk|apply δi|apply δj|refine δq ?_ GE262.out|refine δq ?_ GE263.out)|exact HB.out)⟩
 ·
  rw [if_neg c3] at H
  have c3b0:(a0_0.toList == a1_0.toList)=φ:=beq_eq_false_iff_ne.mpr c3
  have c3b1:(a0_0.toList != a1_0.toList)=τ:=bne_iff_ne.mpr c3
  obtain rfl:=Option.some.inj H
  go_enter Tryz.func47,Tryz.ntmps47
  go_wp2_with (first|((with_reducible refine δx (N:=2) rfl ?_);refine δz ?hg (N:=2) ?hd (cs:=#[.string a0_0,.string a0_1]) (t:=51) ?hr ?_;(case hd=>rfl);(case hg=>rfl);(case hr=>first|(go_simp;done)|(go_simp;rfl));intro gb262 hg w15 hbox hb;have n0_:=ζa (δr (by repeat (first|(with_reducible first|exact HB.out|apply δk|apply δi|apply δj)|exact HB.out)) hb);have n1_:=ζa (hbox);have n2_:=ζa ((by rw [hg];exact (δs (by repeat (first|(with_reducible first|exact HB.out|apply δk|apply δi|apply δj)|exact HB.out))):w.heap.size≤gb262));have n3_:=ζa ((by rw [hg];exact (δs (by repeat (first|(with_reducible first|exact HB.out|apply δk|apply δi|apply δj)|exact HB.out))):w.heap.size≤gb262));clear HB;have HB:=n0_;have BK262:=n1_;have GW262:=n2_;have GE262:=n3_;clear n0_ n1_ n2_ n3_;clear hb hbox hg)|((with_reducible refine δx (N:=3) rfl ?_);refine δz ?hg (N:=3) ?hd (cs:=#[.string a1_0,.string a1_1]) (t:=51) ?hr ?_;(case hd=>rfl);(case hg=>rfl);(case hr=>first|(go_simp;done)|(go_simp;rfl));intro gb263 hg w16 hbox hb;have n0_:=ζa (blk_below (g:=gb262) (o:=.cells #[.string a0_0,.string a0_1] 51 (0,0)) (by (with_reducible repeat (first|refine δn ?_ _|refine δp ?_|refine δo ?_ _));exact BK262.out) hb);have n1_:=ζa (δr (by repeat (first|(with_reducible first|exact HB.out|apply δk|apply δi|apply δj|refine δq ?_ GE262.out)|exact HB.out)) hb);have n2_:=ζa (hbox);have n3_:=ζa ((by rw [hg];exact (δs (by repeat (first|(with_reducible first|exact HB.out|apply δk|apply δi|apply δj|refine δq ?_ GE262.out)|exact HB.out))):w.heap.size≤gb263));have n4_:=ζa ((by rw [hg];exact (δs (by repeat (first|(with_reducible first|exact HB.out|apply δk|apply δi|apply δj|refine δq ?_ GE262.out)|exact HB.out))):w.heap.size≤gb263));have n5_:=ζa ((by rw [hg];exact Nat.ne_of_lt (blk_lt (g:=gb262) (o:=.cells #[.string a0_0,.string a0_1] 51 (0,0)) (by (with_reducible repeat (first|refine δn ?_ _|refine δp ?_|refine δo ?_ _));exact BK262.out)):gb262≠gb263));have n6_:=ζa ((by rw [hg];exact Nat.ne_of_gt (blk_lt (g:=gb262) (o:=.cells #[.string a0_0,.string a0_1] 51 (0,0)) (by (with_reducible repeat (first|refine δn ?_ _|refine δp ?_|refine δo ?_ _));exact BK262.out)):gb263≠gb262));clear BK262;clear HB;have BK262:=n0_;have HB:=n1_;have BK263:=n2_;have GW263:=n3_;have GE263:=n4_;have NB262_263:=n5_;have NB263_262:=n6_;clear n0_ n1_ n2_ n3_ n4_ n5_ n6_;clear hb hbox hg;have hnb17:=NB262_263.out;have hnc17:=NB263_262.out;have hcz18_0:w16.cell? ⟨gb262,0,none⟩=some (.string a0_0):=(δl BK262.out 0).trans rfl;have hcz18_1:w16.cell? ⟨gb262,1,none⟩=some (.string a0_1):=(δl BK262.out 1).trans rfl;have hfz18_0:=δm BK262.out 0;have hfz18_1:=δm BK262.out 1;have hcz19_0:w16.cell? ⟨gb263,0,none⟩=some (.string a1_0):=(δl BK263.out 0).trans rfl;have hcz19_1:w16.cell? ⟨gb263,1,none⟩=some (.string a1_1):=(δl BK263.out 1).trans rfl;have hfz19_0:=δm BK263.out 0;have hfz19_1:=δm BK263.out 1))
  go_ret
  exact ⟨by first|rfl|(simp [errW_none,errW_some] <;> rfl)|(simp [*,errW_none,errW_some] <;> rfl),by repeat (first|(with_reducible first|exact HB.out|apply δk|apply δi|apply δj|refine δq ?_ GE262.out|refine δq ?_ GE263.out)|exact HB.out)⟩


open Go.Proofs.YtabmfhnhmoiljaaGreatDoorW.PrintWords renaming below_alloc → δk, pw_below_drewN → δi, below_drew1 → δj, below_step → δr

/-! ### laws_eqPairS: function 18 -/
def laws_eqPairS.l0:Nat→List (S51)→List (S51)→Int→Option (Bool)
 | 0,_,_,_=>none
 | k+1,x0,x1,x5=>if x5<(x0.length:Int) then (if 0≤x5 then (if x5<(x1.length:Int) then ((laws_eqPair.f ((rd_T51 x0 x5).f0) ((rd_T51 x0 x5).f1) ((rd_T51 x1 x5).f0) ((rd_T51 x1 x5).f1)).bind fun t266=>(if t266=τ then (laws_eqPairS.l0 k x0 x1 (ζm (x5+1))) else (some φ))) else (none)) else (none)) else (some τ)
def laws_eqPairS.f (k:Nat) (l0:List (S51)) (l1:List (S51)):Option (Bool):=if (l0.length:Int)=(l1.length:Int) then (laws_eqPairS.l0 k l0 l1 0) else (some φ)
def laws_eqPairS.T6:Bool × List (List Nat × List Nat):=(τ,[([],[]),([],[]),([0,1],[0,1]),([2],[2]),([],[]),([],[]),([4,5],[4,5]),([6],[6]),([3,7],[3,7]),([8],[8])])
def laws_eqPairS.B6:List Nat:=[0,0,3,7,0,0,48,112,255,511]
theorem laws_eqPairS.tab6:rtab .any (opsOf Tryz.f18 6)=laws_eqPairS.T6:=by kernel_rfl
theorem laws_eqPairS.bits6:waitsOk laws_eqPairS.T6.2 laws_eqPairS.B6=τ:=by kernel_rfl
set_option maxHeartbeats 8000000 in
set_option maxRecDepth 100000 in
theorem laws_eqPairS.calls (k:Nat) (A0:Option Addr) (c0:Nat) (l0:List (S51)) (A1:Option Addr) (c1:Nat) (l1:List (S51)) (r:Bool) (w:World) (hr0:Kd.C k51 w A0 l0.length l0) (hc0:l0.length≤c0) (hr1:Kd.C k51 w A1 l1.length l1) (hc1:l1.length≤c1) (h:laws_eqPairS.f k l0 l1=some r) :
  Calls Tryz.prog 18 #[.slice A0 l0.length c0,.slice A1 l1.length c1] w fun e w'=>e = .returned (.bool r)∧Below w.heap.size w w':=by
 have hu51:=Tryz.underlying51
 have HR0:=ζa hr0
 have HC0:=ζa hc0
 clear hr0 hc0
 have HR1:=ζa hr1
 have HC1:=ζa hc1
 clear hr1 hc1
 have HB:=ζa (Below.refl w.heap.size w)
 have H:(if (l0.length:Int)=(l1.length:Int) then (laws_eqPairS.l0 k l0 l1 0) else (some φ))=some r:=h
 clear h
 by_cases c3:(l0.length:Int)=(l1.length:Int)
 ·
  rw [if_pos c3] at H
  have c3b0:((l0.length:Int) == (l1.length:Int))=τ:=beq_iff_eq.mpr c3
  have c3b1:((l0.length:Int) != (l1.length:Int))=φ:=bne_eq_false_iff_eq.mpr c3
  have c3b2:(l0.length == l1.length)=τ:=by first|simpa using c3|(simp at c3 ⊢;omega)
  clear c3
  have H':=ζa H
  clear H
  go_enter Tryz.func18,Tryz.ntmps18
  go_wp2
  go_loopg [5] k (fun kq v5 w' => ∃ (x5_1:Int),v5 = .int .i64 x5_1∧Aside0 (laws_eqPairS.l0 kq l0 l1 x5_1=some r)∧Aside0 (kq≤k)∧Aside0 (Below w.heap.size w w'))
  case atStart=>exact ⟨(0),(by first|rfl|(simp;done)|(simp [*];done)),H',⟨Nat.le_refl _⟩,⟨by repeat (first|(with_reducible first|exact HB.out|apply δk|apply δi|apply δj)|exact HB.out)⟩⟩
  case round =>
   clear H'
   try clear c1
   try clear p2
   try clear c3
   try clear c3b0
   try clear c3b1
   try clear c3b2
   obtain ⟨x5_1,rfl,HA,HK1,HB⟩:=hrel
   cases gk with
   | zero=>exact absurd HA.out (by simp [laws_eqPairS.l0])
   | succ k1 =>
    have H:=HA.out
    clear HA
    simp only [laws_eqPairS.l0] at H
    by_cases c4:x5_1<(l0.length:Int)
    ·
     rw [if_pos c4] at H
     have c4b0:decide (x5_1<(l0.length:Int))=τ:=decide_eq_true c4
     clear c4
     by_cases c5:0≤x5_1
     ·
      rw [if_pos c5] at H
      have c5b0:decide (0≤x5_1)=τ:=decide_eq_true c5
      clear c5
      by_cases c6:x5_1<(l1.length:Int)
      ·
       rw [if_pos c6] at H
       have c6b0:decide (x5_1<(l1.length:Int))=τ:=decide_eq_true c6
       clear c6
       replace H:=Option.bind_eq_some_iff.mp H
       obtain ⟨t266,A70,H⟩:=H
       replace H:(if t266=τ then (laws_eqPairS.l0 k1 l0 l1 (ζm (x5_1+1))) else (some φ))=some r:=H
       have A7:=ζa A70
       clear A70
       by_cases c8:t266=τ
       ·
        subst c8
        have H1:(laws_eqPairS.l0 k1 l0 l1 (ζm (x5_1+1)))=some r:=by rw [if_pos rfl] at H;exact H
        clear H
        have H:=H1
        clear H1
        have H':=ζa H
        clear H
        try go_wp2
        have n0_:=ζa (δj HB.out)
        clear HB
        have HB:=n0_
        clear n0_
        have p264:0≤(x5_1:Int):=of_decide_eq_true (by first|(with_reducible assumption)|assumption)
        have q264:x5_1<(l0.length:Int):=of_decide_eq_true (by first|(with_reducible assumption)|assumption)
        obtain ⟨ad264,e264,hx264_0,hx264_1⟩:=at_T51 HR0.out x5_1 p264 q264
        have hw264_1:=hx264_1
        have hw264_0:=hx264_0
        cases e264
        replace hx264_0:=(HB.out.cell (World.block_lt_of_cell? w _ hx264_0)).trans hx264_0
        replace hx264_1:=(HB.out.cell (World.block_lt_of_cell? w _ hx264_1)).trans hx264_1
        replace p264:=eq_true p264
        replace q264:=eq_true q264
        have p265:0≤(x5_1:Int):=of_decide_eq_true (by first|(with_reducible assumption)|assumption)
        have q265:x5_1<(l1.length:Int):=of_decide_eq_true (by first|(with_reducible assumption)|assumption)
        obtain ⟨ad265,e265,hx265_0,hx265_1⟩:=at_T51 HR1.out x5_1 p265 q265
        have hw265_1:=hx265_1
        have hw265_0:=hx265_0
        cases e265
        replace hx265_0:=(HB.out.cell (World.block_lt_of_cell? w _ hx265_0)).trans hx265_0
        replace hx265_1:=(HB.out.cell (World.block_lt_of_cell? w _ hx265_1)).trans hx265_1
        replace p265:=eq_true p265
        replace q265:=eq_true q265
        refine start_ (n:=10) (S:=fun w'=>w'.cell? (ad264.add ((x5_1).toNat * 2))=some (.string ((rd_T51 l0 x5_1).f0))∧w'.cell? ⟨(ad264.add ((x5_1).toNat * 2)).block,(ad264.add ((x5_1).toNat * 2)).off+1,none⟩=some (.string ((rd_T51 l0 x5_1).f1))∧w'.cell? (ad265.add ((x5_1).toNat * 2))=some (.string ((rd_T51 l1 x5_1).f0))∧w'.cell? ⟨(ad265.add ((x5_1).toNat * 2)).block,(ad265.add ((x5_1).toNat * 2)).off+1,none⟩=some (.string ((rd_T51 l1 x5_1).f1))) (ds:=[]) #[φ,φ,φ,φ,φ,φ,φ,φ,φ,φ] (by kernel_rfl) rfl rfl ⟨((HB.out.cell (World.block_lt_of_cell? w _ hw264_0)).trans hw264_0),((HB.out.cell (World.block_lt_of_cell? w _ hw264_1)).trans hw264_1),((HB.out.cell (World.block_lt_of_cell? w _ hw265_0)).trans hw265_0),((HB.out.cell (World.block_lt_of_cell? w _ hw265_1)).trans hw265_1)⟩ (fun hHeld => ?_);refine with_tabW laws_eqPairS.tab6 laws_eqPairS.bits6 (fun HT_ HW_ => ?_)
        generalize wr.drew=w9 at HB hx264_0 hx264_1 hx265_0 hx265_1 hHeld ⊢
        refine ζk (i:=0) (N:=some 17) (v:=?_) (a':=?_) #[τ,φ,φ,φ,φ,φ,φ,φ,φ,φ] rfl rfl (ζj HT_.out (by kernel_rfl)) (fun _ _ _ h=>h) (Or.inl ⟨by rfl,?_⟩) ?_ ?_
        rotate_left
        · intro w';go_simp;with_reducible rfl
        rotate_left
        · simp only [ζl,δa,δb,δc,i64_w,i32_w];rfl
        refine ζk (i:=1) (N:=some 18) (v:=?_) (a':=?_) #[τ,τ,φ,φ,φ,φ,φ,φ,φ,φ] rfl rfl (ζj HT_.out (by kernel_rfl)) (fun _ _ _ h=>h) (Or.inl ⟨by rfl,?_⟩) ?_ ?_
        rotate_left
        · intro w';go_simp;with_reducible rfl
        rotate_left
        · simp only [ζl,δa,δb,δc,i64_w,i32_w];rfl
        refine ζk (i:=2) (N:=some 19) (v:=?_) (a':=?_) #[τ,τ,τ,φ,φ,φ,φ,φ,φ,φ] rfl rfl (ζj HT_.out (by kernel_rfl)) (fun _ _ _ h=>h) (Or.inl ⟨by rfl,?_⟩) ?_ ?_
        rotate_left
        · intro w';go_simp;with_reducible rfl
        rotate_left
        · simp only [ζl,δa,δb,δc,i64_w,i32_w];rfl
        refine ζk (i:=4) (N:=some 21) (v:=?_) (a':=?_) #[τ,τ,τ,φ,τ,φ,φ,φ,φ,φ] rfl rfl (ζj HT_.out (by kernel_rfl)) (fun _ _ _ h=>h) (Or.inl ⟨by rfl,?_⟩) ?_ ?_
        rotate_left
        · intro w';go_simp;with_reducible rfl
        rotate_left
        · simp only [ζl,δa,δb,δc,i64_w,i32_w];rfl
        refine ζk (i:=5) (N:=some 22) (v:=?_) (a':=?_) #[τ,τ,τ,φ,τ,τ,φ,φ,φ,φ] rfl rfl (ζj HT_.out (by kernel_rfl)) (fun _ _ _ h=>h) (Or.inl ⟨by rfl,?_⟩) ?_ ?_
        rotate_left
        · intro w';go_simp;with_reducible rfl
        rotate_left
        · simp only [ζl,δa,δb,δc,i64_w,i32_w];rfl
        refine ζk (i:=6) (N:=some 23) (v:=?_) (a':=?_) #[τ,τ,τ,φ,τ,τ,τ,φ,φ,φ] rfl rfl (ζj HT_.out (by kernel_rfl)) (fun _ _ _ h=>h) (Or.inl ⟨by rfl,?_⟩) ?_ ?_
        rotate_left
        · intro w';go_simp;with_reducible rfl
        rotate_left
        · simp only [ζl,δa,δb,δc,i64_w,i32_w];rfl
        refine take_ (i:=3) (N:=some 20) (v:=?_) (a':=?_) #[τ,τ,τ,τ,τ,τ,τ,φ,φ,φ] rfl rfl (take_ofW HT_.out HW_.out (by kernel_rfl)) (fun _ _ _ h=>h) (Or.inl ⟨by rfl,?_⟩) hHeld ?_ ?_
        rotate_left
        · rintro w' ⟨s0,s1,s2,s3⟩;go_simp;with_reducible rfl
        rotate_left
        · simp only [ζl,δa,δb,δc,i64_w,i32_w];rfl
        refine take_ (i:=7) (N:=some 24) (v:=?_) (a':=?_) #[τ,τ,τ,τ,τ,τ,τ,τ,φ,φ] rfl rfl (take_ofW HT_.out HW_.out (by kernel_rfl)) (fun _ _ _ h=>h) (Or.inl ⟨by rfl,?_⟩) hHeld ?_ ?_
        rotate_left
        · rintro w' ⟨s0,s1,s2,s3⟩;go_simp;with_reducible rfl
        rotate_left
        · simp only [ζl,δa,δb,δc,i64_w,i32_w];rfl
        refine one_ (i:=8) (N:=some 25) #[τ,τ,τ,τ,τ,τ,τ,τ,τ,φ] rfl rfl (one_of HT_.out (by kernel_rfl)) (by decide) (fun K hK => ?_)
        refine goes_ Tryz.func47 (by kernel_rfl) rfl #[.agg #[.string ((rd_T51 l0 x5_1).f0),.string ((rd_T51 l0 x5_1).f1)],.agg #[.string ((rd_T51 l1 x5_1).f0),.string ((rd_T51 l1 x5_1).f1)]] (by rfl) rfl rfl (by (try simp only [δd,δe,δf]);first|done|rfl|(simp only [δg,δh];rfl)) ?_
        with_reducible refine (laws_eqPair.calls ((rd_T51 l0 x5_1).f0) ((rd_T51 l0 x5_1).f1) ((rd_T51 l1 x5_1).f0) ((rd_T51 l1 x5_1).f1) τ _ A7.out).mono ?_
        rintro e w10 ⟨rfl,hb⟩
        refine ⟨_,rfl,?_⟩
        have n0_:=ζa (δr (by repeat (first|(with_reducible first|exact HB.out|apply δk|apply δi|apply δj)|exact HB.out)) hb)
        clear HB
        have HB:=n0_
        clear n0_
        (try clear hb)
        (try clear hb2)
        (try clear hk)
        (try clear hi)
        refine hK.out _ _ ⟨((HB.out.cell (World.block_lt_of_cell? w _ hw264_0)).trans hw264_0),((HB.out.cell (World.block_lt_of_cell? w _ hw264_1)).trans hw264_1),((HB.out.cell (World.block_lt_of_cell? w _ hw265_0)).trans hw265_0),((HB.out.cell (World.block_lt_of_cell? w _ hw265_1)).trans hw265_1)⟩ (fun hHeld => ?_)
        clear hK K
        refine norm_ (a':=?_) ?_ ?_
        rotate_left
        ·
         show ζl _ (some 25) _=_
         simp only [ζl,δa,δb,δc,i64_w,i32_w];rfl
        refine ζk (i:=9) (N:=some 26) (v:=?_) (a':=?_) #[τ,τ,τ,τ,τ,τ,τ,τ,τ,τ] rfl rfl (ζj HT_.out (by kernel_rfl)) (fun _ _ _ h=>h) (Or.inl ⟨by rfl,?_⟩) ?_ ?_
        rotate_left
        · intro w';go_simp;with_reducible rfl
        rotate_left
        · simp only [ζl,δa,δb,δc,i64_w,i32_w];rfl
        refine done_ (done_of HT_.out (by kernel_rfl)) ?_
        try go_wp2
        go_roundg k1
        case measure=>have:=HK1.out;omega
        case rel=>exact ⟨(ζm (x5_1+1)),(by first|rfl|(simp;done)|(simp [*];done)),H',⟨by have:=HK1.out;omega⟩,⟨by repeat (first|(with_reducible first|exact HB.out|apply δk|apply δi|apply δj)|exact HB.out)⟩⟩
       ·
        replace c8:=Bool.eq_false_iff.mpr c8
        subst c8
        have H1:(some φ)=some r:=by rw [if_neg (show ¬ (φ=τ) by decide)] at H;exact H
        clear H
        have H:=H1
        clear H1
        obtain rfl:=Option.some.inj H
        try go_wp2
        have n0_:=ζa (δj HB.out)
        clear HB
        have HB:=n0_
        clear n0_
        have p264:0≤(x5_1:Int):=of_decide_eq_true (by first|(with_reducible assumption)|assumption)
        have q264:x5_1<(l0.length:Int):=of_decide_eq_true (by first|(with_reducible assumption)|assumption)
        obtain ⟨ad264,e264,hx264_0,hx264_1⟩:=at_T51 HR0.out x5_1 p264 q264
        have hw264_1:=hx264_1
        have hw264_0:=hx264_0
        cases e264
        replace hx264_0:=(HB.out.cell (World.block_lt_of_cell? w _ hx264_0)).trans hx264_0
        replace hx264_1:=(HB.out.cell (World.block_lt_of_cell? w _ hx264_1)).trans hx264_1
        replace p264:=eq_true p264
        replace q264:=eq_true q264
        have p265:0≤(x5_1:Int):=of_decide_eq_true (by first|(with_reducible assumption)|assumption)
        have q265:x5_1<(l1.length:Int):=of_decide_eq_true (by first|(with_reducible assumption)|assumption)
        obtain ⟨ad265,e265,hx265_0,hx265_1⟩:=at_T51 HR1.out x5_1 p265 q265
        have hw265_1:=hx265_1
        have hw265_0:=hx265_0
        cases e265
        replace hx265_0:=(HB.out.cell (World.block_lt_of_cell? w _ hx265_0)).trans hx265_0
        replace hx265_1:=(HB.out.cell (World.block_lt_of_cell? w _ hx265_1)).trans hx265_1
        replace p265:=eq_true p265
        replace q265:=eq_true q265
        refine start_ (n:=10) (S:=fun w'=>w'.cell? (ad264.add ((x5_1).toNat * 2))=some (.string ((rd_T51 l0 x5_1).f0))∧w'.cell? ⟨(ad264.add ((x5_1).toNat * 2)).block,(ad264.add ((x5_1).toNat * 2)).off+1,none⟩=some (.string ((rd_T51 l0 x5_1).f1))∧w'.cell? (ad265.add ((x5_1).toNat * 2))=some (.string ((rd_T51 l1 x5_1).f0))∧w'.cell? ⟨(ad265.add ((x5_1).toNat * 2)).block,(ad265.add ((x5_1).toNat * 2)).off+1,none⟩=some (.string ((rd_T51 l1 x5_1).f1))) (ds:=[]) #[φ,φ,φ,φ,φ,φ,φ,φ,φ,φ] (by kernel_rfl) rfl rfl ⟨((HB.out.cell (World.block_lt_of_cell? w _ hw264_0)).trans hw264_0),((HB.out.cell (World.block_lt_of_cell? w _ hw264_1)).trans hw264_1),((HB.out.cell (World.block_lt_of_cell? w _ hw265_0)).trans hw265_0),((HB.out.cell (World.block_lt_of_cell? w _ hw265_1)).trans hw265_1)⟩ (fun hHeld => ?_);refine with_tabW laws_eqPairS.tab6 laws_eqPairS.bits6 (fun HT_ HW_ => ?_)
        generalize wr.drew=w11 at HB hx264_0 hx264_1 hx265_0 hx265_1 hHeld ⊢
        refine ζk (i:=0) (N:=some 17) (v:=?_) (a':=?_) #[τ,φ,φ,φ,φ,φ,φ,φ,φ,φ] rfl rfl (ζj HT_.out (by kernel_rfl)) (fun _ _ _ h=>h) (Or.inl ⟨by rfl,?_⟩) ?_ ?_
        rotate_left
        · intro w';go_simp;with_reducible rfl
        rotate_left
        · simp only [ζl,δa,δb,δc,i64_w,i32_w];rfl
        refine ζk (i:=1) (N:=some 18) (v:=?_) (a':=?_) #[τ,τ,φ,φ,φ,φ,φ,φ,φ,φ] rfl rfl (ζj HT_.out (by kernel_rfl)) (fun _ _ _ h=>h) (Or.inl ⟨by rfl,?_⟩) ?_ ?_
        rotate_left
        · intro w';go_simp;with_reducible rfl
        rotate_left
        · simp only [ζl,δa,δb,δc,i64_w,i32_w];rfl
        refine ζk (i:=2) (N:=some 19) (v:=?_) (a':=?_) #[τ,τ,τ,φ,φ,φ,φ,φ,φ,φ] rfl rfl (ζj HT_.out (by kernel_rfl)) (fun _ _ _ h=>h) (Or.inl ⟨by rfl,?_⟩) ?_ ?_
        rotate_left
        · intro w';go_simp;with_reducible rfl
        rotate_left
        · simp only [ζl,δa,δb,δc,i64_w,i32_w];rfl
        refine ζk (i:=4) (N:=some 21) (v:=?_) (a':=?_) #[τ,τ,τ,φ,τ,φ,φ,φ,φ,φ] rfl rfl (ζj HT_.out (by kernel_rfl)) (fun _ _ _ h=>h) (Or.inl ⟨by rfl,?_⟩) ?_ ?_
        rotate_left
        · intro w';go_simp;with_reducible rfl
        rotate_left
        · simp only [ζl,δa,δb,δc,i64_w,i32_w];rfl
        refine ζk (i:=5) (N:=some 22) (v:=?_) (a':=?_) #[τ,τ,τ,φ,τ,τ,φ,φ,φ,φ] rfl rfl (ζj HT_.out (by kernel_rfl)) (fun _ _ _ h=>h) (Or.inl ⟨by rfl,?_⟩) ?_ ?_
        rotate_left
        · intro w';go_simp;with_reducible rfl
        rotate_left
        · simp only [ζl,δa,δb,δc,i64_w,i32_w];rfl
        refine ζk (i:=6) (N:=some 23) (v:=?_) (a':=?_) #[τ,τ,τ,φ,τ,τ,τ,φ,φ,φ] rfl rfl (ζj HT_.out (by kernel_rfl)) (fun _ _ _ h=>h) (Or.inl ⟨by rfl,?_⟩) ?_ ?_
        rotate_left
        · intro w';go_simp;with_reducible rfl
        rotate_left
        · simp only [ζl,δa,δb,δc,i64_w,i32_w];rfl
        refine take_ (i:=3) (N:=some 20) (v:=?_) (a':=?_) #[τ,τ,τ,τ,τ,τ,τ,φ,φ,φ] rfl rfl (take_ofW HT_.out HW_.out (by kernel_rfl)) (fun _ _ _ h=>h) (Or.inl ⟨by rfl,?_⟩) hHeld ?_ ?_
        rotate_left
        · rintro w' ⟨s0,s1,s2,s3⟩;go_simp;with_reducible rfl
        rotate_left
        · simp only [ζl,δa,δb,δc,i64_w,i32_w];rfl
        refine take_ (i:=7) (N:=some 24) (v:=?_) (a':=?_) #[τ,τ,τ,τ,τ,τ,τ,τ,φ,φ] rfl rfl (take_ofW HT_.out HW_.out (by kernel_rfl)) (fun _ _ _ h=>h) (Or.inl ⟨by rfl,?_⟩) hHeld ?_ ?_
        rotate_left
        · rintro w' ⟨s0,s1,s2,s3⟩;go_simp;with_reducible rfl
        rotate_left
        · simp only [ζl,δa,δb,δc,i64_w,i32_w];rfl
        refine one_ (i:=8) (N:=some 25) #[τ,τ,τ,τ,τ,τ,τ,τ,τ,φ] rfl rfl (one_of HT_.out (by kernel_rfl)) (by decide) (fun K hK => ?_)
        refine goes_ Tryz.func47 (by kernel_rfl) rfl #[.agg #[.string ((rd_T51 l0 x5_1).f0),.string ((rd_T51 l0 x5_1).f1)],.agg #[.string ((rd_T51 l1 x5_1).f0),.string ((rd_T51 l1 x5_1).f1)]] (by rfl) rfl rfl (by (try simp only [δd,δe,δf]);first|done|rfl|(simp only [δg,δh];rfl)) ?_
        with_reducible refine (laws_eqPair.calls ((rd_T51 l0 x5_1).f0) ((rd_T51 l0 x5_1).f1) ((rd_T51 l1 x5_1).f0) ((rd_T51 l1 x5_1).f1) φ _ A7.out).mono ?_
        rintro e w12 ⟨rfl,hb⟩
        refine ⟨_,rfl,?_⟩
        have n0_:=ζa (δr (by repeat (first|(with_reducible first|exact HB.out|apply δk|apply δi|apply δj)|exact HB.out)) hb)
        clear HB
        have HB:=n0_
        clear n0_
        (try clear hb)
        (try clear hb2)
        (try clear hk)
        (try clear hi)
        refine hK.out _ _ ⟨((HB.out.cell (World.block_lt_of_cell? w _ hw264_0)).trans hw264_0),((HB.out.cell (World.block_lt_of_cell? w _ hw264_1)).trans hw264_1),((HB.out.cell (World.block_lt_of_cell? w _ hw265_0)).trans hw265_0),((HB.out.cell (World.block_lt_of_cell? w _ hw265_1)).trans hw265_1)⟩ (fun hHeld => ?_)
        clear hK K
        refine norm_ (a':=?_) ?_ ?_
        rotate_left
        ·
         show ζl _ (some 25) _=_
         simp only [ζl,δa,δb,δc,i64_w,i32_w];rfl
        refine ζk (i:=9) (N:=some 26) (v:=?_) (a':=?_) #[τ,τ,τ,τ,τ,τ,τ,τ,τ,τ] rfl rfl (ζj HT_.out (by kernel_rfl)) (fun _ _ _ h=>h) (Or.inl ⟨by rfl,?_⟩) ?_ ?_
        rotate_left
        · intro w';go_simp;with_reducible rfl
        rotate_left
        · simp only [ζl,δa,δb,δc,i64_w,i32_w];rfl
        refine done_ (done_of HT_.out (by kernel_rfl)) ?_
        try go_wp2
        go_ret
        exact ⟨by first|rfl|(simp [errW_none,errW_some] <;> rfl)|(simp [*,errW_none,errW_some] <;> rfl),by repeat (first|(with_reducible first|exact HB.out|apply δk|apply δi|apply δj)|exact HB.out)⟩
      ·
       rw [if_neg c6] at H
       exact absurd H (by simp)
     ·
      rw [if_neg c5] at H
      exact absurd H (by simp)
    ·
     rw [if_neg c4] at H
     have c4b0:decide (x5_1<(l0.length:Int))=φ:=decide_eq_false c4
     clear c4
     obtain rfl:=Option.some.inj H
     go_wp2
     go_ret
     exact ⟨by first|rfl|(simp [errW_none,errW_some] <;> rfl)|(simp [*,errW_none,errW_some] <;> rfl),by repeat (first|(with_reducible first|exact HB.out|apply δk|apply δi|apply δj)|exact HB.out)⟩
 ·
  rw [if_neg c3] at H
  have c3b0:((l0.length:Int) == (l1.length:Int))=φ:=beq_eq_false_iff_ne.mpr c3
  have c3b1:((l0.length:Int) != (l1.length:Int))=τ:=bne_iff_ne.mpr c3
  have c3b2:(l0.length == l1.length)=φ:=by first|simpa using c3|(simp at c3 ⊢;omega)
  obtain rfl:=Option.some.inj H
  go_enter Tryz.func18,Tryz.ntmps18
  go_wp2
  go_ret
  exact ⟨by first|rfl|(simp [errW_none,errW_some] <;> rfl)|(simp [*,errW_none,errW_some] <;> rfl),by repeat (first|(with_reducible first|exact HB.out|apply δk|apply δi|apply δj)|exact HB.out)⟩


open Go.Proofs.YtabmfhnhmoiljaaGreatDoorW.PrintWords renaming below_alloc → δk, pw_below_drewN → δi, below_drew1 → δj, gate_dst → δx, below_size → δs, below_step → δr

/-! ### laws_markText: function 48 -/
def laws_markText.l0:Nat→Int→ByteArray→Option (ByteArray)
 | 0,_,_=>none
 | k+1,x0,x3=>if x0 > 0 then ((some (([(ζm (48+(Int.tmod x0 10))) % 256]:List Int):List Int)).bind fun y267=>(if (strOfNums y267).size+x3.size≤9223372036854775807 then (laws_markText.l0 k (ζm (Int.tdiv x0 10)) ((strOfNums y267) ++ x3)) else (none))) else (if 1+x3.size≤9223372036854775807 then (some ((⟨#[109]⟩:ByteArray) ++ x3)) else (none))
def laws_markText.f (k:Nat) (a0:Int):Option (ByteArray):=if a0≤0 then (some (⟨#[109,48]⟩:ByteArray)) else (laws_markText.l0 k a0 (⟨#[]⟩:ByteArray))
set_option maxHeartbeats 8000000 in
set_option maxRecDepth 100000 in
theorem laws_markText.calls (k:Nat) (a0:Int) (r:ByteArray) (w:World) (h:laws_markText.f k a0=some r) :
  Calls Tryz.prog 48 #[.int .i64 a0] w fun e w'=>e = .returned (.string r)∧Below w.heap.size w w':=by
 have HB:=ζa (Below.refl w.heap.size w)
 have H:(if a0≤0 then (some (⟨#[109,48]⟩:ByteArray)) else (laws_markText.l0 k a0 (⟨#[]⟩:ByteArray)))=some r:=h
 clear h
 by_cases c2:a0≤0
 ·
  rw [if_pos c2] at H
  have c2b0:decide (a0≤0)=τ:=decide_eq_true c2
  clear c2
  obtain rfl:=Option.some.inj H
  go_enter Tryz.func48,Tryz.ntmps48
  go_wp2
  go_ret
  exact ⟨by first|rfl|(simp [errW_none,errW_some] <;> rfl)|(simp [*,errW_none,errW_some] <;> rfl),by repeat (first|(with_reducible first|exact HB.out|apply δk|apply δi|apply δj)|exact HB.out)⟩
 ·
  rw [if_neg c2] at H
  have c2b0:decide (a0≤0)=φ:=decide_eq_false c2
  clear c2
  have H':=ζa H
  clear H
  go_enter Tryz.func48,Tryz.ntmps48
  go_wp2
  go_loopg [0,3] k (fun kq v0 v3 w' => ∃ (x0_1:Int) (x3_1:ByteArray),v0 = .int .i64 x0_1∧v3 = .string x3_1∧Aside0 (laws_markText.l0 kq x0_1 x3_1=some r)∧Aside0 (kq≤k)∧Aside0 (Below w.heap.size w w'))
  case atStart=>exact ⟨(a0),((⟨#[]⟩:ByteArray)),(by first|rfl|(simp;done)|(simp [*];done)),(by first|rfl|(simp;done)|(simp [*];done)),H',⟨Nat.le_refl _⟩,⟨by repeat (first|(with_reducible first|exact HB.out|apply δk|apply δi|apply δj)|exact HB.out)⟩⟩
  case round =>
   clear H'
   try clear c2
   try clear c2b0
   try clear p2
   obtain ⟨x0_1,x3_1,rfl,rfl,HA,HK1,HB⟩:=hrel
   cases gk with
   | zero=>exact absurd HA.out (by simp [laws_markText.l0])
   | succ k1 =>
    have H:=HA.out
    clear HA
    simp only [laws_markText.l0] at H
    by_cases c3:x0_1 > 0
    ·
     rw [if_pos c3] at H
     have c3b0:decide (0<x0_1)=τ:=decide_eq_true c3
     clear c3
     obtain ⟨y267,hy267⟩ : ∃ y_:List Int,y_=(([(ζm (48+(Int.tmod x0_1 10))) % 256]:List Int)):=⟨_,rfl⟩
     replace H:(if (strOfNums y267).size+x3_1.size≤9223372036854775807 then (laws_markText.l0 k1 (ζm (Int.tdiv x0_1 10)) ((strOfNums y267) ++ x3_1)) else (none))=some r:=by first|(rw [hy267];with_reducible exact H)|(have H2_:=(Option.bind_some _ _).symm.trans H;rw [hy267];with_reducible exact H2_)|(have H2_:=(Option.bind_some _ _).symm.trans H;with_reducible exact H2_)|with_reducible exact H|(rw [hy267];exact H)|exact H
     have Ny267:=ζa hy267
     clear hy267
     by_cases c4:(strOfNums y267).size+x3_1.size≤9223372036854775807
     ·
      rw [if_pos c4] at H
      have c4b0:=eq_true c4
      have c4b1:decide ((strOfNums y267).size+x3_1.size≤9223372036854775807)=τ:=decide_eq_true c4
      try have c4b2:(9223372036854775807<(strOfNums y267).size+x3_1.size)=False:=eq_false (Nat.not_lt.2 c4)
      have H':=ζa H
      clear H
      go_wp2_with (first|((with_reducible refine δx (N:=12) rfl ?_);refine Kd.R_lit (Kd.int .u8) _ 5 ?hg (N:=12) ?hd (xs:=([(ζm (48+(Int.tmod x0_1 10))) % 256]:List Int)) (inner:=[.int .u8 ((ζm (48+(Int.tmod x0_1 10))) % 256)]) (ok:=fun _=>True) (okp:=fun _=>True) ?hr ?hp (fun _ hk=>hk) trivial (Below.refl _ _) (Nat.le_refl _) (by simp) ?_;(case hd=>rfl);(case hg=>rfl);(case hr=>first|(go_simp;done)|(go_simp;rfl));(case hp=>exact (Reps.one (show Kd.M (Kd.int .u8) _ _ _ ((ζm (48+(Int.tmod x0_1 10))) % 256) [.int .u8 ((ζm (48+(Int.tmod x0_1 10))) % 256)] from rfl) (Reps.none _ _)));intro v268 w5 ho6 hb hg_ hnew_;clear hg_ hnew_;(first|rw [← Ny267.out] at ho6|(simp only [Int.reduceToNat] at ho6;rw [← Ny267.out] at ho6));have n0_:=ζa (Kd.R_lower ho6 (δs (by repeat (first|(with_reducible first|exact HB.out|apply δk|apply δi|apply δj)|exact HB.out))));have n1_:=ζa (δr (by repeat (first|(with_reducible first|exact HB.out|apply δk|apply δi|apply δj)|exact HB.out)) hb);clear HB;have HO269:=n0_;have HB:=n1_;clear n0_ n1_;clear hb ho6;have hcv7:=own_string (P:=Tryz.prog) Tryz.underlying82 Tryz.underlying5 Tryz.underlying9 (Kd.own_of_R HO269.out)))
      go_roundg k1
      case measure=>have:=HK1.out;omega
      case rel=>exact ⟨(ζm (Int.tdiv x0_1 10)),((strOfNums y267) ++ x3_1),(by first|rfl|(simp;done)|(simp [*];done)),(by first|rfl|(simp;done)|(simp [*];done)),H',⟨by have:=HK1.out;omega⟩,⟨by repeat (first|(with_reducible first|exact HB.out|apply δk|apply δi|apply δj)|exact HB.out)⟩⟩
     ·
      rw [if_neg c4] at H
      exact absurd H (by simp)
    ·
     rw [if_neg c3] at H
     have c3b0:decide (0<x0_1)=φ:=decide_eq_false c3
     clear c3
     by_cases c8:1+x3_1.size≤9223372036854775807
     ·
      rw [if_pos c8] at H
      have c8b0:=eq_true c8
      have c8b1:decide (1+x3_1.size≤9223372036854775807)=τ:=decide_eq_true c8
      try have c8b2:(9223372036854775807<1+x3_1.size)=False:=eq_false (Nat.not_lt.2 c8)
      obtain rfl:=Option.some.inj H
      go_wp2
      go_ret
      exact ⟨by first|rfl|(simp [errW_none,errW_some] <;> rfl)|(simp [*,errW_none,errW_some] <;> rfl),by repeat (first|(with_reducible first|exact HB.out|apply δk|apply δi|apply δj)|exact HB.out)⟩
     ·
      rw [if_neg c8] at H
      exact absurd H (by simp)


open Go.Proofs.YtabmfhnhmoiljaaGreatDoorW.PrintWords.Kd renaming R_alloc → ζd, R_drewN → ζc, R_drew → ζe, R_below → ζh, R_reads' → ζg
open Go.Proofs.YtabmfhnhmoiljaaGreatDoorW.PrintWords renaming below_alloc → δk, pw_below_drewN → δi, below_drew1 → δj, gate_callee → δv, below_step → δr, below_set → δq

/-! ### laws_markPairS: function 19 -/
def laws_markPairS.l0:Nat→List (S51)→Int→Int→Option (Int × (List (S51)))
 | 0,_,_,_=>none
 | k+1,x0,x1,x5=>if x5<(x0.length:Int) then ((laws_markText.f k x1).bind fun t270=>(if 0≤x5 then ((some (x0.set (x5:Int).toNat (⟨t270,(rd_T51 x0 x5).f1⟩:S51):List (S51))).bind fun y271=>((laws_markText.f k (ζm (x1+1))).bind fun t272=>(laws_markPairS.l0 k (y271.set (x5:Int).toNat (⟨(rd_T51 y271 x5).f0,t272⟩:S51)) (ζm ((ζm (x1+1))+1)) (ζm (x5+1))))) else (none))) else (some (x1,x0))
def laws_markPairS.f (k:Nat) (l0:List (S51)) (a1:Int):Option (Int × (List (S51))):=laws_markPairS.l0 k l0 a1 0
set_option maxHeartbeats 8000000 in
set_option maxRecDepth 100000 in
theorem laws_markPairS.calls (k:Nat) (P0_:Nat→Prop) (u9000_:Value) (l0:List (S51)) (a1:Int) (r1:Int) (r2:List (S51)) (w0 w:World) (hB:Below w0.heap.size w0 w) (ho0:Kd.R k51 51 w w0.heap.size P0_ u9000_ l0) (h:laws_markPairS.f k l0 a1=some (r1,r2)) :
  Calls Tryz.prog 19 #[u9000_,.int .i64 a1] w fun e w'=>e = .returned (.int .i64 r1)∧Kd.R k51 51 w' w0.heap.size (fun k_=>(P0_ k_ ∨ w.heap.size≤k_)) u9000_ r2∧Below w0.heap.size w0 w'∧Kept w w' (fun k_=>P0_ k_):=by
 have HO0:=ζa (show Kd.R k51 51 w w0.heap.size (fun k_=>(P0_ k_ ∨ w.heap.size≤k_)) u9000_ l0 from Kd.R_mono ho0 (fun k_ hk=>(.inl hk)))
 have HK:=ζa (Kept.refl w (fun k_=>P0_ k_))
 have HW0:=ζa hB.size
 have HB:=ζa hB
 clear hB
 have H:(laws_markPairS.l0 k l0 a1 0)=some (r1,r2):=h
 clear h
 have H':=ζa H
 clear H
 go_enter Tryz.func19,Tryz.ntmps19
 go_wp2
 go_loopg [1,5] k (fun kq v1 v5 w' => ∃ (x0_1:List (S51)) (x1_1:Int) (x5_1:Int),v1 = .int .i64 x1_1∧v5 = .int .i64 x5_1∧Aside0 (laws_markPairS.l0 kq x0_1 x1_1 x5_1=some (r1,r2))∧Aside0 (kq≤k)∧Aside0 (Kd.R k51 51 w' w0.heap.size (fun k_=>(P0_ k_ ∨ w.heap.size≤k_)) u9000_ x0_1)∧Aside0 (Kept w w' (fun k_=>P0_ k_))∧Aside0 (Below w0.heap.size w0 w'))
 case atStart=>exact ⟨(l0),(a1),(0),(by first|rfl|(simp;done)|(simp [*];done)),(by first|rfl|(simp;done)|(simp [*];done)),H',⟨Nat.le_refl _⟩,⟨by (with_reducible repeat (first|apply ζd|apply ζc|apply ζe));exact HO0.out⟩,⟨by repeat (first|(with_reducible first|exact HK.out|apply Kept.alloc|apply Kept.drewN|apply Kept.drew)|exact HK.out)⟩,⟨by repeat (first|(with_reducible first|exact HB.out|apply δk|apply δi|apply δj)|exact HB.out)⟩⟩
 case round =>
  clear H'
  try clear c1
  try clear p2
  obtain ⟨x0_1,x1_1,x5_1,rfl,rfl,HA,HK1,HO_0,HK,HB⟩:=hrel
  cases gk with
  | zero=>exact absurd HA.out (by simp [laws_markPairS.l0])
  | succ k1 =>
   have H:=HA.out
   clear HA
   simp only [laws_markPairS.l0] at H
   by_cases c3:x5_1<(x0_1.length:Int)
   ·
    rw [if_pos c3] at H
    have c3b0:decide (x5_1<(x0_1.length:Int))=τ:=decide_eq_true c3
    clear c3
    replace H:=Option.bind_eq_some_iff.mp H
    obtain ⟨t270,A40,H⟩:=H
    replace H:(if 0≤x5_1 then ((some (x0_1.set (x5_1:Int).toNat (⟨t270,(rd_T51 x0_1 x5_1).f1⟩:S51):List (S51))).bind fun y271=>((laws_markText.f k1 (ζm (x1_1+1))).bind fun t272=>(laws_markPairS.l0 k1 (y271.set (x5_1:Int).toNat (⟨(rd_T51 y271 x5_1).f0,t272⟩:S51)) (ζm ((ζm (x1_1+1))+1)) (ζm (x5_1+1))))) else (none))=some (r1,r2):=H
    have A4:=ζa A40
    clear A40
    by_cases c5:0≤x5_1
    ·
     rw [if_pos c5] at H
     have c5b0:decide (0≤x5_1)=τ:=decide_eq_true c5
     clear c5
     obtain ⟨y271,hy271⟩ : ∃ y_:List (S51),y_=(x0_1.set (x5_1:Int).toNat (⟨t270,(rd_T51 x0_1 x5_1).f1⟩:S51)):=⟨_,rfl⟩
     replace H:((laws_markText.f k1 (ζm (x1_1+1))).bind fun t272=>(laws_markPairS.l0 k1 (y271.set (x5_1:Int).toNat (⟨(rd_T51 y271 x5_1).f0,t272⟩:S51)) (ζm ((ζm (x1_1+1))+1)) (ζm (x5_1+1))))=some (r1,r2):=by first|(rw [hy271];with_reducible exact H)|(have H2_:=(Option.bind_some _ _).symm.trans H;rw [hy271];with_reducible exact H2_)|(have H2_:=(Option.bind_some _ _).symm.trans H;with_reducible exact H2_)|with_reducible exact H|(rw [hy271];exact H)|exact H
     have Ny271:=ζa hy271
     clear hy271
     replace H:=Option.bind_eq_some_iff.mp H
     obtain ⟨t272,A70,H⟩:=H
     replace H:(laws_markPairS.l0 k1 (y271.set (x5_1:Int).toNat (⟨(rd_T51 y271 x5_1).f0,t272⟩:S51)) (ζm ((ζm (x1_1+1))+1)) (ζm (x5_1+1)))=some (r1,r2):=H
     have A7:=ζa A70
     clear A70
     obtain ⟨y273,hy273⟩ : ∃ y_:List (S51),y_=(y271.set (x5_1:Int).toNat (⟨(rd_T51 y271 x5_1).f0,t272⟩:S51)):=⟨_,rfl⟩
     replace H:(laws_markPairS.l0 k1 y273 (ζm ((ζm (x1_1+1))+1)) (ζm (x5_1+1)))=some (r1,r2):=by first|(rw [hy273];with_reducible exact H)|(have H2_:=(Option.bind_some _ _).symm.trans H;rw [hy273];with_reducible exact H2_)|(have H2_:=(Option.bind_some _ _).symm.trans H;with_reducible exact H2_)|with_reducible exact H|(rw [hy273];exact H)|exact H
     have Ny273:=ζa hy273
     clear hy273
     have H':=ζa H
     clear H
     obtain ⟨Ao9,co9,eo9⟩:=Kd.R_slice HO_0.out
     subst eo9
     go_wp2_with (first|((with_reducible refine δv (f:=48) rfl ?_);refine goesL_ (some 15) rfl rfl Tryz.func48 (by kernel_rfl) rfl #[.int .i64 x1_1] rfl (by (try simp only [δd,δe,δf]);first|done|rfl|(simp only [δg,δh];rfl)) ?_;(with_reducible refine (laws_markText.calls k1 x1_1 t270 _ A4.out).mono ?_);rintro e w10 ⟨rfl,hb⟩;refine ⟨_,rfl,?_⟩;have n0_:=ζa (ζh (by (with_reducible repeat (first|apply ζd|apply ζc|apply ζe));exact HO_0.out) hb);have n1_:=ζa (Kept.below (S:=(fun k_=>P0_ k_)) (by repeat (first|(with_reducible first|exact HK.out|apply Kept.alloc|apply Kept.drewN|apply Kept.drew)|exact HK.out)) hb);have n2_:=ζa (δr (by repeat (first|(with_reducible first|exact HB.out|apply δk|apply δi|apply δj)|exact HB.out)) hb);clear HO_0;clear HK;clear HB;have HO_0:=n0_;have HK:=n1_;have HB:=n2_;clear n0_ n1_ n2_;(try clear hb);(try clear hb2);(try clear hk);(try clear hi);have p6:0≤(x5_1:Int):=of_decide_eq_true (by first|(with_reducible assumption)|assumption);have q6:(x5_1:Int)<((x0_1.length:Int):Int):=of_decide_eq_true (by first|(with_reducible assumption)|assumption);obtain ⟨go6,co6,eo6,gb6,gl6,cl6,HG6⟩:=Kd.R_form HO_0.out (by omega);(first|cases eo6|(injection eo6 with ea_ en_ ec_;(first|subst ea_|(injection ea_ with ea_;subst ea_));subst ec_;clear en_));have GB6:=ζa gb6;have GG6:=ζa HG6;clear gb6 gl6 HG6;have HMgo6:=ζa (show (P0_ go6 ∨ w.heap.size≤go6) from (HO_0.out.1 _ rfl));obtain ⟨ce6,hcl6,hM6,hcc6,hfr6⟩:=Kd.R_elem HO_0.out z51 (x5_1:Int) p6 q6;obtain rfl:=k51_openM hM6;have hx6_0:w10.cell? ⟨go6,(x5_1:Int).toNat * 2,none⟩=some (.string ((rd_T51 x0_1 x5_1).f0)):=hcc6 0 _ rfl;have hx6_1:w10.cell? ⟨go6,(x5_1:Int).toNat * 2+1,none⟩=some (.string ((rd_T51 x0_1 x5_1).f1)):=hcc6 1 _ rfl;have hf6_0:w10.frozen? ⟨go6,(x5_1:Int).toNat * 2,none⟩=φ:=hfr6 0;have hf6_1:w10.frozen? ⟨go6,(x5_1:Int).toNat * 2+1,none⟩=φ:=hfr6 1;clear hcl6 hcc6 hfr6 hM6;replace p6:=eq_true p6;replace q6:=eq_true q6;have HX11:=ζa (show Kd.R k51 51 w10 w0.heap.size (fun k_=>(P0_ k_ ∨ w.heap.size≤k_)) (.slice (some ⟨go6,0,none⟩) x0_1.length co9) x0_1 from (by (with_reducible repeat (first|apply ζd|apply ζc|apply ζe));exact HO_0.out));obtain ⟨ce11,hcl11,hM11,hcc11,hfr11⟩:=Kd.R_elem HX11.out z51 (x5_1:Int) (of_decide_eq_true (by first|(with_reducible assumption)|assumption)) (by have h_:(x5_1:Int)<((x0_1.length:Int):Int):=of_decide_eq_true (by first|(with_reducible assumption)|assumption);first|exact h_|(have e_:=(ζg HO_0.out).1;omega)|simpa using h_);obtain rfl:=k51_openM hM11;have HP11:=Kd.R_seg HX11.out (x5_1:Int) (of_decide_eq_true (by first|(with_reducible assumption)|assumption)) (by have h_:(x5_1:Int)<((x0_1.length:Int):Int):=of_decide_eq_true (by first|(with_reducible assumption)|assumption);first|exact h_|(have e_:=(ζg HO_0.out).1;omega)|simpa using h_) (seg:=[.string t270]) (j:=0) hcl11 hcc11 (show 1≤2 from by decide) (x':=(⟨t270,(rd_T51 x0_1 x5_1).f1⟩:S51)) (k51_mkM _ _ _ (⟨t270,(rd_T51 x0_1 x5_1).f1⟩:S51) ) (fun _ hk=>hk);have hx11_0:=hcc11 0 _ rfl;(try simp only [show (k51).sz=2 from rfl,Nat.mul_one,Nat.add_zero] at hx11_0);have hf11_0:=hfr11 0;(try simp only [show (k51).sz=2 from rfl,Nat.mul_one,Nat.add_zero] at hf11_0);clear hcl11 hcc11 hfr11 hM11)|((with_reducible refine gate_store (t:=9) (p:=17) rfl ?_);refine store_event (t:=9) (p:=17) (v:=?vo_w12) (w1:=(w10.setCell ⟨go6,(x5_1:Int).toNat * 2,none⟩ (.string t270))) ?hg ?ho ?hn ?hr ?_;(case ho=>rfl);(case hg=>rfl);(case hn=>rfl);(case hr=>first|(go_simp;done)|(go_simp;rfl));intro w12 hw;have hg:w10.grownBy w12 (some go6):=(by rw [hw];exact HP11.2);have hp_:Kd.R k51 51 w12 w0.heap.size (fun k_=>(P0_ k_ ∨ w.heap.size≤k_)) (.slice (some ⟨go6,0,none⟩) x0_1.length co9) y271:=(by rw [hw,Ny271.out];exact HP11.1);clear HP11;have n0_:=ζa (hp_);have n1_:=ζa ((by rw [hw];exact δq (HB.out) GB6.out:Below w0.heap.size w0 w12));have n2_:=ζa (Kept.of_grown (S:=(fun k_=>P0_ k_)) hg (by repeat (first|(with_reducible first|exact HK.out|apply Kept.alloc|apply Kept.drewN|apply Kept.drew)|exact HK.out)) (fun k_ e_=>(HO_0.out.1 k_ e_)));clear HO_0;clear HB;clear HK;have HO_0:=n0_;have HB:=n1_;have HK:=n2_;clear n0_ n1_ n2_;clear hg hw hp_)|((with_reducible refine δv (f:=48) rfl ?_);refine goesL_ (some 23) rfl rfl Tryz.func48 (by kernel_rfl) rfl #[.int .i64 (ζm (x1_1+1))] rfl (by (try simp only [δd,δe,δf]);first|done|rfl|(simp only [δg,δh];rfl)) ?_;(with_reducible refine (laws_markText.calls k1 (ζm (x1_1+1)) t272 _ A7.out).mono ?_);rintro e w13 ⟨rfl,hb⟩;refine ⟨_,rfl,?_⟩;have n0_:=ζa (ζh (by (with_reducible repeat (first|apply ζd|apply ζc|apply ζe));exact HO_0.out) hb);have n1_:=ζa (Kept.below (S:=(fun k_=>P0_ k_)) (by repeat (first|(with_reducible first|exact HK.out|apply Kept.alloc|apply Kept.drewN|apply Kept.drew)|exact HK.out)) hb);have n2_:=ζa (δr (by repeat (first|(with_reducible first|exact HB.out|apply δk|apply δi|apply δj)|exact HB.out)) hb);clear HO_0;clear HK;clear HB;have HO_0:=n0_;have HK:=n1_;have HB:=n2_;clear n0_ n1_ n2_;(try clear hb);(try clear hb2);(try clear hk);(try clear hi);have p8:0≤(x5_1:Int):=of_decide_eq_true (by first|(with_reducible assumption)|assumption);have q8:(x5_1:Int)<((x0_1.length:Int):Int):=of_decide_eq_true (by first|(with_reducible assumption)|assumption);obtain ⟨ce8,hcl8,hM8,hcc8,hfr8⟩:=Kd.R_elem HO_0.out z51 (x5_1:Int) p8 q8;obtain rfl:=k51_openM hM8;have hx8_0:w13.cell? ⟨go6,(x5_1:Int).toNat * 2,none⟩=some (.string ((rd_T51 y271 x5_1).f0)):=hcc8 0 _ rfl;have hx8_1:w13.cell? ⟨go6,(x5_1:Int).toNat * 2+1,none⟩=some (.string ((rd_T51 y271 x5_1).f1)):=hcc8 1 _ rfl;have hf8_0:w13.frozen? ⟨go6,(x5_1:Int).toNat * 2,none⟩=φ:=hfr8 0;have hf8_1:w13.frozen? ⟨go6,(x5_1:Int).toNat * 2+1,none⟩=φ:=hfr8 1;clear hcl8 hcc8 hfr8 hM8;replace p8:=eq_true p8;replace q8:=eq_true q8;have HX14:=ζa (show Kd.R k51 51 w13 w0.heap.size (fun k_=>(P0_ k_ ∨ w.heap.size≤k_)) (.slice (some ⟨go6,0,none⟩) x0_1.length co9) y271 from (by (with_reducible repeat (first|apply ζd|apply ζc|apply ζe));exact HO_0.out));obtain ⟨ce14,hcl14,hM14,hcc14,hfr14⟩:=Kd.R_elem HX14.out z51 (x5_1:Int) (of_decide_eq_true (by first|(with_reducible assumption)|assumption)) (by have h_:(x5_1:Int)<((x0_1.length:Int):Int):=of_decide_eq_true (by first|(with_reducible assumption)|assumption);first|exact h_|(have e_:=(ζg HO_0.out).1;omega)|simpa using h_);obtain rfl:=k51_openM hM14;have HP14:=Kd.R_seg HX14.out (x5_1:Int) (of_decide_eq_true (by first|(with_reducible assumption)|assumption)) (by have h_:(x5_1:Int)<((x0_1.length:Int):Int):=of_decide_eq_true (by first|(with_reducible assumption)|assumption);first|exact h_|(have e_:=(ζg HO_0.out).1;omega)|simpa using h_) (seg:=[.string t272]) (j:=1) hcl14 hcc14 (show 2≤2 from by decide) (x':=(⟨(rd_T51 y271 x5_1).f0,t272⟩:S51)) (k51_mkM _ _ _ (⟨(rd_T51 y271 x5_1).f0,t272⟩:S51) ) (fun _ hk=>hk);have hx14_1:=hcc14 1 _ rfl;(try simp only [show (k51).sz=2 from rfl,Nat.mul_one,Nat.add_zero] at hx14_1);have hf14_1:=hfr14 1;(try simp only [show (k51).sz=2 from rfl,Nat.mul_one,Nat.add_zero] at hf14_1);clear hcl14 hcc14 hfr14 hM14)|((with_reducible refine gate_store (t:=9) (p:=25) rfl ?_);refine store_event (t:=9) (p:=25) (v:=?vo_w15) (w1:=(w13.setCell ⟨go6,(x5_1:Int).toNat * 2+1,none⟩ (.string t272))) ?hg ?ho ?hn ?hr ?_;(case ho=>rfl);(case hg=>rfl);(case hn=>rfl);(case hr=>first|(go_simp;done)|(go_simp;rfl));intro w15 hw;have hg:w13.grownBy w15 (some go6):=(by rw [hw];exact HP14.2);have hp_:Kd.R k51 51 w15 w0.heap.size (fun k_=>(P0_ k_ ∨ w.heap.size≤k_)) (.slice (some ⟨go6,0,none⟩) x0_1.length co9) y273:=(by rw [hw,Ny273.out];exact HP14.1);clear HP14;have n0_:=ζa (hp_);have n1_:=ζa ((by rw [hw];exact δq (HB.out) GB6.out:Below w0.heap.size w0 w15));have n2_:=ζa (Kept.of_grown (S:=(fun k_=>P0_ k_)) hg (by repeat (first|(with_reducible first|exact HK.out|apply Kept.alloc|apply Kept.drewN|apply Kept.drew)|exact HK.out)) (fun k_ e_=>(HO_0.out.1 k_ e_)));clear HO_0;clear HB;clear HK;have HO_0:=n0_;have HB:=n1_;have HK:=n2_;clear n0_ n1_ n2_;clear hg hw hp_))
     go_roundg k1
     case measure=>have:=HK1.out;omega
     case rel=>exact ⟨(y273),(ζm ((ζm (x1_1+1))+1)),(ζm (x5_1+1)),(by first|rfl|(simp;done)|(simp [*];done)),(by first|rfl|(simp;done)|(simp [*];done)),H',⟨by have:=HK1.out;omega⟩,⟨by (with_reducible repeat (first|apply ζd|apply ζc|apply ζe));exact HO_0.out⟩,⟨by repeat (first|(with_reducible first|exact HK.out|apply Kept.alloc|apply Kept.drewN|apply Kept.drew)|exact HK.out)⟩,⟨by repeat (first|(with_reducible first|exact HB.out|apply δk|apply δi|apply δj)|exact HB.out)⟩⟩
    ·
     rw [if_neg c5] at H
     exact absurd H (by simp)
   ·
    rw [if_neg c3] at H
    have c3b0:decide (x5_1<(x0_1.length:Int))=φ:=decide_eq_false c3
    clear c3
    simp only [Option.some.injEq,Prod.mk.injEq] at H
    obtain ⟨rfl,rfl⟩:=H
    obtain ⟨Ao16,co16,eo16⟩:=Kd.R_slice HO_0.out
    subst eo16
    go_wp2
    go_ret
    exact ⟨by first|rfl|(simp [errW_none,errW_some] <;> rfl)|(simp [*,errW_none,errW_some] <;> rfl),by (with_reducible repeat (first|apply ζd|apply ζc|apply ζe));exact HO_0.out,by repeat (first|(with_reducible first|exact HB.out|apply δk|apply δi|apply δj)|exact HB.out),by repeat (first|(with_reducible first|exact HK.out|apply Kept.alloc|apply Kept.drewN|apply Kept.drew)|exact HK.out)⟩



/-! ### laws_heldPairS: function 20 -/
def laws_heldPairS.l0:Nat→List (S51)→Int→Int→Option (Int)
 | 0,_,_,_=>none
 | k+1,x0,x1,x5=>if x5<(x0.length:Int) then (if 0≤x5 then ((laws_markText.f k x1).bind fun t275=>(if ((rd_T51 x0 x5).f0).toList=t275.toList then ((laws_markText.f k (ζm (x1+1))).bind fun t277=>(if ((rd_T51 x0 x5).f1).toList=t277.toList then (laws_heldPairS.l0 k x0 (ζm ((ζm (x1+1))+1)) (ζm (x5+1))) else (some (-1)))) else (some (-1)))) else (none)) else (some x1)
def laws_heldPairS.f (k:Nat) (l0:List (S51)) (a1:Int):Option (Int):=laws_heldPairS.l0 k l0 a1 0
def laws_heldPairS.T4:Bool × List (List Nat × List Nat):=(τ,[([],[]),([],[]),([0,1],[0,1]),([2],[2]),([3],[3]),([],[]),([5],[5]),([4,6],[4,6])])
def laws_heldPairS.B4:List Nat:=[0,0,3,7,15,0,32,127]
theorem laws_heldPairS.tab4:rtab .any (opsOf Tryz.f20 4)=laws_heldPairS.T4:=by kernel_rfl
theorem laws_heldPairS.bits4:waitsOk laws_heldPairS.T4.2 laws_heldPairS.B4=τ:=by kernel_rfl
def laws_heldPairS.T7:Bool × List (List Nat × List Nat):=(τ,[([],[]),([],[]),([0,1],[0,1]),([2],[2]),([3],[3]),([],[]),([5],[5]),([4,6],[4,6])])
def laws_heldPairS.B7:List Nat:=[0,0,3,7,15,0,32,127]
theorem laws_heldPairS.tab7:rtab .any (opsOf Tryz.f20 7)=laws_heldPairS.T7:=by kernel_rfl
theorem laws_heldPairS.bits7:waitsOk laws_heldPairS.T7.2 laws_heldPairS.B7=τ:=by kernel_rfl
set_option maxHeartbeats 8000000 in
set_option maxRecDepth 100000 in
theorem laws_heldPairS.calls (k:Nat) (A0:Option Addr) (c0:Nat) (l0:List (S51)) (a1:Int) (r:Int) (w:World) (hr0:Kd.C k51 w A0 l0.length l0) (hc0:l0.length≤c0) (h:laws_heldPairS.f k l0 a1=some r) :
  Calls Tryz.prog 20 #[.slice A0 l0.length c0,.int .i64 a1] w fun e w'=>e = .returned (.int .i64 r)∧Below w.heap.size w w':=by
 have HR0:=ζa hr0
 have HC0:=ζa hc0
 clear hr0 hc0
 have HB:=ζa (Below.refl w.heap.size w)
 have H:(laws_heldPairS.l0 k l0 a1 0)=some r:=h
 clear h
 have H':=ζa H
 clear H
 go_enter Tryz.func20,Tryz.ntmps20
 go_wp2
 go_loopg [1,5] k (fun kq v1 v5 w' => ∃ (x1_1:Int) (x5_1:Int),v1 = .int .i64 x1_1∧v5 = .int .i64 x5_1∧Aside0 (laws_heldPairS.l0 kq l0 x1_1 x5_1=some r)∧Aside0 (kq≤k)∧Aside0 (Below w.heap.size w w'))
 case atStart=>exact ⟨(a1),(0),(by first|rfl|(simp;done)|(simp [*];done)),(by first|rfl|(simp;done)|(simp [*];done)),H',⟨Nat.le_refl _⟩,⟨by repeat (first|(with_reducible first|exact HB.out|apply δk|apply δi|apply δj)|exact HB.out)⟩⟩
 case round =>
  clear H'
  try clear c2
  try clear p2
  obtain ⟨x1_1,x5_1,rfl,rfl,HA,HK1,HB⟩:=hrel
  cases gk with
  | zero=>exact absurd HA.out (by simp [laws_heldPairS.l0])
  | succ k1 =>
   have H:=HA.out
   clear HA
   simp only [laws_heldPairS.l0] at H
   by_cases c3:x5_1<(l0.length:Int)
   ·
    rw [if_pos c3] at H
    have c3b0:decide (x5_1<(l0.length:Int))=τ:=decide_eq_true c3
    clear c3
    by_cases c4:0≤x5_1
    ·
     rw [if_pos c4] at H
     have c4b0:decide (0≤x5_1)=τ:=decide_eq_true c4
     clear c4
     replace H:=Option.bind_eq_some_iff.mp H
     obtain ⟨t275,A50,H⟩:=H
     replace H:(if ((rd_T51 l0 x5_1).f0).toList=t275.toList then ((laws_markText.f k1 (ζm (x1_1+1))).bind fun t277=>(if ((rd_T51 l0 x5_1).f1).toList=t277.toList then (laws_heldPairS.l0 k1 l0 (ζm ((ζm (x1_1+1))+1)) (ζm (x5_1+1))) else (some (-1)))) else (some (-1)))=some r:=H
     have A5:=ζa A50
     clear A50
     by_cases c6:((rd_T51 l0 x5_1).f0).toList=t275.toList
     ·
      rw [if_pos c6] at H
      have c6b0:(((rd_T51 l0 x5_1).f0).toList == t275.toList)=τ:=beq_iff_eq.mpr c6
      have c6b1:(((rd_T51 l0 x5_1).f0).toList != t275.toList)=φ:=bne_eq_false_iff_eq.mpr c6
      clear c6
      replace H:=Option.bind_eq_some_iff.mp H
      obtain ⟨t277,A70,H⟩:=H
      replace H:(if ((rd_T51 l0 x5_1).f1).toList=t277.toList then (laws_heldPairS.l0 k1 l0 (ζm ((ζm (x1_1+1))+1)) (ζm (x5_1+1))) else (some (-1)))=some r:=H
      have A7:=ζa A70
      clear A70
      by_cases c8:((rd_T51 l0 x5_1).f1).toList=t277.toList
      ·
       rw [if_pos c8] at H
       have c8b0:(((rd_T51 l0 x5_1).f1).toList == t277.toList)=τ:=beq_iff_eq.mpr c8
       have c8b1:(((rd_T51 l0 x5_1).f1).toList != t277.toList)=φ:=bne_eq_false_iff_eq.mpr c8
       clear c8
       have H':=ζa H
       clear H
       try go_wp2
       have n0_:=ζa (δj HB.out)
       clear HB
       have HB:=n0_
       clear n0_
       have p274:0≤(x5_1:Int):=of_decide_eq_true (by first|(with_reducible assumption)|assumption)
       have q274:x5_1<(l0.length:Int):=of_decide_eq_true (by first|(with_reducible assumption)|assumption)
       obtain ⟨ad274,e274,hx274_0,hx274_1⟩:=at_T51 HR0.out x5_1 p274 q274
       have hw274_1:=hx274_1
       have hw274_0:=hx274_0
       cases e274
       replace hx274_0:=(HB.out.cell (World.block_lt_of_cell? w _ hx274_0)).trans hx274_0
       replace hx274_1:=(HB.out.cell (World.block_lt_of_cell? w _ hx274_1)).trans hx274_1
       replace p274:=eq_true p274
       replace q274:=eq_true q274
       refine start_ (n:=8) (S:=fun w'=>w'.cell? (ad274.add ((x5_1).toNat * 2))=some (.string ((rd_T51 l0 x5_1).f0))∧w'.cell? ⟨(ad274.add ((x5_1).toNat * 2)).block,(ad274.add ((x5_1).toNat * 2)).off+1,none⟩=some (.string ((rd_T51 l0 x5_1).f1))) (ds:=[]) #[φ,φ,φ,φ,φ,φ,φ,φ] (by kernel_rfl) rfl rfl ⟨((HB.out.cell (World.block_lt_of_cell? w _ hw274_0)).trans hw274_0),((HB.out.cell (World.block_lt_of_cell? w _ hw274_1)).trans hw274_1)⟩ (fun hHeld => ?_);refine with_tabW laws_heldPairS.tab4 laws_heldPairS.bits4 (fun HT_ HW_ => ?_)
       generalize wr.drew=w9 at HB hx274_0 hx274_1 hHeld ⊢
       refine ζk (i:=0) (N:=some 12) (v:=?_) (a':=?_) #[τ,φ,φ,φ,φ,φ,φ,φ] rfl rfl (ζj HT_.out (by kernel_rfl)) (fun _ _ _ h=>h) (Or.inl ⟨by rfl,?_⟩) ?_ ?_
       rotate_left
       · intro w';go_simp;with_reducible rfl
       rotate_left
       · simp only [ζl,δa,δb,δc,i64_w,i32_w];rfl
       refine ζk (i:=1) (N:=some 13) (v:=?_) (a':=?_) #[τ,τ,φ,φ,φ,φ,φ,φ] rfl rfl (ζj HT_.out (by kernel_rfl)) (fun _ _ _ h=>h) (Or.inl ⟨by rfl,?_⟩) ?_ ?_
       rotate_left
       · intro w';go_simp;with_reducible rfl
       rotate_left
       · simp only [ζl,δa,δb,δc,i64_w,i32_w];rfl
       refine ζk (i:=2) (N:=some 14) (v:=?_) (a':=?_) #[τ,τ,τ,φ,φ,φ,φ,φ] rfl rfl (ζj HT_.out (by kernel_rfl)) (fun _ _ _ h=>h) (Or.inl ⟨by rfl,?_⟩) ?_ ?_
       rotate_left
       · intro w';go_simp;with_reducible rfl
       rotate_left
       · simp only [ζl,δa,δb,δc,i64_w,i32_w];rfl
       refine ζk (i:=3) (N:=some 15) (v:=?_) (a':=?_) #[τ,τ,τ,τ,φ,φ,φ,φ] rfl rfl (ζj HT_.out (by kernel_rfl)) (fun _ _ _ h=>h) (Or.inl ⟨by rfl,?_⟩) ?_ ?_
       rotate_left
       · intro w';go_simp;with_reducible rfl
       rotate_left
       · simp only [ζl,δa,δb,δc,i64_w,i32_w];rfl
       refine ζk (i:=5) (N:=some 17) (v:=?_) (a':=?_) #[τ,τ,τ,τ,φ,τ,φ,φ] rfl rfl (ζj HT_.out (by kernel_rfl)) (fun _ _ _ h=>h) (Or.inl ⟨by rfl,?_⟩) ?_ ?_
       rotate_left
       · intro w';go_simp;with_reducible rfl
       rotate_left
       · simp only [ζl,δa,δb,δc,i64_w,i32_w];rfl
       refine take_ (i:=4) (N:=some 16) (v:=?_) (a':=?_) #[τ,τ,τ,τ,τ,τ,φ,φ] rfl rfl (take_ofW HT_.out HW_.out (by kernel_rfl)) (fun _ _ _ h=>h) (Or.inl ⟨by rfl,?_⟩) hHeld ?_ ?_
       rotate_left
       · rintro w' ⟨s0,s1⟩;go_simp;with_reducible rfl
       rotate_left
       · simp only [ζl,δa,δb,δc,i64_w,i32_w];rfl
       refine one_ (i:=6) (N:=some 18) #[τ,τ,τ,τ,τ,τ,τ,φ] rfl rfl (one_of HT_.out (by kernel_rfl)) (by decide) (fun K hK => ?_)
       refine goes_ Tryz.func48 (by kernel_rfl) rfl #[.int .i64 x1_1] (by rfl) rfl rfl (by (try simp only [δd,δe,δf]);first|done|rfl|(simp only [δg,δh];rfl)) ?_
       with_reducible refine (laws_markText.calls k1 x1_1 t275 _ A5.out).mono ?_
       rintro e w10 ⟨rfl,hb⟩
       refine ⟨_,rfl,?_⟩
       have n0_:=ζa (δr (by repeat (first|(with_reducible first|exact HB.out|apply δk|apply δi|apply δj)|exact HB.out)) hb)
       clear HB
       have HB:=n0_
       clear n0_
       (try clear hb)
       (try clear hb2)
       (try clear hk)
       (try clear hi)
       refine hK.out _ _ ⟨((HB.out.cell (World.block_lt_of_cell? w _ hw274_0)).trans hw274_0),((HB.out.cell (World.block_lt_of_cell? w _ hw274_1)).trans hw274_1)⟩ (fun hHeld => ?_)
       clear hK K
       refine norm_ (a':=?_) ?_ ?_
       rotate_left
       ·
        show ζl _ (some 18) _=_
        simp only [ζl,δa,δb,δc,i64_w,i32_w];rfl
       refine ζk (i:=7) (N:=some 19) (v:=?_) (a':=?_) #[τ,τ,τ,τ,τ,τ,τ,τ] rfl rfl (ζj HT_.out (by kernel_rfl)) (fun _ _ _ h=>h) (Or.inl ⟨by rfl,?_⟩) ?_ ?_
       rotate_left
       · intro w';go_simp;with_reducible rfl
       rotate_left
       · simp only [ζl,δa,δb,δc,i64_w,i32_w];rfl
       refine done_ (done_of HT_.out (by kernel_rfl)) ?_
       try go_wp2
       have n0_:=ζa (δj HB.out)
       clear HB
       have HB:=n0_
       clear n0_
       have p276:0≤(x5_1:Int):=of_decide_eq_true (by first|(with_reducible assumption)|assumption)
       have q276:x5_1<(l0.length:Int):=of_decide_eq_true (by first|(with_reducible assumption)|assumption)
       obtain ⟨ad276,e276,hx276_0,hx276_1⟩:=at_T51 HR0.out x5_1 p276 q276
       have hw276_1:=hx276_1
       have hw276_0:=hx276_0
       obtain rfl:ad274=ad276:=(by injection e276)
       replace hx276_0:=(HB.out.cell (World.block_lt_of_cell? w _ hx276_0)).trans hx276_0
       replace hx276_1:=(HB.out.cell (World.block_lt_of_cell? w _ hx276_1)).trans hx276_1
       replace p276:=eq_true p276
       replace q276:=eq_true q276
       refine start_ (n:=8) (S:=fun w'=>w'.cell? (ad274.add ((x5_1).toNat * 2))=some (.string ((rd_T51 l0 x5_1).f0))∧w'.cell? ⟨(ad274.add ((x5_1).toNat * 2)).block,(ad274.add ((x5_1).toNat * 2)).off+1,none⟩=some (.string ((rd_T51 l0 x5_1).f1))) (ds:=[]) #[φ,φ,φ,φ,φ,φ,φ,φ] (by kernel_rfl) rfl rfl ⟨((HB.out.cell (World.block_lt_of_cell? w _ hw276_0)).trans hw276_0),((HB.out.cell (World.block_lt_of_cell? w _ hw276_1)).trans hw276_1)⟩ (fun hHeld => ?_);refine with_tabW laws_heldPairS.tab7 laws_heldPairS.bits7 (fun HT_ HW_ => ?_)
       generalize w10.drew=w11 at HB hx276_0 hx276_1 hHeld ⊢
       refine ζk (i:=0) (N:=some 22) (v:=?_) (a':=?_) #[τ,φ,φ,φ,φ,φ,φ,φ] rfl rfl (ζj HT_.out (by kernel_rfl)) (fun _ _ _ h=>h) (Or.inl ⟨by rfl,?_⟩) ?_ ?_
       rotate_left
       · intro w';go_simp;with_reducible rfl
       rotate_left
       · simp only [ζl,δa,δb,δc,i64_w,i32_w];rfl
       refine ζk (i:=1) (N:=some 23) (v:=?_) (a':=?_) #[τ,τ,φ,φ,φ,φ,φ,φ] rfl rfl (ζj HT_.out (by kernel_rfl)) (fun _ _ _ h=>h) (Or.inl ⟨by rfl,?_⟩) ?_ ?_
       rotate_left
       · intro w';go_simp;with_reducible rfl
       rotate_left
       · simp only [ζl,δa,δb,δc,i64_w,i32_w];rfl
       refine ζk (i:=2) (N:=some 24) (v:=?_) (a':=?_) #[τ,τ,τ,φ,φ,φ,φ,φ] rfl rfl (ζj HT_.out (by kernel_rfl)) (fun _ _ _ h=>h) (Or.inl ⟨by rfl,?_⟩) ?_ ?_
       rotate_left
       · intro w';go_simp;with_reducible rfl
       rotate_left
       · simp only [ζl,δa,δb,δc,i64_w,i32_w];rfl
       refine ζk (i:=3) (N:=some 25) (v:=?_) (a':=?_) #[τ,τ,τ,τ,φ,φ,φ,φ] rfl rfl (ζj HT_.out (by kernel_rfl)) (fun _ _ _ h=>h) (Or.inl ⟨by rfl,?_⟩) ?_ ?_
       rotate_left
       · intro w';go_simp;with_reducible rfl
       rotate_left
       · simp only [ζl,δa,δb,δc,i64_w,i32_w];rfl
       refine ζk (i:=5) (N:=some 27) (v:=?_) (a':=?_) #[τ,τ,τ,τ,φ,τ,φ,φ] rfl rfl (ζj HT_.out (by kernel_rfl)) (fun _ _ _ h=>h) (Or.inl ⟨by rfl,?_⟩) ?_ ?_
       rotate_left
       · intro w';go_simp;with_reducible rfl
       rotate_left
       · simp only [ζl,δa,δb,δc,i64_w,i32_w];rfl
       refine take_ (i:=4) (N:=some 26) (v:=?_) (a':=?_) #[τ,τ,τ,τ,τ,τ,φ,φ] rfl rfl (take_ofW HT_.out HW_.out (by kernel_rfl)) (fun _ _ _ h=>h) (Or.inl ⟨by rfl,?_⟩) hHeld ?_ ?_
       rotate_left
       · rintro w' ⟨s0,s1⟩;go_simp;with_reducible rfl
       rotate_left
       · simp only [ζl,δa,δb,δc,i64_w,i32_w];rfl
       refine one_ (i:=6) (N:=some 28) #[τ,τ,τ,τ,τ,τ,τ,φ] rfl rfl (one_of HT_.out (by kernel_rfl)) (by decide) (fun K hK => ?_)
       refine goes_ Tryz.func48 (by kernel_rfl) rfl #[.int .i64 (ζm (x1_1+1))] (by rfl) rfl rfl (by (try simp only [δd,δe,δf]);first|done|rfl|(simp only [δg,δh];rfl)) ?_
       with_reducible refine (laws_markText.calls k1 (ζm (x1_1+1)) t277 _ A7.out).mono ?_
       rintro e w12 ⟨rfl,hb⟩
       refine ⟨_,rfl,?_⟩
       have n0_:=ζa (δr (by repeat (first|(with_reducible first|exact HB.out|apply δk|apply δi|apply δj)|exact HB.out)) hb)
       clear HB
       have HB:=n0_
       clear n0_
       (try clear hb)
       (try clear hb2)
       (try clear hk)
       (try clear hi)
       refine hK.out _ _ ⟨((HB.out.cell (World.block_lt_of_cell? w _ hw276_0)).trans hw276_0),((HB.out.cell (World.block_lt_of_cell? w _ hw276_1)).trans hw276_1)⟩ (fun hHeld => ?_)
       clear hK K
       refine norm_ (a':=?_) ?_ ?_
       rotate_left
       ·
        show ζl _ (some 28) _=_
        simp only [ζl,δa,δb,δc,i64_w,i32_w];rfl
       refine ζk (i:=7) (N:=some 29) (v:=?_) (a':=?_) #[τ,τ,τ,τ,τ,τ,τ,τ] rfl rfl (ζj HT_.out (by kernel_rfl)) (fun _ _ _ h=>h) (Or.inl ⟨by rfl,?_⟩) ?_ ?_
       rotate_left
       · intro w';go_simp;with_reducible rfl
       rotate_left
       · simp only [ζl,δa,δb,δc,i64_w,i32_w];rfl
       refine done_ (done_of HT_.out (by kernel_rfl)) ?_
       try go_wp2
       go_roundg k1
       case measure=>have:=HK1.out;omega
       case rel=>exact ⟨(ζm ((ζm (x1_1+1))+1)),(ζm (x5_1+1)),(by first|rfl|(simp;done)|(simp [*];done)),(by first|rfl|(simp;done)|(simp [*];done)),H',⟨by have:=HK1.out;omega⟩,⟨by repeat (first|(with_reducible first|exact HB.out|apply δk|apply δi|apply δj)|exact HB.out)⟩⟩
      ·
       rw [if_neg c8] at H
       have c8b0:(((rd_T51 l0 x5_1).f1).toList == t277.toList)=φ:=beq_eq_false_iff_ne.mpr c8
       have c8b1:(((rd_T51 l0 x5_1).f1).toList != t277.toList)=τ:=bne_iff_ne.mpr c8
       obtain rfl:=Option.some.inj H
       try go_wp2
       have n0_:=ζa (δj HB.out)
       clear HB
       have HB:=n0_
       clear n0_
       have p274:0≤(x5_1:Int):=of_decide_eq_true (by first|(with_reducible assumption)|assumption)
       have q274:x5_1<(l0.length:Int):=of_decide_eq_true (by first|(with_reducible assumption)|assumption)
       obtain ⟨ad274,e274,hx274_0,hx274_1⟩:=at_T51 HR0.out x5_1 p274 q274
       have hw274_1:=hx274_1
       have hw274_0:=hx274_0
       cases e274
       replace hx274_0:=(HB.out.cell (World.block_lt_of_cell? w _ hx274_0)).trans hx274_0
       replace hx274_1:=(HB.out.cell (World.block_lt_of_cell? w _ hx274_1)).trans hx274_1
       replace p274:=eq_true p274
       replace q274:=eq_true q274
       refine start_ (n:=8) (S:=fun w'=>w'.cell? (ad274.add ((x5_1).toNat * 2))=some (.string ((rd_T51 l0 x5_1).f0))∧w'.cell? ⟨(ad274.add ((x5_1).toNat * 2)).block,(ad274.add ((x5_1).toNat * 2)).off+1,none⟩=some (.string ((rd_T51 l0 x5_1).f1))) (ds:=[]) #[φ,φ,φ,φ,φ,φ,φ,φ] (by kernel_rfl) rfl rfl ⟨((HB.out.cell (World.block_lt_of_cell? w _ hw274_0)).trans hw274_0),((HB.out.cell (World.block_lt_of_cell? w _ hw274_1)).trans hw274_1)⟩ (fun hHeld => ?_);refine with_tabW laws_heldPairS.tab4 laws_heldPairS.bits4 (fun HT_ HW_ => ?_)
       generalize wr.drew=w13 at HB hx274_0 hx274_1 hHeld ⊢
       refine ζk (i:=0) (N:=some 12) (v:=?_) (a':=?_) #[τ,φ,φ,φ,φ,φ,φ,φ] rfl rfl (ζj HT_.out (by kernel_rfl)) (fun _ _ _ h=>h) (Or.inl ⟨by rfl,?_⟩) ?_ ?_
       rotate_left
       · intro w';go_simp;with_reducible rfl
       rotate_left
       · simp only [ζl,δa,δb,δc,i64_w,i32_w];rfl
       refine ζk (i:=1) (N:=some 13) (v:=?_) (a':=?_) #[τ,τ,φ,φ,φ,φ,φ,φ] rfl rfl (ζj HT_.out (by kernel_rfl)) (fun _ _ _ h=>h) (Or.inl ⟨by rfl,?_⟩) ?_ ?_
       rotate_left
       · intro w';go_simp;with_reducible rfl
       rotate_left
       · simp only [ζl,δa,δb,δc,i64_w,i32_w];rfl
       refine ζk (i:=2) (N:=some 14) (v:=?_) (a':=?_) #[τ,τ,τ,φ,φ,φ,φ,φ] rfl rfl (ζj HT_.out (by kernel_rfl)) (fun _ _ _ h=>h) (Or.inl ⟨by rfl,?_⟩) ?_ ?_
       rotate_left
       · intro w';go_simp;with_reducible rfl
       rotate_left
       · simp only [ζl,δa,δb,δc,i64_w,i32_w];rfl
       refine ζk (i:=3) (N:=some 15) (v:=?_) (a':=?_) #[τ,τ,τ,τ,φ,φ,φ,φ] rfl rfl (ζj HT_.out (by kernel_rfl)) (fun _ _ _ h=>h) (Or.inl ⟨by rfl,?_⟩) ?_ ?_
       rotate_left
       · intro w';go_simp;with_reducible rfl
       rotate_left
       · simp only [ζl,δa,δb,δc,i64_w,i32_w];rfl
       refine ζk (i:=5) (N:=some 17) (v:=?_) (a':=?_) #[τ,τ,τ,τ,φ,τ,φ,φ] rfl rfl (ζj HT_.out (by kernel_rfl)) (fun _ _ _ h=>h) (Or.inl ⟨by rfl,?_⟩) ?_ ?_
       rotate_left
       · intro w';go_simp;with_reducible rfl
       rotate_left
       · simp only [ζl,δa,δb,δc,i64_w,i32_w];rfl
       refine take_ (i:=4) (N:=some 16) (v:=?_) (a':=?_) #[τ,τ,τ,τ,τ,τ,φ,φ] rfl rfl (take_ofW HT_.out HW_.out (by kernel_rfl)) (fun _ _ _ h=>h) (Or.inl ⟨by rfl,?_⟩) hHeld ?_ ?_
       rotate_left
       · rintro w' ⟨s0,s1⟩;go_simp;with_reducible rfl
       rotate_left
       · simp only [ζl,δa,δb,δc,i64_w,i32_w];rfl
       refine one_ (i:=6) (N:=some 18) #[τ,τ,τ,τ,τ,τ,τ,φ] rfl rfl (one_of HT_.out (by kernel_rfl)) (by decide) (fun K hK => ?_)
       refine goes_ Tryz.func48 (by kernel_rfl) rfl #[.int .i64 x1_1] (by rfl) rfl rfl (by (try simp only [δd,δe,δf]);first|done|rfl|(simp only [δg,δh];rfl)) ?_
       with_reducible refine (laws_markText.calls k1 x1_1 t275 _ A5.out).mono ?_
       rintro e w14 ⟨rfl,hb⟩
       refine ⟨_,rfl,?_⟩
       have n0_:=ζa (δr (by repeat (first|(with_reducible first|exact HB.out|apply δk|apply δi|apply δj)|exact HB.out)) hb)
       clear HB
       have HB:=n0_
       clear n0_
       (try clear hb)
       (try clear hb2)
       (try clear hk)
       (try clear hi)
       refine hK.out _ _ ⟨((HB.out.cell (World.block_lt_of_cell? w _ hw274_0)).trans hw274_0),((HB.out.cell (World.block_lt_of_cell? w _ hw274_1)).trans hw274_1)⟩ (fun hHeld => ?_)
       clear hK K
       refine norm_ (a':=?_) ?_ ?_
       rotate_left
       ·
        show ζl _ (some 18) _=_
        simp only [ζl,δa,δb,δc,i64_w,i32_w];rfl
       refine ζk (i:=7) (N:=some 19) (v:=?_) (a':=?_) #[τ,τ,τ,τ,τ,τ,τ,τ] rfl rfl (ζj HT_.out (by kernel_rfl)) (fun _ _ _ h=>h) (Or.inl ⟨by rfl,?_⟩) ?_ ?_
       rotate_left
       · intro w';go_simp;with_reducible rfl
       rotate_left
       · simp only [ζl,δa,δb,δc,i64_w,i32_w];rfl
       refine done_ (done_of HT_.out (by kernel_rfl)) ?_
       try go_wp2
       have n0_:=ζa (δj HB.out)
       clear HB
       have HB:=n0_
       clear n0_
       have p276:0≤(x5_1:Int):=of_decide_eq_true (by first|(with_reducible assumption)|assumption)
       have q276:x5_1<(l0.length:Int):=of_decide_eq_true (by first|(with_reducible assumption)|assumption)
       obtain ⟨ad276,e276,hx276_0,hx276_1⟩:=at_T51 HR0.out x5_1 p276 q276
       have hw276_1:=hx276_1
       have hw276_0:=hx276_0
       obtain rfl:ad274=ad276:=(by injection e276)
       replace hx276_0:=(HB.out.cell (World.block_lt_of_cell? w _ hx276_0)).trans hx276_0
       replace hx276_1:=(HB.out.cell (World.block_lt_of_cell? w _ hx276_1)).trans hx276_1
       replace p276:=eq_true p276
       replace q276:=eq_true q276
       refine start_ (n:=8) (S:=fun w'=>w'.cell? (ad274.add ((x5_1).toNat * 2))=some (.string ((rd_T51 l0 x5_1).f0))∧w'.cell? ⟨(ad274.add ((x5_1).toNat * 2)).block,(ad274.add ((x5_1).toNat * 2)).off+1,none⟩=some (.string ((rd_T51 l0 x5_1).f1))) (ds:=[]) #[φ,φ,φ,φ,φ,φ,φ,φ] (by kernel_rfl) rfl rfl ⟨((HB.out.cell (World.block_lt_of_cell? w _ hw276_0)).trans hw276_0),((HB.out.cell (World.block_lt_of_cell? w _ hw276_1)).trans hw276_1)⟩ (fun hHeld => ?_);refine with_tabW laws_heldPairS.tab7 laws_heldPairS.bits7 (fun HT_ HW_ => ?_)
       generalize w14.drew=w15 at HB hx276_0 hx276_1 hHeld ⊢
       refine ζk (i:=0) (N:=some 22) (v:=?_) (a':=?_) #[τ,φ,φ,φ,φ,φ,φ,φ] rfl rfl (ζj HT_.out (by kernel_rfl)) (fun _ _ _ h=>h) (Or.inl ⟨by rfl,?_⟩) ?_ ?_
       rotate_left
       · intro w';go_simp;with_reducible rfl
       rotate_left
       · simp only [ζl,δa,δb,δc,i64_w,i32_w];rfl
       refine ζk (i:=1) (N:=some 23) (v:=?_) (a':=?_) #[τ,τ,φ,φ,φ,φ,φ,φ] rfl rfl (ζj HT_.out (by kernel_rfl)) (fun _ _ _ h=>h) (Or.inl ⟨by rfl,?_⟩) ?_ ?_
       rotate_left
       · intro w';go_simp;with_reducible rfl
       rotate_left
       · simp only [ζl,δa,δb,δc,i64_w,i32_w];rfl
       refine ζk (i:=2) (N:=some 24) (v:=?_) (a':=?_) #[τ,τ,τ,φ,φ,φ,φ,φ] rfl rfl (ζj HT_.out (by kernel_rfl)) (fun _ _ _ h=>h) (Or.inl ⟨by rfl,?_⟩) ?_ ?_
       rotate_left
       · intro w';go_simp;with_reducible rfl
       rotate_left
       · simp only [ζl,δa,δb,δc,i64_w,i32_w];rfl
       refine ζk (i:=3) (N:=some 25) (v:=?_) (a':=?_) #[τ,τ,τ,τ,φ,φ,φ,φ] rfl rfl (ζj HT_.out (by kernel_rfl)) (fun _ _ _ h=>h) (Or.inl ⟨by rfl,?_⟩) ?_ ?_
       rotate_left
       · intro w';go_simp;with_reducible rfl
       rotate_left
       · simp only [ζl,δa,δb,δc,i64_w,i32_w];rfl
       refine ζk (i:=5) (N:=some 27) (v:=?_) (a':=?_) #[τ,τ,τ,τ,φ,τ,φ,φ] rfl rfl (ζj HT_.out (by kernel_rfl)) (fun _ _ _ h=>h) (Or.inl ⟨by rfl,?_⟩) ?_ ?_
       rotate_left
       · intro w';go_simp;with_reducible rfl
       rotate_left
       · simp only [ζl,δa,δb,δc,i64_w,i32_w];rfl
       refine take_ (i:=4) (N:=some 26) (v:=?_) (a':=?_) #[τ,τ,τ,τ,τ,τ,φ,φ] rfl rfl (take_ofW HT_.out HW_.out (by kernel_rfl)) (fun _ _ _ h=>h) (Or.inl ⟨by rfl,?_⟩) hHeld ?_ ?_
       rotate_left
       · rintro w' ⟨s0,s1⟩;go_simp;with_reducible rfl
       rotate_left
       · simp only [ζl,δa,δb,δc,i64_w,i32_w];rfl
       refine one_ (i:=6) (N:=some 28) #[τ,τ,τ,τ,τ,τ,τ,φ] rfl rfl (one_of HT_.out (by kernel_rfl)) (by decide) (fun K hK => ?_)
       refine goes_ Tryz.func48 (by kernel_rfl) rfl #[.int .i64 (ζm (x1_1+1))] (by rfl) rfl rfl (by (try simp only [δd,δe,δf]);first|done|rfl|(simp only [δg,δh];rfl)) ?_
       with_reducible refine (laws_markText.calls k1 (ζm (x1_1+1)) t277 _ A7.out).mono ?_
       rintro e w16 ⟨rfl,hb⟩
       refine ⟨_,rfl,?_⟩
       have n0_:=ζa (δr (by repeat (first|(with_reducible first|exact HB.out|apply δk|apply δi|apply δj)|exact HB.out)) hb)
       clear HB
       have HB:=n0_
       clear n0_
       (try clear hb)
       (try clear hb2)
       (try clear hk)
       (try clear hi)
       refine hK.out _ _ ⟨((HB.out.cell (World.block_lt_of_cell? w _ hw276_0)).trans hw276_0),((HB.out.cell (World.block_lt_of_cell? w _ hw276_1)).trans hw276_1)⟩ (fun hHeld => ?_)
       clear hK K
       refine norm_ (a':=?_) ?_ ?_
       rotate_left
       ·
        show ζl _ (some 28) _=_
        simp only [ζl,δa,δb,δc,i64_w,i32_w];rfl
       refine ζk (i:=7) (N:=some 29) (v:=?_) (a':=?_) #[τ,τ,τ,τ,τ,τ,τ,τ] rfl rfl (ζj HT_.out (by kernel_rfl)) (fun _ _ _ h=>h) (Or.inl ⟨by rfl,?_⟩) ?_ ?_
       rotate_left
       · intro w';go_simp;with_reducible rfl
       rotate_left
       · simp only [ζl,δa,δb,δc,i64_w,i32_w];rfl
       refine done_ (done_of HT_.out (by kernel_rfl)) ?_
       try go_wp2
       go_ret
       exact ⟨by first|rfl|(simp [errW_none,errW_some] <;> rfl)|(simp [*,errW_none,errW_some] <;> rfl),by repeat (first|(with_reducible first|exact HB.out|apply δk|apply δi|apply δj)|exact HB.out)⟩
     ·
      rw [if_neg c6] at H
      have c6b0:(((rd_T51 l0 x5_1).f0).toList == t275.toList)=φ:=beq_eq_false_iff_ne.mpr c6
      have c6b1:(((rd_T51 l0 x5_1).f0).toList != t275.toList)=τ:=bne_iff_ne.mpr c6
      obtain rfl:=Option.some.inj H
      try go_wp2
      have n0_:=ζa (δj HB.out)
      clear HB
      have HB:=n0_
      clear n0_
      have p274:0≤(x5_1:Int):=of_decide_eq_true (by first|(with_reducible assumption)|assumption)
      have q274:x5_1<(l0.length:Int):=of_decide_eq_true (by first|(with_reducible assumption)|assumption)
      obtain ⟨ad274,e274,hx274_0,hx274_1⟩:=at_T51 HR0.out x5_1 p274 q274
      have hw274_1:=hx274_1
      have hw274_0:=hx274_0
      cases e274
      replace hx274_0:=(HB.out.cell (World.block_lt_of_cell? w _ hx274_0)).trans hx274_0
      replace hx274_1:=(HB.out.cell (World.block_lt_of_cell? w _ hx274_1)).trans hx274_1
      replace p274:=eq_true p274
      replace q274:=eq_true q274
      refine start_ (n:=8) (S:=fun w'=>w'.cell? (ad274.add ((x5_1).toNat * 2))=some (.string ((rd_T51 l0 x5_1).f0))∧w'.cell? ⟨(ad274.add ((x5_1).toNat * 2)).block,(ad274.add ((x5_1).toNat * 2)).off+1,none⟩=some (.string ((rd_T51 l0 x5_1).f1))) (ds:=[]) #[φ,φ,φ,φ,φ,φ,φ,φ] (by kernel_rfl) rfl rfl ⟨((HB.out.cell (World.block_lt_of_cell? w _ hw274_0)).trans hw274_0),((HB.out.cell (World.block_lt_of_cell? w _ hw274_1)).trans hw274_1)⟩ (fun hHeld => ?_);refine with_tabW laws_heldPairS.tab4 laws_heldPairS.bits4 (fun HT_ HW_ => ?_)
      generalize wr.drew=w17 at HB hx274_0 hx274_1 hHeld ⊢
      refine ζk (i:=0) (N:=some 12) (v:=?_) (a':=?_) #[τ,φ,φ,φ,φ,φ,φ,φ] rfl rfl (ζj HT_.out (by kernel_rfl)) (fun _ _ _ h=>h) (Or.inl ⟨by rfl,?_⟩) ?_ ?_
      rotate_left
      · intro w';go_simp;with_reducible rfl
      rotate_left
      · simp only [ζl,δa,δb,δc,i64_w,i32_w];rfl
      refine ζk (i:=1) (N:=some 13) (v:=?_) (a':=?_) #[τ,τ,φ,φ,φ,φ,φ,φ] rfl rfl (ζj HT_.out (by kernel_rfl)) (fun _ _ _ h=>h) (Or.inl ⟨by rfl,?_⟩) ?_ ?_
      rotate_left
      · intro w';go_simp;with_reducible rfl
      rotate_left
      · simp only [ζl,δa,δb,δc,i64_w,i32_w];rfl
      refine ζk (i:=2) (N:=some 14) (v:=?_) (a':=?_) #[τ,τ,τ,φ,φ,φ,φ,φ] rfl rfl (ζj HT_.out (by kernel_rfl)) (fun _ _ _ h=>h) (Or.inl ⟨by rfl,?_⟩) ?_ ?_
      rotate_left
      · intro w';go_simp;with_reducible rfl
      rotate_left
      · simp only [ζl,δa,δb,δc,i64_w,i32_w];rfl
      refine ζk (i:=3) (N:=some 15) (v:=?_) (a':=?_) #[τ,τ,τ,τ,φ,φ,φ,φ] rfl rfl (ζj HT_.out (by kernel_rfl)) (fun _ _ _ h=>h) (Or.inl ⟨by rfl,?_⟩) ?_ ?_
      rotate_left
      · intro w';go_simp;with_reducible rfl
      rotate_left
      · simp only [ζl,δa,δb,δc,i64_w,i32_w];rfl
      refine ζk (i:=5) (N:=some 17) (v:=?_) (a':=?_) #[τ,τ,τ,τ,φ,τ,φ,φ] rfl rfl (ζj HT_.out (by kernel_rfl)) (fun _ _ _ h=>h) (Or.inl ⟨by rfl,?_⟩) ?_ ?_
      rotate_left
      · intro w';go_simp;with_reducible rfl
      rotate_left
      · simp only [ζl,δa,δb,δc,i64_w,i32_w];rfl
      refine take_ (i:=4) (N:=some 16) (v:=?_) (a':=?_) #[τ,τ,τ,τ,τ,τ,φ,φ] rfl rfl (take_ofW HT_.out HW_.out (by kernel_rfl)) (fun _ _ _ h=>h) (Or.inl ⟨by rfl,?_⟩) hHeld ?_ ?_
      rotate_left
      · rintro w' ⟨s0,s1⟩;go_simp;with_reducible rfl
      rotate_left
      · simp only [ζl,δa,δb,δc,i64_w,i32_w];rfl
      refine one_ (i:=6) (N:=some 18) #[τ,τ,τ,τ,τ,τ,τ,φ] rfl rfl (one_of HT_.out (by kernel_rfl)) (by decide) (fun K hK => ?_)
      refine goes_ Tryz.func48 (by kernel_rfl) rfl #[.int .i64 x1_1] (by rfl) rfl rfl (by (try simp only [δd,δe,δf]);first|done|rfl|(simp only [δg,δh];rfl)) ?_
      with_reducible refine (laws_markText.calls k1 x1_1 t275 _ A5.out).mono ?_
      rintro e w18 ⟨rfl,hb⟩
      refine ⟨_,rfl,?_⟩
      have n0_:=ζa (δr (by repeat (first|(with_reducible first|exact HB.out|apply δk|apply δi|apply δj)|exact HB.out)) hb)
      clear HB
      have HB:=n0_
      clear n0_
      (try clear hb)
      (try clear hb2)
      (try clear hk)
      (try clear hi)
      refine hK.out _ _ ⟨((HB.out.cell (World.block_lt_of_cell? w _ hw274_0)).trans hw274_0),((HB.out.cell (World.block_lt_of_cell? w _ hw274_1)).trans hw274_1)⟩ (fun hHeld => ?_)
      clear hK K
      refine norm_ (a':=?_) ?_ ?_
      rotate_left
      ·
       show ζl _ (some 18) _=_
       simp only [ζl,δa,δb,δc,i64_w,i32_w];rfl
      refine ζk (i:=7) (N:=some 19) (v:=?_) (a':=?_) #[τ,τ,τ,τ,τ,τ,τ,τ] rfl rfl (ζj HT_.out (by kernel_rfl)) (fun _ _ _ h=>h) (Or.inl ⟨by rfl,?_⟩) ?_ ?_
      rotate_left
      · intro w';go_simp;with_reducible rfl
      rotate_left
      · simp only [ζl,δa,δb,δc,i64_w,i32_w];rfl
      refine done_ (done_of HT_.out (by kernel_rfl)) ?_
      try go_wp2
      go_ret
      exact ⟨by first|rfl|(simp [errW_none,errW_some] <;> rfl)|(simp [*,errW_none,errW_some] <;> rfl),by repeat (first|(with_reducible first|exact HB.out|apply δk|apply δi|apply δj)|exact HB.out)⟩
    ·
     rw [if_neg c4] at H
     exact absurd H (by simp)
   ·
    rw [if_neg c3] at H
    have c3b0:decide (x5_1<(l0.length:Int))=φ:=decide_eq_false c3
    clear c3
    obtain rfl:=Option.some.inj H
    go_wp2
    go_ret
    exact ⟨by first|rfl|(simp [errW_none,errW_some] <;> rfl)|(simp [*,errW_none,errW_some] <;> rfl),by repeat (first|(with_reducible first|exact HB.out|apply δk|apply δi|apply δj)|exact HB.out)⟩

end Go.Proofs.YtabmfhnhmoiljaaGreatDoor.Q
