/- Parts of the proof: what single Go functions compute, each with its walk, and plain laws over these. -/
import Derived.Test.YtggemblkhckbpaaVMac
import Derived.Test.YtggemblkhckbpaaM0
namespace Go.Proofs.Ytggemblkhckbpaa.Q
open Go.RowKit Go.Proofs.YtggemblkhckbpaaW.PrintWords Go.Proofs.YtggemblkhckbpaaW.PrintLast Go.Proofs.YtggemblkhckbpaaW.PrintMore
open Go.Proofs.YtggemblkhckbpaaW.PrintLast renaming any_of → ζj, pure_ → ζk
open Go.Act renaming put → ζl
open List renaming setIfInBounds_toArray → δa, set_cons_zero → δb, set_cons_succ → δc
open Go.Proofs.YtggemblkhckbpaaW.PrintWords renaming below_step → δr, below_alloc → δk, gate_dst → δx, blk_cell → δl, blk_drewN → δn, pw_below_drewN → δi, blk_drew → δp, below_drew1 → δj, blk_frozen → δm, below_set → δq, blk_put → δw
open Go.Proofs.YtggemblkhckbpaaW.PrintWords.Aside0 renaming mk → ζa
open Go.Proofs.YtggemblkhckbpaaW.PrintWords.Kd renaming R_below → ζh, R_drewN → ζc, R_drew → ζe, R_reads' → ζg, R_ne → ζf, R_far → ζi
open Go.RowKit renaming wrap64 → ζm
open Bool renaming true → τ, false → φ
attribute [local go_sem] max2_int min2_int max_two min_two max_three min_three max_four min_four   -- for this text's walks alone
set_option linter.unusedVariables false
set_option linter.unusedSimpArgs false
set_option maxHeartbeats 8000000
set_option maxRecDepth 100000


/-! ### impl_Client_update: function 33 -/
def impl_Client_update.f (k:Nat) (last:ByteArray) (l:List S39) (h0 h1:Int) (h2 h3:ByteArray):Option (ByteArray × List S39 × Int) :=
 if l.length≤1000000 then (if h0≤(l.length:Int) then some (last,l,15) else if h0=(l.length:Int)+1 then (if h2.toList=last.toList then (if 0<l.length∧h1<(rd_T39 l ((l.length:Int) - 1)).f0 then some (last,l,4) else (impl_Header_hash.f k h0 h1 h2 h3).bind fun t=>some (t,l ++ [⟨h1,h3⟩],0)) else some (last,l,11)) else some (last,l,14)) else none
def impl_Client_update.T8:Bool × List (List Nat × List Nat):=(τ,[([],[]),([0],[0]),([1],[1]),([2],[2]),([3,2],[2,3]),([2],[2]),([5,2],[2,5]),([6,2],[2,6]),([7,2],[2,7]),([2],[2]),([9,2],[2,9]),([8,10,2],[2,8,10]),([11,2],[2,11]),([12,2],[2,12]),([4,13,2],[2,4,13]),([2,14],[2,14]),([15,2],[15])])
def impl_Client_update.B8:List Nat:=[0,1,3,7,15,7,39,103,231,7,519,2023,4071,8167,16383,32767,65535]
theorem impl_Client_update.tab8:rtab .any (opsOf Try.f33 8)=impl_Client_update.T8:=by kernel_rfl
theorem impl_Client_update.bits8:waitsOk impl_Client_update.T8.2 impl_Client_update.B8=τ:=by kernel_rfl
def impl_Client_update.T10:Bool × List (List Nat × List Nat):=(τ,[([],[]),([],[]),([],[]),([2],[2]),([],[]),([4],[4]),([5],[5]),([6],[6]),([],[]),([8],[8]),([],[]),([10],[10]),([9,11],[9,11]),([12],[12]),([7,13,3],[7,13]),([0,0,2,3,7,14],[0]),([15,0,2,3,7,14],[15]),([16,3,14,0,2,3,7,14],[3,16]),([1,0,1,2,3,4,5,6,7,8,9,10,11,12,13,14,15,16,17],[1]),([18,0,1,2,3,4,5,6,7,8,9,10,11,12,13,14,15,16,17],[18]),([19,14,17,0,1,2,3,4,5,6,7,8,9,10,11,12,13,14,15,16,17],[14,19])])
def impl_Client_update.B10:List Nat:=[0,0,0,4,0,16,48,112,0,256,0,1024,3840,7936,16380,32765,65533,131069,262143,524287,1048575]
theorem impl_Client_update.tab10:rtab .any (opsOf Try.f33 10)=impl_Client_update.T10:=by kernel_rfl
theorem impl_Client_update.bits10:waitsOk impl_Client_update.T10.2 impl_Client_update.B10=τ:=by kernel_rfl
theorem impl_Client_update.pn {P:Program} {ops:Array Oper} {Q:Exit→Act→World→Prop} {S:World→Prop} {ds:List Nat} {md:Region.Mode} {fuel:Nat} {l:Array Bool} {a a':Act} {w:World} {oi:Oper} (i:Nat) (N:Tmp) (h:wpAnyLast P md ops Q S ds fuel (l.setIfInBounds i τ) a' w)
  (hi:ops[i]? = some oi:=by exact rfl) (hN:oi.dst=some N:=by exact rfl) (hc:anyB md ops l (l.setIfInBounds i τ) i=τ:=by exact ζj HT_.out (by kernel_rfl))
  (hQ : ∀ c a w,Q (.panic c) (a.put oi.dst undef) w→Q (.panic c) a w:=by exact fun _ _ _ h=>h) (hy:Yields P ops oi undef a:=by exact Or.inr ⟨by rfl,rfl⟩)
  (ha:a.put (some N) undef=a':=by simp only [ζl,δa,δb,δc,i64_w,i32_w];rfl):wpAnyLast P md ops Q S ds (fuel+1) l a w :=
 ζk _ hi hN hc hQ hy ha h
theorem impl_Client_update.os {P:Program} {ops:Array Oper} {Q:Exit→Act→World→Prop} {S:World→Prop} {ds:List Nat} {md:Region.Mode} {fuel:Nat} {l:Array Bool} {a:Act} {w:World} {oi:Oper} (i:Nat)
  (h : ∀ K:Act→World→Prop,Shut (∀ a' w',S w'→(S w'→wpAnyLast P md ops Q S ds fuel (l.setIfInBounds i τ) a' w')→K a' w')→if Region.wanted oi (yielded ops a.tmps)=τ then Oper.wp P oi a w K Q else K (a.put none undef) w)
  (hi:ops[i]? = some oi:=by exact rfl) (hN:oi.dst=none:=by exact rfl) (hc:readyB md ops l (l.setIfInBounds i τ) i=τ:=by exact one_of HT_.out (by kernel_rfl)) (hd:i ∉ ds:=by decide):wpAnyLast P md ops Q S ds (fuel+1) l a w :=
 one_ _ hi hN hc hd h
theorem impl_Client_update.ls {P:Program} {ops:Array Oper} {Q:Exit→Act→World→Prop} {S:World→Prop} {ds:List Nat} {md:Region.Mode} {fuel:Nat} {l:Array Bool} {a:Act} {w:World} {oi:Oper} (i:Nat)
  (h : ∀ K:Act→World→Prop,Shut (∀ a' w',wpAnyLast P md ops Q S ds fuel (l.setIfInBounds i τ) a' w'→K a' w')→if Region.wanted oi (yielded ops a.tmps)=τ then Oper.wp P oi a w K Q else K (a.put none undef) w)
  (hi:ops[i]? = some oi:=by exact rfl) (hN:oi.dst=none:=by exact rfl) (hc:readyB md ops l (l.setIfInBounds i τ) i=τ:=by exact one_of HT_.out (by kernel_rfl)) (hd:i ∈ ds:=by decide):wpAnyLast P md ops Q S ds (fuel+1) l a w :=
 last_ _ hi hN hc hd h
theorem impl_Client_update.lis {P:Program} {ops:Array Oper} {Q:Exit→Act→World→Prop} {a:Act} {o:Oper} {Kc:Act→World→Prop} (w:World) {W:World} (n:Nat) (cs:Array Value) (t:TypeId)
  (h : ∀ g w1,Aside0 (w1.heap[g]? = some (.cells cs t (0,0)))→Aside0 (Below w.heap.size w w1)→Below W.heap.size W w1→Kc (a.put o.dst (.slice (some ⟨g,0,none⟩) n n)) w1)
  (hw:Region.wanted o (yielded ops a.tmps)=τ:=by rfl) (hrun:(execOp a.eval o).run P W = .ok (.value (.slice (some ⟨W.heap.size,0,none⟩) n n)) (W.alloc (.cells cs t)):=by (go_simp;done))
  (HB:Below w.heap.size w W:=by exact blw):if Region.wanted o (yielded ops a.tmps)=τ then Oper.wp P o a W Kc Q else Kc (a.put o.dst undef) W :=
 event_step hw hrun (h _ _ ⟨blk_new W _⟩ ⟨δr HB (δk (Below.refl _ _) _)⟩ (δk (Below.refl _ _) _))
theorem impl_Client_update.one {w:World} {g:Nat} {h1:Int} {h3:ByteArray} (h:w.heap[g]? = some (.cells #[.int .i64 h1,.string h3] 39 (0,0))):Kd.C k39 w (some ⟨g,0,none⟩) 1 [(⟨h1,h3⟩:S39)]:=by
 refine ⟨rfl,by omega,fun _=>⟨_,rfl,fun j p hj => ?_⟩⟩
 obtain ⟨rfl,rfl⟩:j=0∧p=⟨h1,h3⟩:=by
  cases j with
  | zero=>exact ⟨rfl,by simpa using hj.symm⟩
  | succ n=>simp at hj
 refine ⟨_,rfl,k39_mk w _,fun i v hi => ?_⟩
 rw [add_plain]
 simp only [World.cell?,h]
 match i,hi with
 | 0,hi=>simpa using hi
 | 1,hi=>simpa using hi
 | n+2,hi=>simp at hi
theorem impl_Client_update.calls (k:Nat) (g:Nat) (v:Value) (last:ByteArray) (l:List S39) (h0 h1:Int) (h2 h3:ByteArray) (r1:ByteArray) (r2:List S39) (r3:Int) (w0 w:World) (hB:Below w0.heap.size w0 w) (hg:w0.heap.size≤g)
  (hbk:w.heap[g]? = some (.cells #[.string last,v] 25 (0,0))) (hR:Kd.R k39 39 w w0.heap.size (fun _=>True) v l) (h:impl_Client_update.f k last l h0 h1 h2 h3=some (r1,r2,r3)) :
  Calls Try.prog 33 #[.pointer (some ⟨g,0,none⟩),.agg #[.int .i64 h0,.int .i64 h1,.string h2,.string h3]] w fun e w'=>e = .returned (.int .i64 r3)∧(∃ v':Value,w'.heap[g]? = some (.cells #[.string r1,v'] 25 (0,0))∧Kd.R k39 39 w' w0.heap.size (fun _=>True) v' r2)∧Below w0.heap.size w0 w'∧(∀ k t cs,w.heap[k]? = some (.cells cs t (0,0))→t≠39→k≠g→w'.heap[k]? = some (.cells cs t (0,0))):=by
 unfold impl_Client_update.f at h
 split at h
 rotate_left
 · cases h
 rename_i hlen
 obtain ⟨A,c,rfl⟩:=Kd.R_slice hR
 have HR:=ζa hR
 have BG:=ζa hbk
 have HG:=ζa hg
 have BX:Aside0 (∀ (k:Nat) (t:Nat) (cs:Array Value),w.heap[k]? = some (.cells cs t (0,0))→t≠39→k≠g→w.heap[k]? = some (.cells cs t (0,0))):=⟨fun k t cs h h1 h2=>h⟩
 have HB:=ζa hB
 have HH:=ζa h
 have HL:=ζa hlen
 clear hR hbk hg hB h hlen
 go_enter Try.func33,Try.ntmps33
 go_upto_region 2 with (first
  | ((with_reducible refine δx (N:=3) rfl ?_);refine bx w0 3 #[.int .i64 h0,.int .i64 h1,.string h2,.string h3] 28 ?_;intro gh w1 BH GH HB hb;replace BG:=ζa (blk_below BG.out hb);replace BX:=ζa (fun k t cs h h1 h2=>blk_below (BX.out k t cs h h1 h2) hb);replace HR:=ζa (ζh HR.out hb);clear hb;have hz0:=(δl BH.out 0).trans rfl;have hz1:=(δl BH.out 1).trans rfl;have hz2:=(δl BH.out 2).trans rfl;have hz3:=(δl BH.out 3).trans rfl;have hy0:=(δl BG.out 0).trans rfl;have hy1:=(δl BG.out 1).trans rfl))
 have h:=HH.out
 clear HH
 by_cases c1:h0≤(l.length:Int)
 ·
  rw [if_pos c1] at h
  simp only [Option.some.injEq,Prod.mk.injEq] at h
  obtain ⟨rfl,rfl,rfl⟩:=h
  have b1:decide (h0≤(l.length:Int))=τ:=decide_eq_true c1
  clear c1
  go_wp2
  go_ret
  exact ⟨rfl,⟨_,BG.out,HR.out⟩,HB.out,BX.out⟩
 rw [if_neg c1] at h
 have b1:decide (h0≤(l.length:Int))=φ:=decide_eq_false c1
 clear c1
 have HH:=ζa h
 clear h
 go_upto_region 4 with fail
 have h:=HH.out
 clear HH
 by_cases c2:h0=(l.length:Int)+1
 rotate_left
 ·
  rw [if_neg c2] at h
  simp only [Option.some.injEq,Prod.mk.injEq] at h
  obtain ⟨rfl,rfl,rfl⟩:=h
  have b2:(h0 != ζm ((l.length:Int)+1))=τ:=bne_iff_ne.mpr (by have:=HL.out;unfold ζm;omega)
  clear c2
  go_wp2
  go_ret
  exact ⟨rfl,⟨_,BG.out,HR.out⟩,HB.out,BX.out⟩
 rw [if_pos c2] at h
 have b2:(h0 != ζm ((l.length:Int)+1))=φ:=bne_eq_false_iff_eq.mpr (by have:=HL.out;unfold ζm;omega)
 clear c2
 have HH:=ζa h
 clear h
 go_upto_region 6 with fail
 have h:=HH.out
 clear HH
 by_cases c3:h2.toList=last.toList
 rotate_left
 ·
  rw [if_neg c3] at h
  simp only [Option.some.injEq,Prod.mk.injEq] at h
  obtain ⟨rfl,rfl,rfl⟩:=h
  have b3:(h2.toList == last.toList)=φ:=beq_eq_false_iff_ne.mpr c3
  clear c3
  go_quiet (fail)
  go_wp2
  go_ret
  exact ⟨rfl,⟨_,δn BG.out _,ζc HR.out _⟩,δi HB.out _,fun k t cs h h1 h2=>δn (BX.out k t cs h h1 h2) _⟩
 rw [if_pos c3] at h
 have b3:(h2.toList == last.toList)=τ:=beq_iff_eq.mpr c3
 clear c3
 have HH:=ζa h
 clear h
 go_quiet (fail)
 replace BG:=ζa (δn BG.out nq)
 replace BX:=ζa (fun k t cs h h1 h2=>δn (BX.out k t cs h h1 h2) nq)
 replace BH:=ζa (δn BH.out nq)
 replace HR:=ζa (ζc HR.out nq)
 replace HB:=ζa (δi HB.out nq)
 clear hz0 hz1 hz2 hz3 hy0 hy1
 generalize w1.drewN nq=w2 at BG BX BH HR HB ⊢
 go_upto_region 8 with fail
 have h:=HH.out
 clear HH
 replace BG:=ζa (δp BG.out)
 replace BX:=ζa (fun k t cs h h1 h2=>δp (BX.out k t cs h h1 h2))
 replace BH:=ζa (δp BH.out)
 replace HR:=ζa (ζe HR.out)
 replace HB:=ζa (δj HB.out)
 by_cases c4:0<(l.length:Int)
 case' neg =>
  rw [if_neg (fun x=>c4 (by omega))] at h
  have b4:decide (0<(l.length:Int))=φ:=decide_eq_false c4
  have b5:decide (0<l.length)=φ:=decide_eq_false (by omega)
  clear c4
  have HH:=ζa h
  clear h
  refine sta 17 (fun w'=>True) [] impl_Client_update.tab8 impl_Client_update.bits8 trivial (fun hHeld HT_ HW_ => ?_)
  generalize w2.drew=w3 at BG BX BH HR HB hHeld ⊢
  refine pu 0 31 ?_
  refine pu 1 32 ?_
  refine pu 2 33 ?_
  refine impl_Client_update.pn 3 34 ?_
  refine impl_Client_update.pn 4 35 ?_
  refine impl_Client_update.pn 5 36 ?_
  refine impl_Client_update.pn 6 37 ?_
  refine impl_Client_update.pn 7 38 ?_
  refine impl_Client_update.pn 8 39 ?_
  refine impl_Client_update.pn 9 40 ?_
  refine impl_Client_update.pn 10 41 ?_
  refine impl_Client_update.pn 11 42 ?_
  refine impl_Client_update.pn 12 43 ?_
  refine impl_Client_update.pn 13 44 ?_
  refine impl_Client_update.pn 14 45 ?_
  refine pu 15 46 ?_
  refine pu 16 30 ?_
  refine done_ (done_of HT_.out (by kernel_rfl)) ?_
  clear HT_ HW_ hHeld
  go_upto_region 10 with fail
 case' pos =>
  have b4:decide (0<(l.length:Int))=τ:=decide_eq_true c4
  have b5:decide (0<l.length)=τ:=decide_eq_true (by omega)
  obtain ⟨j,hj⟩ : ∃ j:Int,j=(l.length:Int) - 1:=⟨_,rfl⟩
  have p:0≤j:=by omega
  have q:j<(l.length:Int):=by omega
  have hw:ζm ((l.length:Int) - 1)=j:=by have:=HL.out;unfold ζm;omega
  have hw':IntKind.i64.wrap ((l.length:Int) - 1)=j:=(i64_w _).trans hw
  rw [← hj] at h
  clear hj
  obtain ⟨ad,e_,hx0,hx1⟩:=at_T39 (ζg HR.out).2.2 j p q
  cases e_
  replace p:=eq_true p
  replace q:=eq_true q
  refine sta 17 (fun w'=>w'.cell? ⟨gh,1,none⟩=some (.int .i64 h1)∧w'.cell? ⟨g,1,none⟩=some (.slice (some ad) l.length c)∧w'.cell? (ad.add (j.toNat * 2))=some (.int .i64 (rd_T39 l j).f0)) [] impl_Client_update.tab8 impl_Client_update.bits8 ⟨(δl BH.out 1).trans rfl,(δl BG.out 1).trans rfl,hx0⟩ (fun hHeld HT_ HW_ => ?_)
  clear hx0 hx1
  generalize w2.drew=w3 at BG BX BH HR HB hHeld ⊢
  have HH:=ζa h
  clear h
  refine pu 0 31 ?_
  refine pu 1 32 ?_
  refine pu 2 33 ?_
  refine pu 3 34 ?_
  refine ta 4 35 ?_
  refine pu 5 36 ?_
  refine pu 6 37 ?_
  refine pu 7 38 ?_
  refine ta 8 39 ?_
  refine pu 9 40 ?_
  refine pu 10 41 ?_
  refine pu 11 42 ?_
  refine pu 12 43 ?_
  refine ta 13 44 ?_
  refine pu 14 45 ?_
  refine pu 15 46 ?_
  refine pu 16 30 ?_
  refine done_ (done_of HT_.out (by kernel_rfl)) ?_
  clear HT_ HW_ hHeld
  have h:=HH.out
  clear HH
  by_cases c5:h1<(rd_T39 l j).f0
  ·
   rw [if_pos ⟨by omega,c5⟩] at h
   simp only [Option.some.injEq,Prod.mk.injEq] at h
   obtain ⟨rfl,rfl,rfl⟩:=h
   go_wp2
   go_ret
   exact ⟨rfl,⟨_,BG.out,HR.out⟩,HB.out,BX.out⟩
  rw [if_neg (fun x=>c5 x.2)] at h
  clear c4
  have HH:=ζa h
  clear h
  go_upto_region 10 with fail
  clear c5
  generalize some ad=A at BG HR ⊢
 all_goals
  obtain ⟨tt,ht,h⟩:=bsm HH.out
  clear HH
  simp only [Option.some.injEq,Prod.mk.injEq] at h
  obtain ⟨rfl,rfl,rfl⟩:=h
  replace BG:=ζa (δp BG.out)
  replace BX:=ζa (fun k t cs h h1 h2=>δp (BX.out k t cs h h1 h2))
  replace BH:=ζa (δp BH.out)
  replace HR:=ζa (ζe HR.out)
  replace HB:=ζa (δj HB.out)
  refine sta 21 (fun w'=>w'.cell? ⟨gh,0,none⟩=some (.int .i64 h0)∧w'.cell? ⟨gh,1,none⟩=some (.int .i64 h1)∧w'.cell? ⟨gh,2,none⟩=some (.string h2)∧w'.cell? ⟨gh,3,none⟩=some (.string h3)∧w'.cell? ⟨g,1,none⟩=some (.slice A l.length c)) [20] impl_Client_update.tab10 impl_Client_update.bits10 ⟨(δl BH.out 0).trans rfl,(δl BH.out 1).trans rfl,(δl BH.out 2).trans rfl,(δl BH.out 3).trans rfl,(δl BG.out 1).trans rfl⟩ (fun hHeld HT_ HW_ => ?_)
  generalize w3.drew=w4 at BG BX BH HR HB hHeld ⊢
  refine pu 0 47 ?_
  refine pu 1 48 ?_
  refine pu 4 51 ?_
  refine pu 5 52 ?_
  refine pu 6 53 ?_
  refine pu 8 55 ?_
  refine pu 10 57 ?_
  refine ta 2 49 ?_
  refine ta 7 54 ?_
  refine ta 9 56 ?_
  refine ta 11 58 ?_
  refine pu 12 59 ?_
  refine tw 3 13 50 60 (fun K hK => ?_) (fun K hK => ?_)
  refine gs Try.func34 #[.agg #[.int .i64 h0,.int .i64 h1,.string h2,.string h3]] ?_
  refine (impl_Header_hash.calls k h0 h1 h2 h3 tt _ ht.out).mono ?_
  rintro e w5 ⟨rfl,hb⟩
  refine ⟨_,rfl,?_⟩
  replace BG:=ζa (blk_below BG.out hb)
  replace BX:=ζa (fun k t cs h h1 h2=>blk_below (BX.out k t cs h h1 h2) hb)
  replace BH:=ζa (blk_below BH.out hb)
  replace HR:=ζa (ζh HR.out hb)
  replace HB:=ζa (δr HB.out hb)
  clear hb
  refine hK.out _ _ ⟨(δl BH.out 0).trans rfl,(δl BH.out 1).trans rfl,(δl BH.out 2).trans rfl,(δl BH.out 3).trans rfl,(δl BG.out 1).trans rfl⟩ (fun hHeld=>nm 50 ?_)
  clear hK K
  refine on 13 60 (fun K hK => ?_)
  refine impl_Client_update.lis w0 1 #[.int .i64 h1,.string h3] 39 ?_
  intro gl w6 BL HB hb
  replace BG:=ζa (blk_below BG.out hb)
  replace BX:=ζa (fun k t cs h h1 h2=>blk_below (BX.out k t cs h h1 h2) hb)
  replace BH:=ζa (blk_below BH.out hb)
  replace HR:=ζa (ζh HR.out hb)
  clear hb
  refine hK.out _ _ ⟨(δl BH.out 0).trans rfl,(δl BH.out 1).trans rfl,(δl BH.out 2).trans rfl,(δl BH.out 3).trans rfl,(δl BG.out 1).trans rfl⟩ (fun hHeld=>nm 60 ?_)
  clear hK K
  rotate_left
  refine impl_Client_update.lis w0 1 #[.int .i64 h1,.string h3] 39 ?_
  intro gl w6 BL HB hb
  replace BG:=ζa (blk_below BG.out hb)
  replace BX:=ζa (fun k t cs h h1 h2=>blk_below (BX.out k t cs h h1 h2) hb)
  replace BH:=ζa (blk_below BH.out hb)
  replace HR:=ζa (ζh HR.out hb)
  clear hb
  refine hK.out _ _ ⟨(δl BH.out 0).trans rfl,(δl BH.out 1).trans rfl,(δl BH.out 2).trans rfl,(δl BH.out 3).trans rfl,(δl BG.out 1).trans rfl⟩ (fun hHeld=>nm 60 ?_)
  clear hK K
  refine on 3 50 (fun K hK => ?_)
  refine gs Try.func34 #[.agg #[.int .i64 h0,.int .i64 h1,.string h2,.string h3]] ?_
  refine (impl_Header_hash.calls k h0 h1 h2 h3 tt _ ht.out).mono ?_
  rintro e w5 ⟨rfl,hb⟩
  refine ⟨_,rfl,?_⟩
  replace BG:=ζa (blk_below BG.out hb)
  replace BX:=ζa (fun k t cs h h1 h2=>blk_below (BX.out k t cs h h1 h2) hb)
  replace BH:=ζa (blk_below BH.out hb)
  replace HR:=ζa (ζh HR.out hb)
  replace BL:=ζa (blk_below BL.out hb)
  replace HB:=ζa (δr HB.out hb)
  clear hb
  refine hK.out _ _ ⟨(δl BH.out 0).trans rfl,(δl BH.out 1).trans rfl,(δl BH.out 2).trans rfl,(δl BH.out 3).trans rfl,(δl BG.out 1).trans rfl⟩ (fun hHeld=>nm 50 ?_)
  clear hK K
  all_goals
   clear hHeld
   refine on 14 61 (fun K hK => ?_)
   refine Kd.R_append_rows_step k39 (w0:=w0) (Rr:=k39.K _) w0.heap.size (by rfl) (.tmp 54) (.tmp 60) 23 39 (.agg #[(.int .i64 0),(.string ⟨#[]⟩)]) 24 rfl Try.underlying23 info39 rfl (by decide) (by decide) _ l [⟨h1,h3⟩] (some ⟨gl,0,none⟩) 1 1 (fun _=>True) (fun _=>False) rfl rfl HR.out (impl_Client_update.one BL.out) (fun x cs h=>by rw [k39_open h];exact k39_mkM _ _ _ x) (fun _ h=>h.elim) (fun _ _=>trivial) HB.out HB.out.size (by have:=HL.out;omega) ?_
   intro v7 w7 ho hb hg hn
   obtain ⟨A7,c7,e7⟩:=Kd.R_slice ho
   rw [List.length_append,List.length_singleton] at e7
   subst e7
   replace BG:=ζa (blk_grown BG.out hg (ζf HR.out BG.out (by decide)))
   replace BX:=ζa (fun k t cs h h1 h2=>blk_grown (BX.out k t cs h h1 h2) hg (ζf HR.out (BX.out k t cs h h1 h2) h1.symm))
   replace BH:=ζa (blk_grown BH.out hg (ζf HR.out BH.out (by decide)))
   clear HR HB
   have HR:=ζa ho
   have HB:=ζa hb
   clear ho hb hg hn
   refine hK.out _ _ ⟨(δl BH.out 0).trans rfl,(δl BH.out 1).trans rfl,(δl BH.out 2).trans rfl,(δl BH.out 3).trans rfl,(δl BG.out 1).trans rfl⟩ (fun hHeld=>nm 61 ?_)
   clear hK K hHeld
   refine pu 15 62 ?_
   refine pu 16 63 ?_
   have hz0:=(δl BG.out 0).trans rfl
   have hf0:=δm BG.out 0
   refine impl_Client_update.os 17 (fun K hK => ?_)
   refine skip_ (w1:=?_) (by rfl) rfl ?_ ?_
   rotate_left
   ·
    go_simp
    rfl
   have HE:=ζa (blk_ne BG.out BH.out (by decide))
   replace BH:=ζa (blk_far (p:=⟨g,0,none⟩) BH.out HE.out.symm (.string tt))
   replace HR:=ζa (Kd.R_mono (ok':=fun _=>True) (ζi (p:=⟨g,0,none⟩) (Kd.R_types HR.out BG.out (by decide)) (fun _ hk=>hk.2) (.string tt)) (fun _ _=>trivial))
   replace HB:=ζa (δq (j:=0) (v:=.string tt) HB.out HG.out)
   replace BG:=ζa (δw (cs':=#[.string tt,.slice A l.length c]) BG.out 0 (.string tt) rfl)
   replace BX:=ζa (fun k t cs h h1 h2=>blk_far (p:=⟨g,0,none⟩) (BX.out k t cs h h1 h2) h2 (.string tt))
   clear hz0 hf0
   refine hK.out _ _ ⟨(δl BH.out 0).trans rfl,(δl BH.out 1).trans rfl,(δl BH.out 2).trans rfl,(δl BH.out 3).trans rfl,(δl BG.out 1).trans rfl⟩ (fun hHeld => ?_)
   clear hK K hHeld
   refine pu 18 64 ?_
   refine pu 19 65 ?_
   have hz0:=(δl BG.out 1).trans rfl
   have hf0:=δm BG.out 1
   refine impl_Client_update.ls 20 (fun K hK => ?_)
   refine skip_ (w1:=?_) (by rfl) rfl ?_ ?_
   rotate_left
   ·
    go_simp
    rfl
   replace HR:=ζa (Kd.R_mono (ok':=fun _=>True) (ζi (p:=⟨g,1,none⟩) (Kd.R_types HR.out BG.out (by decide)) (fun _ hk=>hk.2) (.slice A7 (l.length+1) c7)) (fun _ _=>trivial))
   replace HB:=ζa (δq (j:=1) (v:=.slice A7 (l.length+1) c7) HB.out HG.out)
   replace BG:=ζa (δw (cs':=#[.string tt,.slice A7 (l.length+1) c7]) BG.out 1 (.slice A7 (l.length+1) c7) rfl)
   replace BX:=ζa (fun k t cs h h1 h2=>blk_far (p:=⟨g,1,none⟩) (BX.out k t cs h h1 h2) h2 (.slice A7 (l.length+1) c7))
   clear hz0 hf0
   refine hK.out _ _ ?_
   clear hK K
   refine done_ (done_of HT_.out (by kernel_rfl)) ?_
   go_wp2
   go_ret
   exact ⟨rfl,⟨_,BG.out,HR.out⟩,HB.out,BX.out⟩


open Go.Proofs.YtggemblkhckbpaaW.PrintWords renaming below_step → δr, below_alloc → δk, gate_dst → δx, blk_cell → δl, blk_frozen → δm, blk_put → δw, below_set → δq
open Go.Proofs.YtggemblkhckbpaaW.PrintWords.Kd renaming R_below → ζh, R_far → ζi
open Bool renaming true → τ
set_option maxHeartbeats 8000000
set_option maxRecDepth 100000


/-! ### impl_UpdateClient: function 8 -/
def impl_UpdateClient.f (k:Nat) (a0_0:ByteArray) (l0_1:List S39) (a1_0 a1_1:Int) (a1_2 a1_3:ByteArray):Option (ByteArray × List S39 × Int) :=
 (impl_ClientOK.f k a0_0 l0_1).bind fun c1=>if c1=τ then ((impl_HeaderOK.f a1_0 a1_1 a1_2 a1_3).bind fun c2=>if c2=τ then ((impl_copyClient.f a0_0 l0_1).bind fun q=>impl_Client_update.f k q.1 q.2 a1_0 a1_1 a1_2 a1_3) else some ((⟨#[]⟩:ByteArray),[],1)) else some ((⟨#[]⟩:ByteArray),[],1)
theorem impl_UpdateClient.bx2 {P:Program} {ops:Array Oper} {rest:List Oper} {o:Oper} {a:Act} {Q:Exit→Act→World→Prop} (w:World) {W:World} (N:Tmp) (cs:Array Value) (t:TypeId)
  (h : ∀ g w1,Aside0 (w1.heap[g]? = some (.cells cs t (0,0)))→Aside0 (w.heap.size≤g)→Aside0 (Below w.heap.size w w1)→Below W.heap.size W w1→W.heap.size≤g→wpList P ops Q rest (a.put o.dst (.pointer (some ⟨g,0,none⟩))) w1)
  (hN:o.dst=some N:=by exact rfl) (hgd:o.guard=none:=by exact rfl)
  (hrun:(execOp a.eval o).run P W = .ok (.value (.pointer (some ⟨W.heap.size,0,none⟩))) (W.alloc (.cells cs t (0,0))):=by (go_simp;done))
  (HB:Below w.heap.size w W:=by exact blw):wpList P ops Q (o :: rest) a W :=
 Kd.event_run hgd hrun (h _ _ ⟨blk_new W _⟩ ⟨HB.size⟩ ⟨δr HB (δk (Below.refl _ _) _)⟩ (δk (Below.refl _ _) _) (Nat.le_refl _))
theorem impl_UpdateClient.calls (k:Nat) (a0_0:ByteArray) (A0_1:Option Addr) (c0_1:Nat) (l0_1:List S39) (a1_0 a1_1:Int) (a1_2 a1_3:ByteArray) (r1:ByteArray) (r2:List S39) (r3:Int) (w:World) (hr0_1:Kd.C k39 w A0_1 l0_1.length l0_1) (hc0_1:l0_1.length≤c0_1) (h:impl_UpdateClient.f k a0_0 l0_1 a1_0 a1_1 a1_2 a1_3=some (r1,r2,r3)) :
  Calls Try.prog 8 #[.agg #[.string a0_0,.slice A0_1 l0_1.length c0_1],.agg #[.int .i64 a1_0,.int .i64 a1_1,.string a1_2,.string a1_3]] w fun e w' => ∃ v1_:Value,e = .returned (.tuple #[.agg #[.string r1,v1_],.int .i64 r3])∧Kd.R k39 39 w' w.heap.size (fun _=>True) v1_ r2∧Below w.heap.size w w':=by
 obtain ⟨c1,H1,h⟩:=bsm h
 have HR0:=ζa hr0_1
 have HC0:=ζa hc0_1
 have HB:=ζa (Below.refl w.heap.size w)
 have HH:=ζa h
 clear hr0_1 hc0_1 h
 go_enter Try.func8,Try.ntmps8
 go_wp2_with (first
  | ((with_reducible refine δx (N:=2) rfl ?_);refine bx w 2 #[.string a0_0,.slice A0_1 l0_1.length c0_1] 25 ?_;intro g2 w2 B2 G2 HB hb;clear hb)
  | ((with_reducible refine δx (N:=3) rfl ?_);refine bx w 3 #[.int .i64 a1_0,.int .i64 a1_1,.string a1_2,.string a1_3] 28 ?_;intro g3 w3 B3 G3 HB hb;replace B2:=ζa (blk_below B2.out hb);clear hb)
  | ((with_reducible refine δx (N:=4) rfl ?_);refine bx w 4 #[.string (⟨#[]⟩:ByteArray),.slice none 0 0] 25 ?_;intro g4 w4 B4 G4 HB hb;replace B2:=ζa (blk_below B2.out hb);replace B3:=ζa (blk_below B3.out hb);clear hb;have hz0:=(δl B2.out 0).trans rfl;have hz1:=(δl B2.out 1).trans rfl;have hy0:=(δl B3.out 0).trans rfl;have hy1:=(δl B3.out 1).trans rfl;have hy2:=(δl B3.out 2).trans rfl;have hy3:=(δl B3.out 3).trans rfl;have hx0:=(δl B4.out 0).trans rfl;have hx1:=(δl B4.out 1).trans rfl;have hf0:=δm B4.out 0;have hf1:=δm B4.out 1))
 refine (impl_ClientOK.calls k a0_0 A0_1 c0_1 l0_1 c1 _ (Kd.C_below HR0.out HB.out) HC0.out H1.out).mono ?_
 rintro e w5 ⟨rfl,hb⟩
 replace B2:=ζa (blk_below B2.out hb);replace B3:=ζa (blk_below B3.out hb);replace B4:=ζa (blk_below B4.out hb)
 replace HB:=ζa (δr HB.out hb)
 clear hz0 hz1 hy0 hy1 hy2 hy3 hx0 hx1 hf0 hf1
 clear hb
 have hz0:=(δl B2.out 0).trans rfl;have hz1:=(δl B2.out 1).trans rfl
 have hy0:=(δl B3.out 0).trans rfl;have hy1:=(δl B3.out 1).trans rfl;have hy2:=(δl B3.out 2).trans rfl;have hy3:=(δl B3.out 3).trans rfl
 have hx0:=(δl B4.out 0).trans rfl;have hx1:=(δl B4.out 1).trans rfl;have hf0:=δm B4.out 0;have hf1:=δm B4.out 1
 have h:=HH.out
 clear HH
 cases c1 with
 | false =>
  rw [ifF] at h
  simp only [Option.some.injEq,Prod.mk.injEq] at h
  obtain ⟨rfl,rfl,rfl⟩:=h
  go_wp2
  refine bodyPost_ret (results_ct rfl _ _ g4 25 #[.string (⟨#[]⟩:ByteArray),.slice none 0 0] (0,0) _ rfl (by refine δw (cs:=#[.string (⟨#[]⟩:ByteArray),.slice none 0 0]) ?_ 1 _ rfl;refine δw (cs:=#[.string (⟨#[]⟩:ByteArray),.slice none 0 0]) ?_ 0 _ rfl;exact B4.out) Try.underlying25 rfl (by kernel_rfl)) rfl ?_
  exact ⟨_,rfl,Kd.R_nil _ _ _ _ _,δq (δq HB.out G4.out) G4.out⟩
 | true =>
  rw [ifT] at h
  obtain ⟨c2,H2,h⟩:=bsm h
  have HH:=ζa h
  clear h
  go_wp2_with fail
  refine (impl_HeaderOK.calls a1_0 a1_1 a1_2 a1_3 c2 _ H2.out).mono ?_
  rintro e w6 ⟨rfl,hb⟩
  replace B2:=ζa (blk_below B2.out hb);replace B3:=ζa (blk_below B3.out hb);replace B4:=ζa (blk_below B4.out hb)
  replace HB:=ζa (δr HB.out hb)
  clear hz0 hz1 hy0 hy1 hy2 hy3 hx0 hx1 hf0 hf1
  clear hb
  have hz0:=(δl B2.out 0).trans rfl;have hz1:=(δl B2.out 1).trans rfl
  have hy0:=(δl B3.out 0).trans rfl;have hy1:=(δl B3.out 1).trans rfl;have hy2:=(δl B3.out 2).trans rfl;have hy3:=(δl B3.out 3).trans rfl
  have hx0:=(δl B4.out 0).trans rfl;have hx1:=(δl B4.out 1).trans rfl;have hf0:=δm B4.out 0;have hf1:=δm B4.out 1
  have h:=HH.out
  clear HH
  cases c2 with
  | false =>
   rw [ifF] at h
   simp only [Option.some.injEq,Prod.mk.injEq] at h
   obtain ⟨rfl,rfl,rfl⟩:=h
   go_wp2
   refine bodyPost_ret (results_ct rfl _ _ g4 25 #[.string (⟨#[]⟩:ByteArray),.slice none 0 0] (0,0) _ rfl (by refine δw (cs:=#[.string (⟨#[]⟩:ByteArray),.slice none 0 0]) ?_ 1 _ rfl;refine δw (cs:=#[.string (⟨#[]⟩:ByteArray),.slice none 0 0]) ?_ 0 _ rfl;exact B4.out) Try.underlying25 rfl (by kernel_rfl)) rfl ?_
   exact ⟨_,rfl,Kd.R_nil _ _ _ _ _,δq (δq HB.out G4.out) G4.out⟩
  | true =>
   rw [ifT] at h
   obtain ⟨⟨q1,q2⟩,H3,h⟩:=bsm h
   have H4:=ζa h
   clear h
   go_wp2_with fail
   refine (impl_copyClient.calls a0_0 A0_1 c0_1 l0_1 q1 q2 _ (Kd.C_below HR0.out HB.out) HC0.out H3.out).mono ?_
   rintro e w7 ⟨v7,rfl,ho,hb⟩
   replace B3:=ζa (blk_below B3.out hb);replace B4:=ζa (blk_below B4.out hb)
   have HR:=ζa (Kd.R_lower ho HB.out.size)
   replace HB:=ζa (δr HB.out hb)
   clear hz0 hz1 hy0 hy1 hy2 hy3 hx0 hx1 hf0 hf1
   clear hb ho
   obtain ⟨A7,c7,rfl⟩:=Kd.R_slice HR.out
   have hy0:=(δl B3.out 0).trans rfl;have hy1:=(δl B3.out 1).trans rfl;have hy2:=(δl B3.out 2).trans rfl;have hy3:=(δl B3.out 3).trans rfl
   have hx0:=(δl B4.out 0).trans rfl;have hx1:=(δl B4.out 1).trans rfl;have hf0:=δm B4.out 0;have hf1:=δm B4.out 1
   go_wp2_with (first
    | ((with_reducible refine δx (N:=6) rfl ?_);refine impl_UpdateClient.bx2 w 6 #[.string (⟨#[]⟩:ByteArray),.slice none 0 0] 25 ?_;intro g6 w8 B6 G6 HB hb hn;have N46:=ζa (Nat.ne_of_lt (Nat.lt_of_lt_of_le (blk_lt B4.out) hn));replace B3:=ζa (blk_below B3.out hb);replace B4:=ζa (blk_below B4.out hb);replace HR:=ζa (ζh HR.out hb);clear hb hn hx0 hx1 hf0 hf1 hy0 hy1 hy2 hy3;have hs0:=(δl B6.out 0).trans rfl;have hs1:=(δl B6.out 1).trans rfl;have hf0:=δm B6.out 0;have hf1:=δm B6.out 1;have n36:=blk_ne B3.out B6.out (by decide);have hy0:=(δl B3.out 0).trans rfl;have hy1:=(δl B3.out 1).trans rfl;have hy2:=(δl B3.out 2).trans rfl;have hy3:=(δl B3.out 3).trans rfl))
   have B4':=ζa (blk_far (p:=⟨g6,1,none⟩) (blk_far (p:=⟨g6,0,none⟩) B4.out N46.out (.string q1)) N46.out (.slice A7 q2.length c7))
   refine (impl_Client_update.calls k g6 (.slice A7 q2.length c7) q1 q2 a1_0 a1_1 a1_2 a1_3 r1 r2 r3 w _ (δq (δq HB.out G6.out) G6.out) G6.out (δw (cs':=#[.string q1,.slice A7 q2.length c7]) (δw (cs':=#[.string q1,.slice none 0 0]) B6.out 0 (.string q1) rfl) 1 _ rfl)
    (Kd.R_mono (ok':=fun _=>True) (ζi (p:=⟨g6,1,none⟩) (ζi (p:=⟨g6,0,none⟩) (Kd.R_types HR.out B6.out (by decide)) (fun _ hk=>hk.2) _) (fun _ hk=>hk.2) _) (fun _ _=>trivial)) H4.out).mono ?_
   rintro e w9 ⟨rfl,⟨v9,b9,hr9⟩,hb9,hx9⟩
   have B4:=ζa (hx9 _ _ _ B4'.out (by decide) N46.out)
   have B6:=ζa b9
   have HR:=ζa hr9
   have HB:=ζa hb9
   clear B4' hs0 hs1 hf0 hf1 n36 hy0 hy1 hy2 hy3 b9 hr9 hb9 hx9
   obtain ⟨A9,c9,rfl⟩:=Kd.R_slice HR.out
   have hs0:=(δl B6.out 0).trans rfl
   have hs1:=(δl B6.out 1).trans rfl
   have hx0:=(δl B4.out 0).trans rfl
   have hx1:=(δl B4.out 1).trans rfl
   have hf0:=δm B4.out 0
   have hf1:=δm B4.out 1
   go_wp2
   refine bodyPost_ret (results_ct rfl _ _ g4 25 #[.string r1,.slice A9 r2.length c9] (0,0) _ rfl (by refine δw (cs:=#[.string r1,.slice none 0 0]) ?_ 1 _ rfl;refine δw (cs:=#[.string (⟨#[]⟩:ByteArray),.slice none 0 0]) ?_ 0 _ rfl;exact B4.out) Try.underlying25 rfl (by kernel_rfl)) rfl ?_
   exact ⟨_,rfl,Kd.R_mono (ok':=fun _=>True) (ζi (p:=⟨g4,1,none⟩) (ζi (p:=⟨g4,0,none⟩) (Kd.R_types HR.out B4.out (by decide)) (fun _ hk=>hk.2) _) (fun _ hk=>hk.2) _) (fun _ _=>trivial),δq (δq HB.out G4.out) G4.out⟩


open Go.Proofs.YtggemblkhckbpaaW.PrintWords renaming gate_dst → δx, below_step → δr, blk_cell → δl, blk_frozen → δm
set_option maxHeartbeats 8000000
set_option maxRecDepth 100000

/-! ### laws_szState: function 70 -/
def laws_szState.f (a0_0:Int) (a0_1:ByteArray) (a1:Int):Option (Int):=if (ζm (a1 - (a0_1.size:Int)))<0 then (some (-1)) else (some (ζm (a1 - (a0_1.size:Int))))
theorem laws_szState.calls (a0_0:Int) (a0_1:ByteArray) (a1:Int) (r:Int) (w:World) (h:laws_szState.f a0_0 a0_1 a1=some r) :
  Calls Try.prog 70 #[.agg #[.int .i64 a0_0,.string a0_1],.int .i64 a1] w fun e w'=>e = .returned (.int .i64 r)∧Below w.heap.size w w':=by
 have hu98:=Try.underlying98
 have HB:=ζa (Below.refl w.heap.size w)
 have H:(if (ζm (a1 - (a0_1.size:Int)))<0 then (some (-1)) else (some (ζm (a1 - (a0_1.size:Int)))))=some r:=h
 clear h
 by_cases c3:(ζm (a1 - (a0_1.size:Int)))<0
 ·
  rw [if_pos c3] at H
  have c3b0:=decide_eq_true c3
  clear c3
  obtain rfl:=Option.some.inj H
  go_enter Try.func70,Try.ntmps70
  go_wp2_with (((with_reducible refine δx (N:=2) rfl ?_);refine bev 2 #[.int .i64 a0_0,.string a0_1] 98 ?_;intro gb143 hg w4 hbox hb;have BK143:=ζa (hbox);have GW143:=ζa (gbw hg (by exact HB.out));have GE143:=ζa (gbw hg (by exact HB.out));replace HB:=ζa (δr (by exact HB.out) hb);clear hb hbox hg;have hcz5_0:w4.cell? ⟨gb143,0,none⟩=some (.int .i64 a0_0):=(δl BK143.out 0).trans rfl;have hcz5_1:w4.cell? ⟨gb143,1,none⟩=some (.string a0_1):=(δl BK143.out 1).trans rfl;have hfz5_0:=δm BK143.out 0;have hfz5_1:=δm BK143.out 1))
  go_ret
  exact ⟨by rfl,by repeat ((with_reducible exact HB.out))⟩
 ·
  rw [if_neg c3] at H
  have c3b0:=decide_eq_false c3
  clear c3
  obtain rfl:=Option.some.inj H
  go_enter Try.func70,Try.ntmps70
  go_wp2_with (((with_reducible refine δx (N:=2) rfl ?_);refine bev 2 #[.int .i64 a0_0,.string a0_1] 98 ?_;intro gb143 hg w6 hbox hb;have BK143:=ζa (hbox);have GW143:=ζa (gbw hg (by exact HB.out));have GE143:=ζa (gbw hg (by exact HB.out));replace HB:=ζa (δr (by exact HB.out) hb);clear hb hbox hg;have hcz7_0:w6.cell? ⟨gb143,0,none⟩=some (.int .i64 a0_0):=(δl BK143.out 0).trans rfl;have hcz7_1:w6.cell? ⟨gb143,1,none⟩=some (.string a0_1):=(δl BK143.out 1).trans rfl;have hfz7_0:=δm BK143.out 0;have hfz7_1:=δm BK143.out 1))
  go_ret
  exact ⟨by rfl,by repeat ((with_reducible exact HB.out))⟩


open Go.Proofs.YtggemblkhckbpaaW.PrintWords renaming gate_callee → δv, below_step → δr
set_option maxHeartbeats 8000000
set_option maxRecDepth 100000

/-! ### laws_szStateS: function 43 -/
def laws_szStateS.l0:Nat→List (S98)→Int→Int→Option (Int)
 | 0,_,_,_=>none
 | k+1,x0,x1,x5=>if x5<(x0.length:Int) then (if 0≤x5 then ((laws_szState.f ((rd_T98 x0 x5).f0) ((rd_T98 x0 x5).f1) x1).bind fun t145=>(if t145<0 then (some (-1)) else (laws_szStateS.l0 k x0 t145 (ζm (x5+1))))) else (none)) else (some x1)
def laws_szStateS.f (k:Nat) (l0:List (S98)) (a1:Int):Option (Int):=if (ζm (a1 - (l0.length:Int)))<0 then (some (-1)) else (laws_szStateS.l0 k l0 (ζm (a1 - (l0.length:Int))) 0)
theorem laws_szStateS.calls (k:Nat) (A0:Option Addr) (c0:Nat) (l0:List (S98)) (a1:Int) (r:Int) (w:World) (hr0:Kd.C k98 w A0 l0.length l0) (hc0:l0.length≤c0) (h:laws_szStateS.f k l0 a1=some r) :
  Calls Try.prog 43 #[.slice A0 l0.length c0,.int .i64 a1] w fun e w'=>e = .returned (.int .i64 r)∧Below w.heap.size w w':=by
 have hu98:=Try.underlying98
 have HR0:=ζa hr0
 have HC0:=ζa hc0
 clear hr0 hc0
 have HB:=ζa (Below.refl w.heap.size w)
 have H:(if (ζm (a1 - (l0.length:Int)))<0 then (some (-1)) else (laws_szStateS.l0 k l0 (ζm (a1 - (l0.length:Int))) 0))=some r:=h
 clear h
 by_cases c3:(ζm (a1 - (l0.length:Int)))<0
 ·
  rw [if_pos c3] at H
  have c3b0:=decide_eq_true c3
  clear c3
  obtain rfl:=Option.some.inj H
  go_enter Try.func43,Try.ntmps43
  go_wp2
  go_ret
  exact ⟨by rfl,by repeat ((with_reducible exact HB.out))⟩
 ·
  rw [if_neg c3] at H
  have c3b0:=decide_eq_false c3
  clear c3
  have H':=ζa H
  clear H
  go_enter Try.func43,Try.ntmps43
  go_wp2
  go_loopg [1,5] k (fun kq v1 v5 w' => ∃ (x1_1:Int) (x5_1:Int),v1 = .int .i64 x1_1∧v5 = .int .i64 x5_1∧Aside0 (laws_szStateS.l0 kq l0 x1_1 x5_1=some r)∧Aside0 (kq≤k)∧Aside0 (Below w.heap.size w w'))
  case atStart=>exact ⟨(ζm (a1 - (l0.length:Int))),(0),(by rfl),(by rfl),H',⟨Nat.le_refl _⟩,⟨by repeat ((with_reducible exact HB.out))⟩⟩
  case round =>
   clear H'
   try clear p2
   try clear c3
   try clear c3b0
   obtain ⟨x1_1,x5_1,rfl,rfl,HA,HK1,HB⟩:=hrel
   cases gk with
   | zero=>exact absurd HA.out (by simp [laws_szStateS.l0])
   | succ k1 =>
    have H:=HA.out
    clear HA
    simp only [laws_szStateS.l0] at H
    by_cases c4:x5_1<(l0.length:Int)
    ·
     rw [if_pos c4] at H
     have c4b0:=decide_eq_true c4
     clear c4
     by_cases c5:0≤x5_1
     ·
      rw [if_pos c5] at H
      have c5b0:=decide_eq_true c5
      clear c5
      obtain ⟨t145,A6,H⟩:=bsm H
      by_cases c7:t145<0
      ·
       rw [if_pos c7] at H
       have c7b0:=decide_eq_true c7
       clear c7
       obtain rfl:=Option.some.inj H
       have p144:0≤(x5_1:Int):=of_decide_eq_true (by (with_reducible assumption))
       have q144:x5_1<(l0.length:Int):=of_decide_eq_true (by (with_reducible assumption))
       obtain ⟨ad144,e144,hx144_0,hx144_1⟩:=at_T98 HR0.out x5_1 p144 q144
       cases e144
       replace hx144_0:=(HB.out.cell (World.block_lt_of_cell? w _ hx144_0)).trans hx144_0
       replace hx144_1:=(HB.out.cell (World.block_lt_of_cell? w _ hx144_1)).trans hx144_1
       replace p144:=eq_true p144
       replace q144:=eq_true q144
       go_wp2_with (((with_reducible refine δv (f:=70) rfl ?_);refine gl 23 Try.func70 #[.agg #[.int .i64 ((rd_T98 l0 x5_1).f0),.string ((rd_T98 l0 x5_1).f1)],.int .i64 x1_1] ?_;(with_reducible refine (laws_szState.calls ((rd_T98 l0 x5_1).f0) ((rd_T98 l0 x5_1).f1) x1_1 t145 _ A6.out).mono ?_);rintro e w8 ⟨rfl,hb⟩;refine ⟨_,rfl,?_⟩;replace HB:=ζa (δr (by exact HB.out) hb);(try clear hb);(try clear hb2);(try clear hk);(try clear hi)))
       go_ret
       exact ⟨by rfl,by repeat ((with_reducible exact HB.out))⟩
      ·
       rw [if_neg c7] at H
       have c7b0:=decide_eq_false c7
       clear c7
       have H':=ζa H
       clear H
       have p144:0≤(x5_1:Int):=of_decide_eq_true (by (with_reducible assumption))
       have q144:x5_1<(l0.length:Int):=of_decide_eq_true (by (with_reducible assumption))
       obtain ⟨ad144,e144,hx144_0,hx144_1⟩:=at_T98 HR0.out x5_1 p144 q144
       cases e144
       replace hx144_0:=(HB.out.cell (World.block_lt_of_cell? w _ hx144_0)).trans hx144_0
       replace hx144_1:=(HB.out.cell (World.block_lt_of_cell? w _ hx144_1)).trans hx144_1
       replace p144:=eq_true p144
       replace q144:=eq_true q144
       go_wp2_with (((with_reducible refine δv (f:=70) rfl ?_);refine gl 23 Try.func70 #[.agg #[.int .i64 ((rd_T98 l0 x5_1).f0),.string ((rd_T98 l0 x5_1).f1)],.int .i64 x1_1] ?_;(with_reducible refine (laws_szState.calls ((rd_T98 l0 x5_1).f0) ((rd_T98 l0 x5_1).f1) x1_1 t145 _ A6.out).mono ?_);rintro e w9 ⟨rfl,hb⟩;refine ⟨_,rfl,?_⟩;replace HB:=ζa (δr (by exact HB.out) hb);(try clear hb);(try clear hb2);(try clear hk);(try clear hi)))
       go_roundg k1
       case measure=>have:=HK1.out;omega
       case rel=>exact ⟨(t145),(ζm (x5_1+1)),(by rfl),(by rfl),H',⟨by have:=HK1.out;omega⟩,⟨by repeat ((with_reducible exact HB.out))⟩⟩
     ·
      rw [if_neg c5] at H
      exact absurd H (by simp)
    ·
     rw [if_neg c4] at H
     have c4b0:=decide_eq_false c4
     clear c4
     obtain rfl:=Option.some.inj H
     go_wp2
     go_ret
     exact ⟨by rfl,by repeat ((with_reducible exact HB.out))⟩


open Go.Proofs.YtggemblkhckbpaaW.PrintWords renaming gate_dst → δx, below_step → δr, blk_cell → δl, blk_frozen → δm, gate_callee → δv
set_option maxHeartbeats 8000000
set_option maxRecDepth 100000

/-! ### laws_szClient: function 16 -/
def laws_szClient.f (k:Nat) (a0_0:ByteArray) (l0_1:List (S98)) (a1:Int):Option (Int):=if (ζm (a1 - (a0_0.size:Int)))<0 then (some (-1)) else ((laws_szStateS.f k l0_1 (ζm (a1 - (a0_0.size:Int)))).bind fun t147=>(if t147<0 then (some (-1)) else (some t147)))
theorem laws_szClient.calls (k:Nat) (a0_0:ByteArray) (A0_1:Option Addr) (c0_1:Nat) (l0_1:List (S98)) (a1:Int) (r:Int) (w:World) (hr0_1:Kd.C k98 w A0_1 l0_1.length l0_1) (hc0_1:l0_1.length≤c0_1) (h:laws_szClient.f k a0_0 l0_1 a1=some r) :
  Calls Try.prog 16 #[.agg #[.string a0_0,.slice A0_1 l0_1.length c0_1],.int .i64 a1] w fun e w'=>e = .returned (.int .i64 r)∧Below w.heap.size w w':=by
 have hu45:=Try.underlying45
 have HR0_1:=ζa hr0_1
 have HC0_1:=ζa hc0_1
 clear hr0_1 hc0_1
 have HB:=ζa (Below.refl w.heap.size w)
 have H:(if (ζm (a1 - (a0_0.size:Int)))<0 then (some (-1)) else ((laws_szStateS.f k l0_1 (ζm (a1 - (a0_0.size:Int)))).bind fun t147=>(if t147<0 then (some (-1)) else (some t147))))=some r:=h
 clear h
 by_cases c3:(ζm (a1 - (a0_0.size:Int)))<0
 ·
  rw [if_pos c3] at H
  have c3b0:=decide_eq_true c3
  clear c3
  obtain rfl:=Option.some.inj H
  go_enter Try.func16,Try.ntmps16
  go_wp2_with (((with_reducible refine δx (N:=2) rfl ?_);refine bev 2 #[.string a0_0,.slice A0_1 l0_1.length c0_1] 45 ?_;intro gb146 hg w4 hbox hb;have BK146:=ζa (hbox);have GW146:=ζa (gbw hg (by exact HB.out));have GE146:=ζa (gbw hg (by exact HB.out));replace HB:=ζa (δr (by exact HB.out) hb);clear hb hbox hg;have hcz5_0:w4.cell? ⟨gb146,0,none⟩=some (.string a0_0):=(δl BK146.out 0).trans rfl;have hcz5_1:w4.cell? ⟨gb146,1,none⟩=some (.slice A0_1 l0_1.length c0_1):=(δl BK146.out 1).trans rfl;have hfz5_0:=δm BK146.out 0;have hfz5_1:=δm BK146.out 1))
  go_ret
  exact ⟨by rfl,by repeat ((with_reducible exact HB.out))⟩
 ·
  rw [if_neg c3] at H
  have c3b0:=decide_eq_false c3
  clear c3
  obtain ⟨t147,A6,H⟩:=bsm H
  by_cases c7:t147<0
  ·
   rw [if_pos c7] at H
   have c7b0:=decide_eq_true c7
   clear c7
   obtain rfl:=Option.some.inj H
   go_enter Try.func16,Try.ntmps16
   go_wp2_with (first|((with_reducible refine δx (N:=2) rfl ?_);refine bev 2 #[.string a0_0,.slice A0_1 l0_1.length c0_1] 45 ?_;intro gb146 hg w8 hbox hb;have BK146:=ζa (hbox);have GW146:=ζa (gbw hg (by exact HB.out));have GE146:=ζa (gbw hg (by exact HB.out));replace HB:=ζa (δr (by exact HB.out) hb);clear hb hbox hg;have hcz9_0:w8.cell? ⟨gb146,0,none⟩=some (.string a0_0):=(δl BK146.out 0).trans rfl;have hcz9_1:w8.cell? ⟨gb146,1,none⟩=some (.slice A0_1 l0_1.length c0_1):=(δl BK146.out 1).trans rfl;have hfz9_0:=δm BK146.out 0;have hfz9_1:=δm BK146.out 1)|((with_reducible refine δv (f:=43) rfl ?_);refine gl 15 Try.func43 #[.slice A0_1 l0_1.length c0_1,.int .i64 (ζm (a1 - (a0_0.size:Int)))] ?_;(with_reducible refine (laws_szStateS.calls k _ _ l0_1 (ζm (a1 - (a0_0.size:Int))) t147 _ ?side1 ?side2 A6.out).mono ?_);(case side1=>repeat (exact (Kd.C_below HR0_1.out HB.out)));(case side2=>exact HC0_1.out);rintro e w10 ⟨rfl,hb⟩;refine ⟨_,rfl,?_⟩;replace BK146:=ζa (blk_below (g:=gb146) (o:=.cells #[.string a0_0,.slice A0_1 l0_1.length c0_1] 45 (0,0)) (by exact BK146.out) hb);replace HB:=ζa (δr (by exact HB.out) hb);(try clear hb);(try clear hb2);(try clear hk);(try clear hi)))
   go_ret
   exact ⟨by rfl,by repeat ((with_reducible exact HB.out))⟩
  ·
   rw [if_neg c7] at H
   have c7b0:=decide_eq_false c7
   clear c7
   obtain rfl:=Option.some.inj H
   go_enter Try.func16,Try.ntmps16
   go_wp2_with (first|((with_reducible refine δx (N:=2) rfl ?_);refine bev 2 #[.string a0_0,.slice A0_1 l0_1.length c0_1] 45 ?_;intro gb146 hg w11 hbox hb;have BK146:=ζa (hbox);have GW146:=ζa (gbw hg (by exact HB.out));have GE146:=ζa (gbw hg (by exact HB.out));replace HB:=ζa (δr (by exact HB.out) hb);clear hb hbox hg;have hcz12_0:w11.cell? ⟨gb146,0,none⟩=some (.string a0_0):=(δl BK146.out 0).trans rfl;have hcz12_1:w11.cell? ⟨gb146,1,none⟩=some (.slice A0_1 l0_1.length c0_1):=(δl BK146.out 1).trans rfl;have hfz12_0:=δm BK146.out 0;have hfz12_1:=δm BK146.out 1)|((with_reducible refine δv (f:=43) rfl ?_);refine gl 15 Try.func43 #[.slice A0_1 l0_1.length c0_1,.int .i64 (ζm (a1 - (a0_0.size:Int)))] ?_;(with_reducible refine (laws_szStateS.calls k _ _ l0_1 (ζm (a1 - (a0_0.size:Int))) t147 _ ?side1 ?side2 A6.out).mono ?_);(case side1=>repeat (exact (Kd.C_below HR0_1.out HB.out)));(case side2=>exact HC0_1.out);rintro e w13 ⟨rfl,hb⟩;refine ⟨_,rfl,?_⟩;replace BK146:=ζa (blk_below (g:=gb146) (o:=.cells #[.string a0_0,.slice A0_1 l0_1.length c0_1] 45 (0,0)) (by exact BK146.out) hb);replace HB:=ζa (δr (by exact HB.out) hb);(try clear hb);(try clear hb2);(try clear hk);(try clear hi)))
   go_ret
   exact ⟨by rfl,by repeat ((with_reducible exact HB.out))⟩


set_option maxHeartbeats 8000000
set_option maxRecDepth 100000

/-! ### laws_szHeader: function 17 -/
def laws_szHeader.f (a0_0:Int) (a0_1:Int) (a0_2:ByteArray) (a0_3:ByteArray) (a1:Int):Option (Int):=if (ζm (a1 - (a0_2.size:Int)))<0 then (some (-1)) else (if (ζm ((ζm (a1 - (a0_2.size:Int))) - (a0_3.size:Int)))<0 then (some (-1)) else (some (ζm ((ζm (a1 - (a0_2.size:Int))) - (a0_3.size:Int)))))
theorem laws_szHeader.calls (a0_0:Int) (a0_1:Int) (a0_2:ByteArray) (a0_3:ByteArray) (a1:Int) (r:Int) (w:World) (h:laws_szHeader.f a0_0 a0_1 a0_2 a0_3 a1=some r) :
  Calls Try.prog 17 #[.agg #[.int .i64 a0_0,.int .i64 a0_1,.string a0_2,.string a0_3],.int .i64 a1] w fun e w'=>e = .returned (.int .i64 r)∧Below w.heap.size w w':=by
 have hu46:=Try.underlying46
 have HB:=ζa (Below.refl w.heap.size w)
 have H:(if (ζm (a1 - (a0_2.size:Int)))<0 then (some (-1)) else (if (ζm ((ζm (a1 - (a0_2.size:Int))) - (a0_3.size:Int)))<0 then (some (-1)) else (some (ζm ((ζm (a1 - (a0_2.size:Int))) - (a0_3.size:Int))))))=some r:=h
 clear h
 by_cases c3:(ζm (a1 - (a0_2.size:Int)))<0
 ·
  rw [if_pos c3] at H
  have c3b0:=decide_eq_true c3
  clear c3
  obtain rfl:=Option.some.inj H
  go_enter Try.func17,Try.ntmps17
  go_wp2_with (((with_reducible refine δx (N:=2) rfl ?_);refine bev 2 #[.int .i64 a0_0,.int .i64 a0_1,.string a0_2,.string a0_3] 46 ?_;intro gb148 hg w4 hbox hb;have BK148:=ζa (hbox);have GW148:=ζa (gbw hg (by exact HB.out));have GE148:=ζa (gbw hg (by exact HB.out));replace HB:=ζa (δr (by exact HB.out) hb);clear hb hbox hg;have hcz5_0:w4.cell? ⟨gb148,0,none⟩=some (.int .i64 a0_0):=(δl BK148.out 0).trans rfl;have hcz5_1:w4.cell? ⟨gb148,1,none⟩=some (.int .i64 a0_1):=(δl BK148.out 1).trans rfl;have hcz5_2:w4.cell? ⟨gb148,2,none⟩=some (.string a0_2):=(δl BK148.out 2).trans rfl;have hcz5_3:w4.cell? ⟨gb148,3,none⟩=some (.string a0_3):=(δl BK148.out 3).trans rfl;have hfz5_0:=δm BK148.out 0;have hfz5_1:=δm BK148.out 1;have hfz5_2:=δm BK148.out 2;have hfz5_3:=δm BK148.out 3))
  go_ret
  exact ⟨by rfl,by repeat ((with_reducible exact HB.out))⟩
 ·
  rw [if_neg c3] at H
  have c3b0:=decide_eq_false c3
  clear c3
  by_cases c6:(ζm ((ζm (a1 - (a0_2.size:Int))) - (a0_3.size:Int)))<0
  ·
   rw [if_pos c6] at H
   have c6b0:=decide_eq_true c6
   clear c6
   obtain rfl:=Option.some.inj H
   go_enter Try.func17,Try.ntmps17
   go_wp2_with (((with_reducible refine δx (N:=2) rfl ?_);refine bev 2 #[.int .i64 a0_0,.int .i64 a0_1,.string a0_2,.string a0_3] 46 ?_;intro gb148 hg w7 hbox hb;have BK148:=ζa (hbox);have GW148:=ζa (gbw hg (by exact HB.out));have GE148:=ζa (gbw hg (by exact HB.out));replace HB:=ζa (δr (by exact HB.out) hb);clear hb hbox hg;have hcz8_0:w7.cell? ⟨gb148,0,none⟩=some (.int .i64 a0_0):=(δl BK148.out 0).trans rfl;have hcz8_1:w7.cell? ⟨gb148,1,none⟩=some (.int .i64 a0_1):=(δl BK148.out 1).trans rfl;have hcz8_2:w7.cell? ⟨gb148,2,none⟩=some (.string a0_2):=(δl BK148.out 2).trans rfl;have hcz8_3:w7.cell? ⟨gb148,3,none⟩=some (.string a0_3):=(δl BK148.out 3).trans rfl;have hfz8_0:=δm BK148.out 0;have hfz8_1:=δm BK148.out 1;have hfz8_2:=δm BK148.out 2;have hfz8_3:=δm BK148.out 3))
   go_ret
   exact ⟨by rfl,by repeat ((with_reducible exact HB.out))⟩
  ·
   rw [if_neg c6] at H
   have c6b0:=decide_eq_false c6
   clear c6
   obtain rfl:=Option.some.inj H
   go_enter Try.func17,Try.ntmps17
   go_wp2_with (((with_reducible refine δx (N:=2) rfl ?_);refine bev 2 #[.int .i64 a0_0,.int .i64 a0_1,.string a0_2,.string a0_3] 46 ?_;intro gb148 hg w9 hbox hb;have BK148:=ζa (hbox);have GW148:=ζa (gbw hg (by exact HB.out));have GE148:=ζa (gbw hg (by exact HB.out));replace HB:=ζa (δr (by exact HB.out) hb);clear hb hbox hg;have hcz10_0:w9.cell? ⟨gb148,0,none⟩=some (.int .i64 a0_0):=(δl BK148.out 0).trans rfl;have hcz10_1:w9.cell? ⟨gb148,1,none⟩=some (.int .i64 a0_1):=(δl BK148.out 1).trans rfl;have hcz10_2:w9.cell? ⟨gb148,2,none⟩=some (.string a0_2):=(δl BK148.out 2).trans rfl;have hcz10_3:w9.cell? ⟨gb148,3,none⟩=some (.string a0_3):=(δl BK148.out 3).trans rfl;have hfz10_0:=δm BK148.out 0;have hfz10_1:=δm BK148.out 1;have hfz10_2:=δm BK148.out 2;have hfz10_3:=δm BK148.out 3))
   go_ret
   exact ⟨by rfl,by repeat ((with_reducible exact HB.out))⟩


set_option maxHeartbeats 8000000
set_option maxRecDepth 100000

/-! ### spec_l01In: function 65 -/
def spec_l01In.f (a0:Int) (a1:Int) (a2:Int):Option (Bool):=if a0 ≥ a1 then (some (decide (a0≤a2))) else (some φ)
theorem spec_l01In.calls (a0:Int) (a1:Int) (a2:Int) (r:Bool) (w:World) (h:spec_l01In.f a0 a1 a2=some r) :
  Calls Try.prog 65 #[.int .i64 a0,.int .i64 a1,.int .i64 a2] w fun e w'=>e = .returned (.bool r)∧Drawn0 w w':=by
 have H:(if a0 ≥ a1 then (some (decide (a0≤a2))) else (some φ))=some r:=h
 clear h
 by_cases c4:a0 ≥ a1
 ·
  rw [if_pos c4] at H
  have c4b0:decide (a1≤a0)=τ:=decide_eq_true c4
  clear c4
  obtain rfl:=Option.some.inj H
  go_enter Try.func65,Try.ntmps65
  go_wp2
  go_ret
  exact ⟨by rfl,by repeat (exact Drawn0.refl _)⟩
 ·
  rw [if_neg c4] at H
  have c4b0:decide (a1≤a0)=φ:=decide_eq_false c4
  clear c4
  obtain rfl:=Option.some.inj H
  go_enter Try.func65,Try.ntmps65
  go_wp2
  go_ret
  exact ⟨by rfl,by repeat (exact Drawn0.refl _)⟩


open Go.Proofs.YtggemblkhckbpaaW.PrintWords renaming gate_dst → δx, below_step → δr, blk_cell → δl, blk_frozen → δm, gate_callee → δv, pw_below_drewN → δi
set_option maxHeartbeats 8000000
set_option maxRecDepth 100000

/-! ### spec_HeaderOK: function 35 -/
def spec_HeaderOK.f (a0_0:Int) (a0_1:Int) (a0_2:ByteArray) (a0_3:ByteArray):Option (Bool):=(spec_l01In.f a0_0 1 60).bind fun t150=>(if t150=τ then ((spec_l01In.f a0_1 0 1000000000).bind fun t151=>(if t151=τ then (if (a0_2.size:Int)=32 then (some ((a0_3.size:Int) == 32)) else (some φ)) else (some φ))) else (some φ))
theorem spec_HeaderOK.calls (a0_0:Int) (a0_1:Int) (a0_2:ByteArray) (a0_3:ByteArray) (r:Bool) (w:World) (h:spec_HeaderOK.f a0_0 a0_1 a0_2 a0_3=some r) :
  Calls Try.prog 35 #[.agg #[.int .i64 a0_0,.int .i64 a0_1,.string a0_2,.string a0_3]] w fun e w'=>e = .returned (.bool r)∧Below w.heap.size w w':=by
 have hu28:=Try.underlying28
 have HB:=ζa (Below.refl w.heap.size w)
 have H:((spec_l01In.f a0_0 1 60).bind fun t150=>(if t150=τ then ((spec_l01In.f a0_1 0 1000000000).bind fun t151=>(if t151=τ then (if (a0_2.size:Int)=32 then (some ((a0_3.size:Int) == 32)) else (some φ)) else (some φ))) else (some φ)))=some r:=h
 clear h
 obtain ⟨t150,A2,H⟩:=bsm H
 by_cases c3:t150=τ
 ·
  subst c3
  rw [ifT] at H
  obtain ⟨t151,A4,H⟩:=bsm H
  by_cases c5:t151=τ
  ·
   subst c5
   rw [ifT] at H
   by_cases c6:(a0_2.size:Int)=32
   ·
    rw [if_pos c6] at H
    have c6b0:=beq_iff_eq.mpr c6
    have c6b1:=bne_eq_false_iff_eq.mpr c6
    clear c6
    obtain rfl:=Option.some.inj H
    go_enter Try.func35,Try.ntmps35
    go_wp2_with (first|((with_reducible refine δx (N:=1) rfl ?_);(try (refine gate_guard (by rfl) ?_;dsimp only));refine bev 1 #[.int .i64 a0_0,.int .i64 a0_1,.string a0_2,.string a0_3] 28 ?_;intro gb149 hg w7 hbox hb;have BK149:=ζa (hbox);have GW149:=ζa (gbw hg (by exact HB.out));have GE149:=ζa (gbw hg (by exact HB.out));replace HB:=ζa (δr (by exact HB.out) hb);clear hb hbox hg;have hcz8_0:w7.cell? ⟨gb149,0,none⟩=some (.int .i64 a0_0):=(δl BK149.out 0).trans rfl;have hcz8_1:w7.cell? ⟨gb149,1,none⟩=some (.int .i64 a0_1):=(δl BK149.out 1).trans rfl;have hcz8_2:w7.cell? ⟨gb149,2,none⟩=some (.string a0_2):=(δl BK149.out 2).trans rfl;have hcz8_3:w7.cell? ⟨gb149,3,none⟩=some (.string a0_3):=(δl BK149.out 3).trans rfl;have hfz8_0:=δm BK149.out 0;have hfz8_1:=δm BK149.out 1;have hfz8_2:=δm BK149.out 2;have hfz8_3:=δm BK149.out 3)|((with_reducible refine δv (f:=65) rfl ?_);refine gl 5 Try.func65 #[.int .i64 a0_0,.int .i64 1,.int .i64 60] ?_;(with_reducible refine (spec_l01In.calls a0_0 1 60 τ _ A2.out).mono ?_);rintro e w' ⟨rfl,⟨nd,rfl⟩⟩;refine ⟨_,rfl,?_⟩)|(go_at_call 65;(with_reducible refine (spec_l01In.calls a0_1 0 1000000000 τ _ A4.out).mono ?_);rintro e w' ⟨rfl,⟨nd,rfl⟩⟩))
    go_ret
    exact ⟨by rfl,by repeat ((with_reducible first|exact HB.out|apply δi))⟩
   ·
    rw [if_neg c6] at H
    have c6b0:=beq_eq_false_iff_ne.mpr c6
    have c6b1:=bne_iff_ne.mpr c6
    obtain rfl:=Option.some.inj H
    go_enter Try.func35,Try.ntmps35
    go_wp2_with (first|((with_reducible refine δx (N:=1) rfl ?_);(try (refine gate_guard (by rfl) ?_;dsimp only));refine bev 1 #[.int .i64 a0_0,.int .i64 a0_1,.string a0_2,.string a0_3] 28 ?_;intro gb149 hg w9 hbox hb;have BK149:=ζa (hbox);have GW149:=ζa (gbw hg (by exact HB.out));have GE149:=ζa (gbw hg (by exact HB.out));replace HB:=ζa (δr (by exact HB.out) hb);clear hb hbox hg;have hcz10_0:w9.cell? ⟨gb149,0,none⟩=some (.int .i64 a0_0):=(δl BK149.out 0).trans rfl;have hcz10_1:w9.cell? ⟨gb149,1,none⟩=some (.int .i64 a0_1):=(δl BK149.out 1).trans rfl;have hcz10_2:w9.cell? ⟨gb149,2,none⟩=some (.string a0_2):=(δl BK149.out 2).trans rfl;have hcz10_3:w9.cell? ⟨gb149,3,none⟩=some (.string a0_3):=(δl BK149.out 3).trans rfl;have hfz10_0:=δm BK149.out 0;have hfz10_1:=δm BK149.out 1;have hfz10_2:=δm BK149.out 2;have hfz10_3:=δm BK149.out 3)|((with_reducible refine δv (f:=65) rfl ?_);refine gl 5 Try.func65 #[.int .i64 a0_0,.int .i64 1,.int .i64 60] ?_;(with_reducible refine (spec_l01In.calls a0_0 1 60 τ _ A2.out).mono ?_);rintro e w' ⟨rfl,⟨nd,rfl⟩⟩;refine ⟨_,rfl,?_⟩)|(go_at_call 65;(with_reducible refine (spec_l01In.calls a0_1 0 1000000000 τ _ A4.out).mono ?_);rintro e w' ⟨rfl,⟨nd,rfl⟩⟩))
    go_ret
    exact ⟨by rfl,by repeat ((with_reducible first|exact HB.out|apply δi))⟩
  ·
   replace c5:=Bool.eq_false_iff.mpr c5
   subst c5
   rw [ifF] at H
   obtain rfl:=Option.some.inj H
   go_enter Try.func35,Try.ntmps35
   go_wp2_with (first|((with_reducible refine δx (N:=1) rfl ?_);(try (refine gate_guard (by rfl) ?_;dsimp only));refine bev 1 #[.int .i64 a0_0,.int .i64 a0_1,.string a0_2,.string a0_3] 28 ?_;intro gb149 hg w11 hbox hb;have BK149:=ζa (hbox);have GW149:=ζa (gbw hg (by exact HB.out));have GE149:=ζa (gbw hg (by exact HB.out));replace HB:=ζa (δr (by exact HB.out) hb);clear hb hbox hg;have hcz12_0:w11.cell? ⟨gb149,0,none⟩=some (.int .i64 a0_0):=(δl BK149.out 0).trans rfl;have hcz12_1:w11.cell? ⟨gb149,1,none⟩=some (.int .i64 a0_1):=(δl BK149.out 1).trans rfl;have hcz12_2:w11.cell? ⟨gb149,2,none⟩=some (.string a0_2):=(δl BK149.out 2).trans rfl;have hcz12_3:w11.cell? ⟨gb149,3,none⟩=some (.string a0_3):=(δl BK149.out 3).trans rfl;have hfz12_0:=δm BK149.out 0;have hfz12_1:=δm BK149.out 1;have hfz12_2:=δm BK149.out 2;have hfz12_3:=δm BK149.out 3)|((with_reducible refine δv (f:=65) rfl ?_);refine gl 5 Try.func65 #[.int .i64 a0_0,.int .i64 1,.int .i64 60] ?_;(with_reducible refine (spec_l01In.calls a0_0 1 60 τ _ A2.out).mono ?_);rintro e w' ⟨rfl,⟨nd,rfl⟩⟩;refine ⟨_,rfl,?_⟩)|(go_at_call 65;(with_reducible refine (spec_l01In.calls a0_1 0 1000000000 φ _ A4.out).mono ?_);rintro e w' ⟨rfl,⟨nd,rfl⟩⟩))
   go_ret
   exact ⟨by rfl,by repeat ((with_reducible first|exact HB.out|apply δi))⟩
 ·
  replace c3:=Bool.eq_false_iff.mpr c3
  subst c3
  rw [ifF] at H
  obtain rfl:=Option.some.inj H
  go_enter Try.func35,Try.ntmps35
  go_wp2_with (first|((with_reducible refine δx (N:=1) rfl ?_);(try (refine gate_guard (by rfl) ?_;dsimp only));refine bev 1 #[.int .i64 a0_0,.int .i64 a0_1,.string a0_2,.string a0_3] 28 ?_;intro gb149 hg w13 hbox hb;have BK149:=ζa (hbox);have GW149:=ζa (gbw hg (by exact HB.out));have GE149:=ζa (gbw hg (by exact HB.out));replace HB:=ζa (δr (by exact HB.out) hb);clear hb hbox hg;have hcz14_0:w13.cell? ⟨gb149,0,none⟩=some (.int .i64 a0_0):=(δl BK149.out 0).trans rfl;have hcz14_1:w13.cell? ⟨gb149,1,none⟩=some (.int .i64 a0_1):=(δl BK149.out 1).trans rfl;have hcz14_2:w13.cell? ⟨gb149,2,none⟩=some (.string a0_2):=(δl BK149.out 2).trans rfl;have hcz14_3:w13.cell? ⟨gb149,3,none⟩=some (.string a0_3):=(δl BK149.out 3).trans rfl;have hfz14_0:=δm BK149.out 0;have hfz14_1:=δm BK149.out 1;have hfz14_2:=δm BK149.out 2;have hfz14_3:=δm BK149.out 3)|((with_reducible refine δv (f:=65) rfl ?_);refine gl 5 Try.func65 #[.int .i64 a0_0,.int .i64 1,.int .i64 60] ?_;(with_reducible refine (spec_l01In.calls a0_0 1 60 φ _ A2.out).mono ?_);rintro e w' ⟨rfl,⟨nd,rfl⟩⟩;refine ⟨_,rfl,?_⟩))
  go_ret
  exact ⟨by rfl,by repeat ((with_reducible first|exact HB.out|apply δi))⟩


open Go.Proofs.YtggemblkhckbpaaW.PrintWords renaming gate_dst → δx, below_size → δs, below_step → δr
set_option maxHeartbeats 8000000
set_option maxRecDepth 100000

/-! ### spec_l01Consts: function 89 -/
def spec_l01Consts.f  : Option (List Int):=some (([1116352408,1899447441,3049323471,3921009573,961987163,1508970993,2453635748,2870763221,3624381080,310598401,607225278,1426881987,1925078388,2162078206,2614888103,3248222580,3835390401,4022224774,264347078,604807628,770255983,1249150122,1555081692,1996064986,2554220882,2821834349,2952996808,3210313671,3336571891,3584528711,113926993,338241895,666307205,773529912,1294757372,1396182291,1695183700,1986661051,2177026350,2456956037,2730485921,2820302411,3259730800,3345764771,3516065817,3600352804,4094571909,275423344,430227734,506948616,659060556,883997877,958139571,1322822218,1537002063,1747873779,1955562222,2024104815,2227730452,2361852424,2428436474,2756734187,3204031479,3329325298]:List Int))
theorem spec_l01Consts.calls  (r:List Int) (w:World) (h:spec_l01Consts.f  = some r) :
  Calls Try.prog 89 #[] w fun e w' => ∃ v0_:Value,e = .returned (v0_)∧Kd.R (Kd.int .u32) 113 w' w.heap.size (fun _=>True) v0_ r∧Below w.heap.size w w':=by
 have HB:=ζa (Below.refl w.heap.size w)
 have H:(some (([1116352408,1899447441,3049323471,3921009573,961987163,1508970993,2453635748,2870763221,3624381080,310598401,607225278,1426881987,1925078388,2162078206,2614888103,3248222580,3835390401,4022224774,264347078,604807628,770255983,1249150122,1555081692,1996064986,2554220882,2821834349,2952996808,3210313671,3336571891,3584528711,113926993,338241895,666307205,773529912,1294757372,1396182291,1695183700,1986661051,2177026350,2456956037,2730485921,2820302411,3259730800,3345764771,3516065817,3600352804,4094571909,275423344,430227734,506948616,659060556,883997877,958139571,1322822218,1537002063,1747873779,1955562222,2024104815,2227730452,2361852424,2428436474,2756734187,3204031479,3329325298]:List Int)))=some r:=h
 clear h
 obtain ⟨y152,hy152⟩ : ∃ y_:List Int,y_=(([1116352408,1899447441,3049323471,3921009573,961987163,1508970993,2453635748,2870763221,3624381080,310598401,607225278,1426881987,1925078388,2162078206,2614888103,3248222580,3835390401,4022224774,264347078,604807628,770255983,1249150122,1555081692,1996064986,2554220882,2821834349,2952996808,3210313671,3336571891,3584528711,113926993,338241895,666307205,773529912,1294757372,1396182291,1695183700,1986661051,2177026350,2456956037,2730485921,2820302411,3259730800,3345764771,3516065817,3600352804,4094571909,275423344,430227734,506948616,659060556,883997877,958139571,1322822218,1537002063,1747873779,1955562222,2024104815,2227730452,2361852424,2428436474,2756734187,3204031479,3329325298]:List Int)):=⟨_,rfl⟩
 replace H:(some y152)=some r:=by (rw [hy152];with_reducible exact H)
 have Ny152:=ζa hy152
 clear hy152
 obtain rfl:=Option.some.inj H
 go_enter Try.func89,Try.ntmps89
 go_wp2_with (((with_reducible refine δx (N:=1) rfl ?_);refine Kd.R_lit (Kd.int .u32) _ 113 ?hg (N:=1) ?hd (xs:=([1116352408,1899447441,3049323471,3921009573,961987163,1508970993,2453635748,2870763221,3624381080,310598401,607225278,1426881987,1925078388,2162078206,2614888103,3248222580,3835390401,4022224774,264347078,604807628,770255983,1249150122,1555081692,1996064986,2554220882,2821834349,2952996808,3210313671,3336571891,3584528711,113926993,338241895,666307205,773529912,1294757372,1396182291,1695183700,1986661051,2177026350,2456956037,2730485921,2820302411,3259730800,3345764771,3516065817,3600352804,4094571909,275423344,430227734,506948616,659060556,883997877,958139571,1322822218,1537002063,1747873779,1955562222,2024104815,2227730452,2361852424,2428436474,2756734187,3204031479,3329325298]:List Int)) (inner:=[.int .u32 1116352408,.int .u32 1899447441,.int .u32 3049323471,.int .u32 3921009573,.int .u32 961987163,.int .u32 1508970993,.int .u32 2453635748,.int .u32 2870763221,.int .u32 3624381080,.int .u32 310598401,.int .u32 607225278,.int .u32 1426881987,.int .u32 1925078388,.int .u32 2162078206,.int .u32 2614888103,.int .u32 3248222580,.int .u32 3835390401,.int .u32 4022224774,.int .u32 264347078,.int .u32 604807628,.int .u32 770255983,.int .u32 1249150122,.int .u32 1555081692,.int .u32 1996064986,.int .u32 2554220882,.int .u32 2821834349,.int .u32 2952996808,.int .u32 3210313671,.int .u32 3336571891,.int .u32 3584528711,.int .u32 113926993,.int .u32 338241895,.int .u32 666307205,.int .u32 773529912,.int .u32 1294757372,.int .u32 1396182291,.int .u32 1695183700,.int .u32 1986661051,.int .u32 2177026350,.int .u32 2456956037,.int .u32 2730485921,.int .u32 2820302411,.int .u32 3259730800,.int .u32 3345764771,.int .u32 3516065817,.int .u32 3600352804,.int .u32 4094571909,.int .u32 275423344,.int .u32 430227734,.int .u32 506948616,.int .u32 659060556,.int .u32 883997877,.int .u32 958139571,.int .u32 1322822218,.int .u32 1537002063,.int .u32 1747873779,.int .u32 1955562222,.int .u32 2024104815,.int .u32 2227730452,.int .u32 2361852424,.int .u32 2428436474,.int .u32 2756734187,.int .u32 3204031479,.int .u32 3329325298]) (ok:=fun _=>True) (okp:=fun _=>True) ?hr ?hp (fun _ hk=>hk) trivial (Below.refl _ _) (Nat.le_refl _) (by simp) ?_;(case hd=>rfl);(case hg=>rfl);(case hr=>(go_simp;done));(case hp=>exact (Reps.one (show Kd.M (Kd.int .u32) _ _ _ 1116352408 [.int .u32 1116352408] from rfl) (Reps.one (show Kd.M (Kd.int .u32) _ _ _ 1899447441 [.int .u32 1899447441] from rfl) (Reps.one (show Kd.M (Kd.int .u32) _ _ _ 3049323471 [.int .u32 3049323471] from rfl) (Reps.one (show Kd.M (Kd.int .u32) _ _ _ 3921009573 [.int .u32 3921009573] from rfl) (Reps.one (show Kd.M (Kd.int .u32) _ _ _ 961987163 [.int .u32 961987163] from rfl) (Reps.one (show Kd.M (Kd.int .u32) _ _ _ 1508970993 [.int .u32 1508970993] from rfl) (Reps.one (show Kd.M (Kd.int .u32) _ _ _ 2453635748 [.int .u32 2453635748] from rfl) (Reps.one (show Kd.M (Kd.int .u32) _ _ _ 2870763221 [.int .u32 2870763221] from rfl) (Reps.one (show Kd.M (Kd.int .u32) _ _ _ 3624381080 [.int .u32 3624381080] from rfl) (Reps.one (show Kd.M (Kd.int .u32) _ _ _ 310598401 [.int .u32 310598401] from rfl) (Reps.one (show Kd.M (Kd.int .u32) _ _ _ 607225278 [.int .u32 607225278] from rfl) (Reps.one (show Kd.M (Kd.int .u32) _ _ _ 1426881987 [.int .u32 1426881987] from rfl) (Reps.one (show Kd.M (Kd.int .u32) _ _ _ 1925078388 [.int .u32 1925078388] from rfl) (Reps.one (show Kd.M (Kd.int .u32) _ _ _ 2162078206 [.int .u32 2162078206] from rfl) (Reps.one (show Kd.M (Kd.int .u32) _ _ _ 2614888103 [.int .u32 2614888103] from rfl) (Reps.one (show Kd.M (Kd.int .u32) _ _ _ 3248222580 [.int .u32 3248222580] from rfl) (Reps.one (show Kd.M (Kd.int .u32) _ _ _ 3835390401 [.int .u32 3835390401] from rfl) (Reps.one (show Kd.M (Kd.int .u32) _ _ _ 4022224774 [.int .u32 4022224774] from rfl) (Reps.one (show Kd.M (Kd.int .u32) _ _ _ 264347078 [.int .u32 264347078] from rfl) (Reps.one (show Kd.M (Kd.int .u32) _ _ _ 604807628 [.int .u32 604807628] from rfl) (Reps.one (show Kd.M (Kd.int .u32) _ _ _ 770255983 [.int .u32 770255983] from rfl) (Reps.one (show Kd.M (Kd.int .u32) _ _ _ 1249150122 [.int .u32 1249150122] from rfl) (Reps.one (show Kd.M (Kd.int .u32) _ _ _ 1555081692 [.int .u32 1555081692] from rfl) (Reps.one (show Kd.M (Kd.int .u32) _ _ _ 1996064986 [.int .u32 1996064986] from rfl) (Reps.one (show Kd.M (Kd.int .u32) _ _ _ 2554220882 [.int .u32 2554220882] from rfl) (Reps.one (show Kd.M (Kd.int .u32) _ _ _ 2821834349 [.int .u32 2821834349] from rfl) (Reps.one (show Kd.M (Kd.int .u32) _ _ _ 2952996808 [.int .u32 2952996808] from rfl) (Reps.one (show Kd.M (Kd.int .u32) _ _ _ 3210313671 [.int .u32 3210313671] from rfl) (Reps.one (show Kd.M (Kd.int .u32) _ _ _ 3336571891 [.int .u32 3336571891] from rfl) (Reps.one (show Kd.M (Kd.int .u32) _ _ _ 3584528711 [.int .u32 3584528711] from rfl) (Reps.one (show Kd.M (Kd.int .u32) _ _ _ 113926993 [.int .u32 113926993] from rfl) (Reps.one (show Kd.M (Kd.int .u32) _ _ _ 338241895 [.int .u32 338241895] from rfl) (Reps.one (show Kd.M (Kd.int .u32) _ _ _ 666307205 [.int .u32 666307205] from rfl) (Reps.one (show Kd.M (Kd.int .u32) _ _ _ 773529912 [.int .u32 773529912] from rfl) (Reps.one (show Kd.M (Kd.int .u32) _ _ _ 1294757372 [.int .u32 1294757372] from rfl) (Reps.one (show Kd.M (Kd.int .u32) _ _ _ 1396182291 [.int .u32 1396182291] from rfl) (Reps.one (show Kd.M (Kd.int .u32) _ _ _ 1695183700 [.int .u32 1695183700] from rfl) (Reps.one (show Kd.M (Kd.int .u32) _ _ _ 1986661051 [.int .u32 1986661051] from rfl) (Reps.one (show Kd.M (Kd.int .u32) _ _ _ 2177026350 [.int .u32 2177026350] from rfl) (Reps.one (show Kd.M (Kd.int .u32) _ _ _ 2456956037 [.int .u32 2456956037] from rfl) (Reps.one (show Kd.M (Kd.int .u32) _ _ _ 2730485921 [.int .u32 2730485921] from rfl) (Reps.one (show Kd.M (Kd.int .u32) _ _ _ 2820302411 [.int .u32 2820302411] from rfl) (Reps.one (show Kd.M (Kd.int .u32) _ _ _ 3259730800 [.int .u32 3259730800] from rfl) (Reps.one (show Kd.M (Kd.int .u32) _ _ _ 3345764771 [.int .u32 3345764771] from rfl) (Reps.one (show Kd.M (Kd.int .u32) _ _ _ 3516065817 [.int .u32 3516065817] from rfl) (Reps.one (show Kd.M (Kd.int .u32) _ _ _ 3600352804 [.int .u32 3600352804] from rfl) (Reps.one (show Kd.M (Kd.int .u32) _ _ _ 4094571909 [.int .u32 4094571909] from rfl) (Reps.one (show Kd.M (Kd.int .u32) _ _ _ 275423344 [.int .u32 275423344] from rfl) (Reps.one (show Kd.M (Kd.int .u32) _ _ _ 430227734 [.int .u32 430227734] from rfl) (Reps.one (show Kd.M (Kd.int .u32) _ _ _ 506948616 [.int .u32 506948616] from rfl) (Reps.one (show Kd.M (Kd.int .u32) _ _ _ 659060556 [.int .u32 659060556] from rfl) (Reps.one (show Kd.M (Kd.int .u32) _ _ _ 883997877 [.int .u32 883997877] from rfl) (Reps.one (show Kd.M (Kd.int .u32) _ _ _ 958139571 [.int .u32 958139571] from rfl) (Reps.one (show Kd.M (Kd.int .u32) _ _ _ 1322822218 [.int .u32 1322822218] from rfl) (Reps.one (show Kd.M (Kd.int .u32) _ _ _ 1537002063 [.int .u32 1537002063] from rfl) (Reps.one (show Kd.M (Kd.int .u32) _ _ _ 1747873779 [.int .u32 1747873779] from rfl) (Reps.one (show Kd.M (Kd.int .u32) _ _ _ 1955562222 [.int .u32 1955562222] from rfl) (Reps.one (show Kd.M (Kd.int .u32) _ _ _ 2024104815 [.int .u32 2024104815] from rfl) (Reps.one (show Kd.M (Kd.int .u32) _ _ _ 2227730452 [.int .u32 2227730452] from rfl) (Reps.one (show Kd.M (Kd.int .u32) _ _ _ 2361852424 [.int .u32 2361852424] from rfl) (Reps.one (show Kd.M (Kd.int .u32) _ _ _ 2428436474 [.int .u32 2428436474] from rfl) (Reps.one (show Kd.M (Kd.int .u32) _ _ _ 2756734187 [.int .u32 2756734187] from rfl) (Reps.one (show Kd.M (Kd.int .u32) _ _ _ 3204031479 [.int .u32 3204031479] from rfl) (Reps.one (show Kd.M (Kd.int .u32) _ _ _ 3329325298 [.int .u32 3329325298] from rfl) (Reps.none _ _))))))))))))))))))))))))))))))))))))))))))))))))))))))))))))))))));intro v153 w1 ho2 hb hg_ hnew_;clear hg_ hnew_;(rw [← Ny152.out] at ho2);have HO154:=ζa (Kd.R_lower ho2 (δs (by exact HB.out)));replace HB:=ζa (δr (by exact HB.out) hb);clear hb ho2))
 go_ret
 exact ⟨_,by rfl,by exact HO154.out,by repeat ((with_reducible exact HB.out))⟩


set_option maxHeartbeats 8000000
set_option maxRecDepth 100000

/-! ### spec_l01Turn: function 113 -/
def spec_l01Turn.f (a0:Int) (a1:Int):Option (Int):=if 0≤a1 then (if 0≤(IntKind.u64.wrap (32 - a1)) then (some (Go.bits .or .u32 (shr .u32 a0 a1) (shl .u32 a0 (IntKind.u64.wrap (32 - a1))))) else (none)) else (none)
theorem spec_l01Turn.calls (a0:Int) (a1:Int) (r:Int) (w:World) (h:spec_l01Turn.f a0 a1=some r) :
  Calls Try.prog 113 #[.int .u32 a0,.int .u64 a1] w fun e w'=>e = .returned (.int .u32 r)∧Drawn0 w w':=by
 have H:(if 0≤a1 then (if 0≤(IntKind.u64.wrap (32 - a1)) then (some (Go.bits .or .u32 (shr .u32 a0 a1) (shl .u32 a0 (IntKind.u64.wrap (32 - a1))))) else (none)) else (none))=some r:=h
 clear h
 by_cases c3:0≤a1
 ·
  rw [if_pos c3] at H
  have c3b0:=eq_true c3
  have c3b1:=decide_eq_true c3
  clear c3
  obtain ⟨ji4,hji4⟩ : ∃ j_:Int,(shr .u32 a0 a1)=j_:=⟨_,rfl⟩
  replace H:(if 0≤(IntKind.u64.wrap (32 - a1)) then (some (Go.bits .or .u32 (ji4) (shl .u32 a0 (IntKind.u64.wrap (32 - a1))))) else (none))=some r:=by (rw [hji4] at H;exact H)
  have hji4_:(a0 / 2 ^ min a1.toNat 32)=ji4:=hji4
  have hji4z:a1≤32→(a0 / 2 ^ a1.toNat)=ji4:=shr_small hji4
  obtain ⟨ji5,hji5⟩ : ∃ j_:Int,(IntKind.u64.wrap (32 - a1))=j_:=⟨_,rfl⟩
  replace H:(if 0≤(ji5) then (some (Go.bits .or .u32 (ji4) (shl .u32 a0 (ji5)))) else (none))=some r:=by (rw [hji5] at H;exact H)
  by_cases c6:0≤(ji5)
  ·
   rw [if_pos c6] at H
   have c6b0:=eq_true c6
   have c6b1:=decide_eq_true c6
   clear c6
   obtain ⟨ji7,hji7⟩ : ∃ j_:Int,(shl .u32 a0 (ji5))=j_:=⟨_,rfl⟩
   replace H:(some (Go.bits .or .u32 (ji4) (ji7)))=some r:=by (rw [hji7] at H;exact H)
   have hji7_:(IntKind.u32.wrap (a0 * 2 ^ min (ji5).toNat 32))=ji7:=hji7
   have hji7z:(ji5)≤32→(IntKind.u32.wrap (a0 * 2 ^ (ji5).toNat))=ji7:=shl_small hji7
   obtain rfl:=Option.some.inj H
   go_enter Try.func113,Try.ntmps113
   go_wp2
   go_ret
   exact ⟨by rfl,by repeat (exact Drawn0.refl _)⟩
  ·
   rw [if_neg c6] at H
   exact absurd H (by simp)
 ·
  rw [if_neg c3] at H
  exact absurd H (by simp)


open Go.Proofs.YtggemblkhckbpaaW.PrintWords renaming below_alloc → δk, gate_dst → δx, below_size → δs, below_step → δr, blk_drew → δp, below_drew1 → δj, blk_cell → δl, blk_frozen → δm, blk_put → δw, below_set → δq, blk_drewN → δn, pw_below_drewN → δi, cell_far → δt, add_block → δu
open Go.Proofs.YtggemblkhckbpaaW.PrintWords.Kd renaming R_reads' → ζg
set_option maxHeartbeats 8000000
set_option maxRecDepth 100000


/-! ### spec_l01Block: function 90 -/
def sturnV (x n:Int):Int:=Go.bits .or .u32 (shr .u32 x n) (shl .u32 x (32 - n))
theorem sturn_at (x n:Int) (hn:n=2 ∨ n=6 ∨ n=7 ∨ n=11 ∨ n=13 ∨ n=17 ∨ n=18 ∨ n=19 ∨ n=22 ∨ n=25):spec_l01Turn.f x n=some (sturnV x n):=by
 unfold spec_l01Turn.f sturnV
 have key : ∀ n:Int,0≤n→IntKind.u64.wrap (32 - n)=32 - n→0≤32 - n→(if 0≤n then (if 0≤(IntKind.u64.wrap (32 - n)) then (some (Go.bits .or .u32 (shr .u32 x n) (shl .u32 x (IntKind.u64.wrap (32 - n))))) else (none)) else (none):Option Int)=some (Go.bits .or .u32 (shr .u32 x n) (shl .u32 x (32 - n))):=by
  intro n h1 h2 h3
  rw [if_pos h1,h2,if_pos h3]
 rcases hn with rfl|rfl|rfl|rfl|rfl|rfl|rfl|rfl|rfl|rfl <;> exact key _ (by decide) (by kernel_rfl) (by decide)
theorem off_zero {g j:Nat} : (⟨g,0,none⟩:Addr).add j=⟨g,j,none⟩:=by unfold Addr.add;split <;> simp_all
def spec_l01Block.wd (B:List Int) (j:Int):Int:=Go.bits .or .u32 (Go.bits .or .u32 (Go.bits .or .u32 (rd B j % 4294967296 * 16777216 % 4294967296) (rd B (j+1) % 4294967296 * 65536 % 4294967296)) (rd B (j+2) % 4294967296 * 256 % 4294967296)) (rd B (j+3) % 4294967296)
def spec_l01Block.sg (x:Int) (a b c:Int):Int:=Go.bits .xor .u32 (Go.bits .xor .u32 (sturnV x a) (sturnV x b)) (x / c)
def spec_l01Block.at (B:List Int) (L:List Int) (i:Nat):Int:=if i<16 then spec_l01Block.wd B (4 * (i:Int)) else (((rd L ((i:Int) - 16)+spec_l01Block.sg (rd L ((i:Int) - 15)) 7 18 8) % 4294967296+rd L ((i:Int) - 7)) % 4294967296+spec_l01Block.sg (rd L ((i:Int) - 2)) 17 19 1024) % 4294967296
def spec_l01Block.upto (B:List Int):Nat→List Int
 | 0=>List.replicate 64 0
 | i+1=>(spec_l01Block.upto B i).set i (spec_l01Block.at B (spec_l01Block.upto B i) i)
theorem spec_l01Block.upto_len (B:List Int) : ∀ i,(spec_l01Block.upto B i).length=64
 | 0=>rfl
 | i+1=>by unfold spec_l01Block.upto;rw [List.length_set];exact spec_l01Block.upto_len B i
/-- A literal,as a step of a region that draws. -/
theorem lit_step {Pg:Program} {ops:Array Oper} {o:Oper} {a:Act} {Q:Exit→Act→World→Prop} {Kc:Act→World→Prop} {W:World} {n:Nat} (hw:Region.wanted o (yielded ops a.tmps)=τ) {N:Tmp} (_hd:o.dst=some N) {cs:Array Value} {t:TypeId}
  (hrun:(execOp a.eval o).run Pg W = .ok (.value (.slice (some ⟨W.heap.size,0,none⟩) n n)) (W.alloc (.cells cs t (0,0))))
  (h : ∀ g,g=W.heap.size → ∀ w1,w1.heap[g]? = some (.cells cs t (0,0))→Below W.heap.size W w1→Kc (a.put o.dst (.slice (some ⟨g,0,none⟩) n n)) w1):if Region.wanted o (yielded ops a.tmps)=τ then Oper.wp Pg o a W Kc Q else Kc (a.put o.dst undef) W :=
 event_step hw hrun (h _ rfl _ (blk_new W _) (δk (Below.refl _ _) _))
theorem lit_event1 {Pg:Program} {ops:Array Oper} {Q:Exit→Act→World→Prop} {rest:List Oper} {op:Oper} {a:Act} {W:World} {n:Nat} (hgd:op.guard=none) {N:Tmp} (_hd:op.dst=some N) {cs:Array Value} {t:TypeId}
  (hrun:(execOp a.eval op).run Pg W = .ok (.value (.slice (some ⟨W.heap.size,0,none⟩) n n)) (W.alloc (.cells cs t (0,0))))
  (h : ∀ g,g=W.heap.size → ∀ w1,w1.heap[g]? = some (.cells cs t (0,0))→Below W.heap.size W w1→wpList Pg ops Q rest (a.put op.dst (.slice (some ⟨g,0,none⟩) n n)) w1):wpList Pg ops Q (op :: rest) a W :=
 Kd.event_run hgd hrun (h _ rfl _ (blk_new W _) (δk (Below.refl _ _) _))
def spec_l01Block.p5 (KK W v:List Int) (i:Nat):Int:=rd v 7+Go.bits .xor .u32 (Go.bits .xor .u32 (sturnV (rd v 4) 6) (sturnV (rd v 4) 11)) (sturnV (rd v 4) 25)+Go.bits .xor .u32 (Go.bits .and .u32 (rd v 4) (rd v 5)) (Go.bits .and .u32 (Go.bits .xor .u32 IntKind.u32.max (rd v 4)) (rd v 6))+rd KK (i:Int)+rd W (i:Int)
def spec_l01Block.q5 (v:List Int):Int:=Go.bits .xor .u32 (Go.bits .xor .u32 (sturnV (rd v 0) 2) (sturnV (rd v 0) 13)) (sturnV (rd v 0) 22)+Go.bits .xor .u32 (Go.bits .xor .u32 (Go.bits .and .u32 (rd v 0) (rd v 1)) (Go.bits .and .u32 (rd v 0) (rd v 2))) (Go.bits .and .u32 (rd v 1) (rd v 2))
def spec_l01Block.step (KK W v:List Int) (i:Nat):List Int:=[(spec_l01Block.p5 KK W v i % 4294967296+spec_l01Block.q5 v % 4294967296) % 4294967296,rd v 0,rd v 1,rd v 2,(rd v 3+spec_l01Block.p5 KK W v i % 4294967296) % 4294967296,rd v 4,rd v 5,rd v 6]
def spec_l01Block.rounds (KK W v0:List Int):Nat→List Int
 | 0=>v0
 | i+1=>spec_l01Block.step KK W (spec_l01Block.rounds KK W v0 i) i
def spec_l01Block.v (H B KK:List Int):List Int:=impl_blockHash.adds H (spec_l01Block.rounds KK (spec_l01Block.upto B 64) H 64) 8
theorem spec_l01Block.rounds_len (KK W v0:List Int) (h:v0.length=8) : ∀ i,(spec_l01Block.rounds KK W v0 i).length=8
 | 0=>h
 | i+1=>rfl
def spec_l01Block.T4:Bool × List (List Nat × List Nat):=(τ,[([],[]),([],[]),([],[]),([],[]),([3],[3]),([2,4],[2,4]),([5],[5]),([6],[6]),([7],[7]),([],[]),([],[]),([10],[10]),([11],[11]),([9,12],[9,12]),([13],[13]),([14],[14]),([15],[15]),([8,16],[8,16]),([],[]),([],[]),([19],[19]),([20],[20]),([18,21],[18,21]),([22],[22]),([23],[23]),([24],[24]),([17,25],[17,25]),([],[]),([],[]),([28],[28]),([29],[29]),([27,30],[27,30]),([31],[31]),([32],[32]),([26,33],[26,33]),([0,1,0,1,2,3,4,5,6,7,8,9,10,11,12,13,14,15,16,17,18,19,20,21,22,23,24,25,26,27,28,29,30,31,32,33,34],[0,1]),([35,34,0,1,2,3,4,5,6,7,8,9,10,11,12,13,14,15,16,17,18,19,20,21,22,23,24,25,26,27,28,29,30,31,32,33,34],[34,35])])
def spec_l01Block.B4:List Nat:=[0,0,0,0,8,28,60,124,252,0,0,1024,3072,7680,15872,32256,65024,131068,0,0,524288,1572864,3932160,8126464,16515072,33292288,67108860,0,0,268435456,805306368,2013265920,4160749568,8455716864,17179869180,34359738367,68719476735]
theorem spec_l01Block.tab4:rtab .any (opsOf Try.f90 4)=spec_l01Block.T4:=by kernel_rfl
theorem spec_l01Block.bits4:waitsOk spec_l01Block.T4.2 spec_l01Block.B4=τ:=by kernel_rfl
def spec_l01Block.T10:Bool × List (List Nat × List Nat):=(τ,[([],[]),([],[]),([],[]),([],[]),([3],[3]),([2,4],[2,4]),([5],[5]),([],[]),([7],[7]),([],[]),([9,8],[9]),([8,10],[8,10]),([],[]),([12],[12]),([11,13],[11,13]),([6,14],[6,14]),([],[]),([],[]),([17],[17]),([16,18],[16,18]),([19],[19]),([15,20],[15,20]),([],[]),([22,10],[22]),([],[]),([24,23],[24]),([23,25],[23,25]),([],[]),([27],[27]),([26,28],[26,28]),([21,29],[21,29]),([0,1,0,1,2,3,4,5,6,7,8,9,10,11,12,13,14,15,16,17,18,19,20,21,22,23,24,25,26,27,28,29,30],[0,1]),([31,30,25,0,1,2,3,4,5,6,7,8,9,10,11,12,13,14,15,16,17,18,19,20,21,22,23,24,25,26,27,28,29,30],[30,31])])
def spec_l01Block.B10:List Nat:=[0,0,0,0,8,28,60,0,128,0,896,1920,0,4096,16256,32764,0,0,131072,458752,983040,2097148,0,4196224,0,29362048,62916480,0,134217728,532678528,1073741820,2147483647,4294967295]
theorem spec_l01Block.tab10:rtab .any (opsOf Try.f90 10)=spec_l01Block.T10:=by kernel_rfl
theorem spec_l01Block.bits10:waitsOk spec_l01Block.T10.2 spec_l01Block.B10=τ:=by kernel_rfl
def spec_l01Block.T19:Bool × List (List Nat × List Nat):=(τ,[([],[]),([],[]),([0,1],[0,1]),([],[]),([3],[3]),([4],[4]),([],[]),([6],[6]),([7],[7]),([],[]),([9],[9]),([10],[10]),([],[]),([12],[12]),([13],[13]),([],[]),([14,15],[14,15]),([],[]),([17],[17]),([18],[18]),([],[]),([20],[20]),([21],[21]),([],[]),([23],[23]),([24],[24]),([2,5,8,11,16,19,22,25],[2,5,8,11,16,19,22,25]),([26,0,1,2,3,4,5,6,7,8,9,10,11,12,13,14,15,16,17,18,19,20,21,22,23,24,25,26],[3,6,9,12,17,20,23,26])])
def spec_l01Block.B19:List Nat:=[0,0,3,0,8,24,0,64,192,0,512,1536,0,4096,12288,0,61440,0,131072,393216,0,1048576,3145728,0,8388608,25165824,67108863,134217727]
theorem spec_l01Block.tab19:rtab .any (opsOf Try.f90 19)=spec_l01Block.T19:=by kernel_rfl
theorem spec_l01Block.bits19:waitsOk spec_l01Block.T19.2 spec_l01Block.B19=τ:=by kernel_rfl
def spec_l01Block.T23:Bool × List (List Nat × List Nat):=(τ,[([],[]),([],[]),([0,1],[0,1]),([2],[2]),([],[]),([],[]),([4,5],[4,5]),([6],[6]),([3,7],[3,7]),([0,1,0,1,2,3,4,5,6,7,8],[0,1]),([9,8,0,1,2,3,4,5,6,7,8],[8,9])])
def spec_l01Block.B23:List Nat:=[0,0,3,7,0,0,48,112,255,511,1023]
theorem spec_l01Block.tab23:rtab .any (opsOf Try.f90 23)=spec_l01Block.T23:=by kernel_rfl
theorem spec_l01Block.bits23:waitsOk spec_l01Block.T23.2 spec_l01Block.B23=τ:=by kernel_rfl
theorem spec_l01Block.run (gh cb ck:Nat) (adb adk:Addr) (H B KK:List Int) (w0 w:World) (hH:w.heap[gh]? = some (.cells ((H.map (Value.int .u32)).toArray) 113 (0,0))) (lH:H.length=8) (hBc : ∀ j:Nat,j<64→w.cell? (adb.add j)=some (.int .u8 (rd B (j:Int)))) (hKc : ∀ j:Nat,j<64→w.cell? (adk.add j)=some (.int .u32 (rd KK (j:Int)))) (hB0:Below w0.heap.size w0 w) (hgh:w0.heap.size≤gh) :
  Calls Try.prog 90 #[.slice (some ⟨gh,0,none⟩) 8 8,.slice (some adb) 64 cb,.slice (some adk) 64 ck] w fun e w'=>e = .returned (.tuple #[])∧w'.heap[gh]? = some (.cells (((spec_l01Block.v H B KK).map (Value.int .u32)).toArray) 113 (0,0))∧Below w0.heap.size w0 w'∧(∀ g,g<w.heap.size→g≠gh→w'.heap[g]? = w.heap[g]?)∧w.heap.size≤w'.heap.size:=by
 have hu48:=Try.underlying119
 have hu22:=Try.underlying22
 have hu36:=Try.underlying113
 have HB:=ζa (Below.refl w.heap.size w)
 have BH:=ζa hH
 have LH:=ζa lH
 have hBc:=ζa hBc
 have hKc:=ζa hKc
 have HB0:=ζa hB0
 have HGH:=ζa hgh
 clear hH lH hB0 hgh
 have mk : ∀ W:World,(Instr.makeSlice 119 (.int .i64 64) (.int .i64 64)).run Try.prog W = .ok (.slice (some ⟨W.heap.size,0,none⟩) 64 64) (W.alloc (.cells (((List.replicate 64 (0:Int)).map (Value.int .u32)).toArray) 113 (0,0))):=fun W=>by
  have hi:=info113
  cases hq:Try.prog.info? 113 with
  | none=>rw [hq] at hi;cases hi
  | some ti =>
   rw [hq] at hi
   have h3:=Option.some.inj hi
   have hz:ti.zero=some (.int .u32 0):=congrArg (fun x=>x.1) h3
   have hs:ti.size=1:=congrArg (fun x=>x.2.1) h3
   have hb:ti.bytes=4:=congrArg (fun x=>x.2.2) h3
   have e:=run_make (P:=Try.prog) W 119 113 ti (.int .u32 0) hu48 hq hz .i64 .i64 64 64 (by decide) (by decide) (by rw [hb];decide) (by decide)
   have hm:madeCells (Value.int IntKind.u32 0).cells (Int.toNat 64 * 1)=(((List.replicate 64 (0:Int)).map (Value.int .u32)).toArray):=by kernel_rfl
   rw [hs,hm] at e
   exact e
 go_enter Try.func90,Try.ntmps90
 go_wp2_with (first
  | ((with_reducible refine δx (N:=18) rfl ?_);refine lit_event1 ?hg (n:=64) (N:=18) ?hd (cs:=(((List.replicate 64 (0:Int)).map (Value.int .u32)).toArray)) (t:=113) ?hr ?_;(case hd=>rfl);(case hg=>rfl);(case hr=>first|(go_simp;done)|(go_simp;rfl));intro gw hgw w_ hbox hb;have GW:=ζa ((by rw [hgw];exact δs HB.out):w.heap.size≤gw);have n0_:=ζa (δr HB.out hb);clear HB;have HB:=n0_;have Bw:=ζa hbox;clear n0_ hb hbox hgw))
 go_wp2
 go_loopg [7] 16 (fun kq v7 w' => ∃ i:Nat,v7 = .int .i64 (i:Int)∧Aside0 (i+kq=16)∧Aside0 (w'.heap[gw]? = some (.cells (((spec_l01Block.upto B i).map (Value.int .u32)).toArray) 113 (0,0)))∧Aside0 (Below w.heap.size w w'))
 case atStart=>exact ⟨0,rfl,⟨rfl⟩,Bw,HB⟩
 case round =>
  clear Bw HB
  obtain ⟨i,rfl,HI,Bw,HB⟩:=hrel
  cases gk with
  | succ k1 =>
   have hi:=HI.out
   have hi16:(i:Int)<16:=by omega
   have c16:decide ((i:Int)<16)=τ:=decide_eq_true hi16
   have x16:((i:Int)<16)=True:=eq_true hi16
   have x64:((i:Int)<64)=True:=eq_true (by omega)
   have z0:(0≤(i:Int))=True:=eq_true (by omega)
   have INC:=ζa (show ζm ((i:Int)+1)=((i+1:Nat):Int) by rw [IntWalk.wrap64_in _ ⟨by omega,by omega⟩];rfl)
   have w0_:ζm (4 * (i:Int))=((4 * i:Nat):Int):=by rw [IntWalk.wrap64_in _ ⟨by omega,by omega⟩];omega
   have w1_:ζm (((4 * i:Nat):Int)+1)=((4 * i+1:Nat):Int):=by rw [IntWalk.wrap64_in _ ⟨by omega,by omega⟩];omega
   have w2_:ζm (((4 * i:Nat):Int)+2)=((4 * i+2:Nat):Int):=by rw [IntWalk.wrap64_in _ ⟨by omega,by omega⟩];omega
   have w3_:ζm (((4 * i:Nat):Int)+3)=((4 * i+3:Nat):Int):=by rw [IntWalk.wrap64_in _ ⟨by omega,by omega⟩];omega
   obtain ⟨m0,hm0⟩ : ∃ m:Nat,m=4 * i:=⟨_,rfl⟩
   obtain ⟨m1,hm1⟩ : ∃ m:Nat,m=m0+1:=⟨_,rfl⟩
   obtain ⟨m2,hm2⟩ : ∃ m:Nat,m=m0+2:=⟨_,rfl⟩
   obtain ⟨m3,hm3⟩ : ∃ m:Nat,m=m0+3:=⟨_,rfl⟩
   rw [← hm0] at w0_ w1_ w2_ w3_
   rw [← hm1] at w1_
   rw [← hm2] at w2_
   rw [← hm3] at w3_
   have p0:((m0:Int)<64)=True:=eq_true (by omega)
   have p1:((m1:Int)<64)=True:=eq_true (by omega)
   have p2:((m2:Int)<64)=True:=eq_true (by omega)
   have p3:((m3:Int)<64)=True:=eq_true (by omega)
   have q0:(0≤(m0:Int))=True:=eq_true (by omega)
   have q1:(0≤(m1:Int))=True:=eq_true (by omega)
   have q2:(0≤(m2:Int))=True:=eq_true (by omega)
   have q3:(0≤(m3:Int))=True:=eq_true (by omega)
   have EE:=ζa (And.intro hm0 (And.intro hm1 (And.intro hm2 hm3)))
   have LM:=ζa (show m0<64∧m1<64∧m2<64∧m3<64 by omega)
   have HI16:=ζa hi16
   clear hi hi16 hm0 hm1 hm2 hm3
   go_upto_region 4 with (fail)
   try go_wp2
   replace Bw:=ζa (δp Bw.out)
   replace HB:=ζa (δj HB.out)
   refine sta 37 (fun w'=>w'.cell? (adb.add m0)=some (.int .u8 (rd B (m0:Int)))∧w'.cell? (adb.add m1)=some (.int .u8 (rd B (m1:Int)))∧w'.cell? (adb.add m2)=some (.int .u8 (rd B (m2:Int)))∧w'.cell? (adb.add m3)=some (.int .u8 (rd B (m3:Int)))) [36] spec_l01Block.tab4 spec_l01Block.bits4 ⟨((HB.out.cell (World.block_lt_of_cell? w _ ((hBc.out m0 (by have:=LM.out;omega))))).trans ((hBc.out m0 (by have:=LM.out;omega)))),((HB.out.cell (World.block_lt_of_cell? w _ ((hBc.out m1 (by have:=LM.out;omega))))).trans ((hBc.out m1 (by have:=LM.out;omega)))),((HB.out.cell (World.block_lt_of_cell? w _ ((hBc.out m2 (by have:=LM.out;omega))))).trans ((hBc.out m2 (by have:=LM.out;omega)))),((HB.out.cell (World.block_lt_of_cell? w _ ((hBc.out m3 (by have:=LM.out;omega))))).trans ((hBc.out m3 (by have:=LM.out;omega))))⟩ (fun hHeld HT_ HW_ => ?_)
   generalize wr.drew=wd_ at Bw HB hHeld ⊢
   refine pu 0 23 ?_
   refine pu 1 24 ?_
   refine pu 2 25 ?_
   refine pu 3 26 ?_
   refine pu 4 27 ?_
   refine pu 5 28 ?_
   refine ta 6 29 ?_
   refine pu 7 30 ?_
   refine pu 8 31 ?_
   refine pu 9 32 ?_
   refine pu 10 33 ?_
   refine pu 11 34 ?_
   refine pu 12 35 ?_
   refine pu 13 36 ?_
   refine ta 14 37 ?_
   refine pu 15 38 ?_
   refine pu 16 39 ?_
   refine pu 17 40 ?_
   refine pu 18 41 ?_
   refine pu 19 42 ?_
   refine pu 20 43 ?_
   refine pu 21 44 ?_
   refine pu 22 45 ?_
   refine ta 23 46 ?_
   refine pu 24 47 ?_
   refine pu 25 48 ?_
   refine pu 26 49 ?_
   refine pu 27 50 ?_
   refine pu 28 51 ?_
   refine pu 29 52 ?_
   refine pu 30 53 ?_
   refine pu 31 54 ?_
   refine ta 32 55 ?_
   refine pu 33 56 ?_
   refine pu 34 57 ?_
   refine pu 35 58 ?_
   refine last_ (i:=36) (N:=none) #[τ,τ,τ,τ,τ,τ,τ,τ,τ,τ,τ,τ,τ,τ,τ,τ,τ,τ,τ,τ,τ,τ,τ,τ,τ,τ,τ,τ,τ,τ,τ,τ,τ,τ,τ,τ,τ] rfl rfl (one_of HT_.out (by kernel_rfl)) (by decide) (fun K hK => ?_)
   have hs:=(δl Bw.out i).trans (arr_get (by rw [spec_l01Block.upto_len];have:=HI16.out;omega))
   have hf:=δm Bw.out i
   refine skip_ (w1:=?_) (by rfl) rfl ?_ ?_
   rotate_left
   ·
    go_simp
    rfl
   refine hK.out _ _ ?_
   clear hK K
   refine done_ (done_of HT_.out (by kernel_rfl)) ?_
   go_wp2
   go_roundg k1
   case measure=>omega
   case rel =>
    refine ⟨i+1,by rw [INC.out],⟨by have:=HI.out;omega⟩,⟨δw Bw.out i _ ?_⟩,⟨δq HB.out GW.out⟩⟩
    rw [arr_set]
    obtain ⟨e0,e1,e2,e3⟩:=EE.out
    show _=(((spec_l01Block.upto B i).set i (spec_l01Block.at B (spec_l01Block.upto B i) i)).map (Value.int .u32)).toArray
    unfold spec_l01Block.at spec_l01Block.wd
    have f0:(m0:Int)=4 * (i:Int):=by omega
    have f1:(m1:Int)=4 * (i:Int)+1:=by omega
    have f2:(m2:Int)=4 * (i:Int)+2:=by omega
    have f3:(m3:Int)=4 * (i:Int)+3:=by omega
    rw [if_pos (by have:=HI16.out;omega),f0,f1,f2,f3]
  | zero =>
   have hi:i=16:=HI.out
   subst hi
   clear HI
   go_wp2
   go_loopg [8] 48 (fun kq v8 w' => ∃ i:Nat,v8 = .int .i64 (i:Int)∧Aside0 (i+kq=64)∧Aside0 (16≤i)∧Aside0 (w'.heap[gw]? = some (.cells (((spec_l01Block.upto B i).map (Value.int .u32)).toArray) 113 (0,0)))∧Aside0 (Below w.heap.size w w'))
   case atStart=>exact ⟨16,rfl,⟨rfl⟩,⟨Nat.le_refl _⟩,⟨by repeat (exact Bw.out)⟩,⟨by repeat (exact HB.out)⟩⟩
   case round =>
    clear Bw HB
    obtain ⟨i,rfl,HI,HH,Bw,HB⟩:=hrel
    cases gk with
    | succ k1 =>
     have hi:=HI.out
     have h16:=HH.out
     have hi64:(i:Int)<64:=by omega
     have c64:decide ((i:Int)<64)=τ:=decide_eq_true hi64
     have x64:((i:Int)<64)=True:=eq_true hi64
     have z0:(0≤(i:Int))=True:=eq_true (by omega)
     have INC:=ζa (show ζm ((i:Int)+1)=((i+1:Nat):Int) by rw [IntWalk.wrap64_in _ ⟨by omega,by omega⟩];rfl)
     have L64:=spec_l01Block.upto_len B i
     obtain ⟨n16,hn16,N16⟩ : ∃ n:Nat,ζm ((i:Int) - 16)=(n:Int)∧Aside0 (n+16=i):=⟨i - 16,by rw [IntWalk.wrap64_in _ ⟨by omega,by omega⟩];omega,⟨by omega⟩⟩
     obtain ⟨n15,hn15,N15⟩ : ∃ n:Nat,ζm ((i:Int) - 15)=(n:Int)∧Aside0 (n+15=i):=⟨i - 15,by rw [IntWalk.wrap64_in _ ⟨by omega,by omega⟩];omega,⟨by omega⟩⟩
     obtain ⟨n7,hn7,N7⟩ : ∃ n:Nat,ζm ((i:Int) - 7)=(n:Int)∧Aside0 (n+7=i):=⟨i - 7,by rw [IntWalk.wrap64_in _ ⟨by omega,by omega⟩];omega,⟨by omega⟩⟩
     obtain ⟨n2,hn2,N2⟩ : ∃ n:Nat,ζm ((i:Int) - 2)=(n:Int)∧Aside0 (n+2=i):=⟨i - 2,by rw [IntWalk.wrap64_in _ ⟨by omega,by omega⟩];omega,⟨by omega⟩⟩
     have x16:((n16:Int)<64)=True:=eq_true (by have:=N16.out;omega)
     have x15:((n15:Int)<64)=True:=eq_true (by have:=N15.out;omega)
     have x7:((n7:Int)<64)=True:=eq_true (by have:=N7.out;omega)
     have x2:((n2:Int)<64)=True:=eq_true (by have:=N2.out;omega)
     have z16:(0≤(n16:Int))=True:=eq_true (by omega)
     have z15:(0≤(n15:Int))=True:=eq_true (by omega)
     have z7:(0≤(n7:Int))=True:=eq_true (by omega)
     have z2:(0≤(n2:Int))=True:=eq_true (by omega)
     have v15:=(δl Bw.out n15).trans (arr_get (by rw [L64];have:=N15.out;omega))
     have v2:=(δl Bw.out n2).trans (arr_get (by rw [L64];have:=N2.out;omega))
     have H64:=ζa hi64
     clear hi64 L64 hi h16
     go_upto_region 10 with (fail)
     clear v15 v2
     try go_wp2
     replace Bw:=ζa (δp Bw.out)
     replace HB:=ζa (δj HB.out)
     refine sta 33 (fun w'=>w'.cell? ⟨gw,n16,none⟩=some (.int .u32 (rd (spec_l01Block.upto B i) (n16:Int)))∧w'.cell? ⟨gw,n7,none⟩=some (.int .u32 (rd (spec_l01Block.upto B i) (n7:Int)))) [32] spec_l01Block.tab10 spec_l01Block.bits10 ⟨(δl Bw.out n16).trans (arr_get (by rw [spec_l01Block.upto_len];have:=N16.out;have:=H64.out;omega)),(δl Bw.out n7).trans (arr_get (by rw [spec_l01Block.upto_len];have:=N7.out;have:=H64.out;omega))⟩ (fun hHeld HT_ HW_ => ?_)
     generalize wr.drew=wd_ at Bw HB hHeld ⊢
     refine pu 0 73 ?_
     refine pu 1 74 ?_
     refine pu 2 75 ?_
     refine pu 3 76 ?_
     refine pu 4 77 ?_
     refine pu 5 78 ?_
     refine ta 6 79 ?_
     refine pu 7 80 ?_
     refine pu 9 82 ?_
     refine pu 12 85 ?_
     refine pu 13 86 ?_
     refine pu 16 89 ?_
     refine pu 17 90 ?_
     refine pu 18 91 ?_
     refine pu 19 92 ?_
     refine ta 20 93 ?_
     refine pu 22 95 ?_
     refine pu 24 97 ?_
     refine pu 27 100 ?_
     refine pu 28 101 ?_
     refine on 8 81 (fun K hK => ?_)
     refine gs Try.func113 #[.int .u32 (rd (spec_l01Block.upto B i) (n15:Int)),.int .u64 7] ?_
     with_reducible refine (spec_l01Turn.calls (rd (spec_l01Block.upto B i) (n15:Int)) 7 _ _ (sturn_at (rd (spec_l01Block.upto B i) (n15:Int)) 7 (by decide))).mono ?_
     rintro e w_ ⟨rfl,⟨nd8,rfl⟩⟩
     refine ⟨_,rfl,?_⟩
     refine hK.out _ _ ⟨(δl Bw.out n16).trans (arr_get (by rw [spec_l01Block.upto_len];have:=N16.out;have:=H64.out;omega)),(δl Bw.out n7).trans (arr_get (by rw [spec_l01Block.upto_len];have:=N7.out;have:=H64.out;omega))⟩ (fun hHeld => ?_)
     clear hK K
     refine nm 81 ?_
     refine on 10 83 (fun K hK => ?_)
     refine gs Try.func113 #[.int .u32 (rd (spec_l01Block.upto B i) (n15:Int)),.int .u64 18] ?_
     with_reducible refine (spec_l01Turn.calls (rd (spec_l01Block.upto B i) (n15:Int)) 18 _ _ (sturn_at (rd (spec_l01Block.upto B i) (n15:Int)) 18 (by decide))).mono ?_
     rintro e w_ ⟨rfl,⟨nd10,rfl⟩⟩
     refine ⟨_,rfl,?_⟩
     refine hK.out _ _ ⟨(δl Bw.out n16).trans (arr_get (by rw [spec_l01Block.upto_len];have:=N16.out;have:=H64.out;omega)),(δl Bw.out n7).trans (arr_get (by rw [spec_l01Block.upto_len];have:=N7.out;have:=H64.out;omega))⟩ (fun hHeld => ?_)
     clear hK K
     refine nm 83 ?_
     refine pu 11 84 ?_
     refine pu 14 87 ?_
     refine pu 15 88 ?_
     refine pu 21 94 ?_
     refine on 23 96 (fun K hK => ?_)
     refine gs Try.func113 #[.int .u32 (rd (spec_l01Block.upto B i) (n2:Int)),.int .u64 17] ?_
     with_reducible refine (spec_l01Turn.calls (rd (spec_l01Block.upto B i) (n2:Int)) 17 _ _ (sturn_at (rd (spec_l01Block.upto B i) (n2:Int)) 17 (by decide))).mono ?_
     rintro e w_ ⟨rfl,⟨nd23,rfl⟩⟩
     refine ⟨_,rfl,?_⟩
     refine hK.out _ _ ⟨(δl Bw.out n16).trans (arr_get (by rw [spec_l01Block.upto_len];have:=N16.out;have:=H64.out;omega)),(δl Bw.out n7).trans (arr_get (by rw [spec_l01Block.upto_len];have:=N7.out;have:=H64.out;omega))⟩ (fun hHeld => ?_)
     clear hK K
     refine nm 96 ?_
     refine on 25 98 (fun K hK => ?_)
     refine gs Try.func113 #[.int .u32 (rd (spec_l01Block.upto B i) (n2:Int)),.int .u64 19] ?_
     with_reducible refine (spec_l01Turn.calls (rd (spec_l01Block.upto B i) (n2:Int)) 19 _ _ (sturn_at (rd (spec_l01Block.upto B i) (n2:Int)) 19 (by decide))).mono ?_
     rintro e w_ ⟨rfl,⟨nd25,rfl⟩⟩
     refine ⟨_,rfl,?_⟩
     refine hK.out _ _ ⟨(δl Bw.out n16).trans (arr_get (by rw [spec_l01Block.upto_len];have:=N16.out;have:=H64.out;omega)),(δl Bw.out n7).trans (arr_get (by rw [spec_l01Block.upto_len];have:=N7.out;have:=H64.out;omega))⟩ (fun hHeld => ?_)
     clear hK K
     refine nm 98 ?_
     refine pu 26 99 ?_
     refine pu 29 102 ?_
     refine pu 30 103 ?_
     refine pu 31 104 ?_
     refine last_ (i:=32) (N:=none) #[τ,τ,τ,τ,τ,τ,τ,τ,τ,τ,τ,τ,τ,τ,τ,τ,τ,τ,τ,τ,τ,τ,τ,τ,τ,τ,τ,τ,τ,τ,τ,τ,τ] rfl rfl (one_of HT_.out (by kernel_rfl)) (by decide) (fun K hK => ?_)
     have hs:wd_.cell? ⟨gw,i,none⟩=_:=(δl Bw.out i).trans (arr_get (by rw [spec_l01Block.upto_len];have:=H64.out;omega))
     have hf:=δm Bw.out i
     refine skip_ (w1:=?_) (by rfl) rfl ?_ ?_
     rotate_left
     ·
      go_simp
      rfl
     refine hK.out _ _ ?_
     clear hK K
     refine done_ (done_of HT_.out (by kernel_rfl)) ?_
     go_wp2
     go_roundg k1
     case measure=>omega
     case rel =>
      refine ⟨i+1,by rw [INC.out],⟨by have:=HI.out;omega⟩,⟨by have:=HH.out;omega⟩,⟨δw (δn Bw.out _) i _ ?_⟩,⟨δq (by apply δi;exact HB.out) GW.out⟩⟩
      rw [arr_set]
      show _=(((spec_l01Block.upto B i).set i (spec_l01Block.at B (spec_l01Block.upto B i) i)).map (Value.int .u32)).toArray
      unfold spec_l01Block.at spec_l01Block.sg
      rw [if_neg (by have:=HH.out;omega),show (i:Int) - 16=(n16:Int) by have:=N16.out;omega,show (i:Int) - 15=(n15:Int) by have:=N15.out;omega,show (i:Int) - 7=(n7:Int) by have:=N7.out;omega,show (i:Int) - 2=(n2:Int) by have:=N2.out;omega]
    | zero =>
     have hi:i=64:=HI.out
     subst hi
     clear HI HH
     have hCH:Kd.C (Kd.int .u32) w (some ⟨gh,0,none⟩) 8 H  :=Kd.C_of_reads (d:=(0:Int)) ⟨LH.out,by decide,fun _=>⟨⟨gh,0,none⟩,rfl,fun j hj=>by
      rw [off_zero]
      have h:=(δl BH.out j).trans (arr_get (L:=H) (i:=j) (by have:=LH.out;omega))
      exact h⟩⟩
     have CH:=ζa hCH
     clear hCH
     obtain ⟨W64,hW64⟩ : ∃ l:List Int,l=spec_l01Block.upto B 64:=⟨_,rfl⟩
     rw [← hW64] at Bw
     have L64:=ζa (show W64.length=64 by rw [hW64];exact spec_l01Block.upto_len B 64)
     have HW64:=ζa hW64
     clear hW64
     have BR:=ζa (Below.refl wr.heap.size wr)
     go_wp2_with (first|((with_reducible refine δx (N:=105) rfl ?_);refine Kd.R_lit (Kd.int .u32) wr.heap.size 113 ?hg (N:=105) ?hd (w0:=wr) (xs:=([]:List Int)) (inner:=[]) (ok:=fun _=>True) (okp:=fun _=>True) ?hr ?hp (fun _ hk=>hk) trivial (by repeat (exact Below.refl _ _)) (Below.size (show Below wr.heap.size wr _ from by repeat (exact Below.refl _ _))) (by simp) ?_;(case hd=>rfl);(case hg=>rfl);(case hr=>(go_simp;done));(case hp=>exact (Reps.none _ _));intro vL wL hoL hbL hg_ hnew_;clear hg_ hnew_;have HOL:=ζa hoL;have HBL:=ζa hbL;clear hoL hbL)|((with_reducible refine δx (N:=107) rfl ?_);refine Kd.R_append_rows (w0:=wr) (Rr:=(Kd.int .u32).K wL) (Kd.int .u32) wr.heap.size ?hg (.tmp 105) (.tmp 106) 119 113 (.int .u32 0) 4 rfl Try.underlying119 info113 rfl (by decide) (by decide) vL [] H (some ⟨gh,0,none⟩) 8 8 (fun _=>True) (fun _=>False) rfl rfl HOL.out (Kd.C_below (Kd.C_below CH.out HB.out) HBL.out) (fun x cs h=>h) (fun _ h=>h.elim) (fun _ _=>trivial) HBL.out HBL.out.size (by have:=LH.out;simp only [List.length_nil];omega) ?_;(case hg=>rfl);intro vM wM hoM hbM hg_ hnew_;clear hg_ hnew_;have HOM:=ζa hoM;have HBM:=ζa hbM;clear hoM hbM))
     obtain ⟨Av,cv,ev⟩:=Kd.R_slice HOM.out
     subst ev
     have hrd:=(ζg HOM.out).2.2
     obtain ⟨adv,rfl,_⟩:=Kd.at_int hrd 0 (by decide) (by have:=LH.out;simp only [List.nil_append];omega)
     have CV:Aside0 (∀ j:Nat,j<8→wM.cell? (adv.add j)=some (.int .u32 (rd H (j:Int)))):=⟨fun j hj=>by
      obtain ⟨ad,e,hc⟩:=Kd.at_int hrd (j:Int) (by omega) (by have:=LH.out;simp only [List.nil_append];omega)
      injection e with e
      subst e
      rw [Int.toNat_natCast,List.nil_append] at hc
      exact hc⟩
     clear hrd
     have lN:(([]:List Int) ++ H).length=8:=by rw [List.nil_append];exact LH.out
     rw [lN]
     clear lN
     have n0_:=ζa (δr HB.out HBM.out)
     have n1_:=ζa (blk_below Bw.out HBM.out)
     clear HB Bw HOM HOL HBL HBM CH
     have HB:=n0_
     have Bw:=n1_
     clear n0_ n1_
     have LTH:=ζa (blk_lt BH.out)
     go_loopg [11,12] 64 (fun kq v11 v12 w' => ∃ (i:Nat) (V:List Int) (adv:Addr) (cv:Nat),v12 = .int .i64 (i:Int)∧v11 = .slice (some adv) 8 cv∧Aside0 (i+kq=64)∧Aside0 (V=spec_l01Block.rounds KK W64 H i)∧Aside0 (V.length=8)∧Aside0 (i=0 ∨ adv.block≠gh)∧Aside0 (∀ j:Nat,j<8→w'.cell? (adv.add j)=some (.int .u32 (rd V (j:Int))))∧Aside0 (w'.heap[gw]? = some (.cells ((W64.map (Value.int .u32)).toArray) 113 (0,0)))∧Aside0 (Below w.heap.size w w'))
     case atStart=>exact ⟨0,H,adv,cv,rfl,rfl,⟨rfl⟩,⟨rfl⟩,LH,⟨Or.inl rfl⟩,CV,Bw,HB⟩
     case round =>
      clear CV Bw HB
      obtain ⟨i,V,adv,cv,rfl,rfl,HI,HV,HV8,NG,CV,Bw,HB⟩:=hrel
      cases gk with
      | succ k1 =>
       have hi:=HI.out
       have hi64:(i:Int)<64:=by omega
       have c64:decide ((i:Int)<64)=τ:=decide_eq_true hi64
       have x64:((i:Int)<64)=True:=eq_true hi64
       have z0:(0≤(i:Int))=True:=eq_true (by omega)
       have INC:=ζa (show ζm ((i:Int)+1)=((i+1:Nat):Int) by rw [IntWalk.wrap64_in _ ⟨by omega,by omega⟩];rfl)
       have cv0:wr.cell? adv=some (.int .u32 (rd V 0)):=CV.out 0 (by decide)
       have cv1:wr.cell? ⟨adv.block,adv.off+1,none⟩=some (.int .u32 (rd V 1)):=CV.out 1 (by decide)
       have cv2:wr.cell? ⟨adv.block,adv.off+2,none⟩=some (.int .u32 (rd V 2)):=CV.out 2 (by decide)
       have cv3:wr.cell? ⟨adv.block,adv.off+3,none⟩=some (.int .u32 (rd V 3)):=CV.out 3 (by decide)
       have cv4:wr.cell? ⟨adv.block,adv.off+4,none⟩=some (.int .u32 (rd V 4)):=CV.out 4 (by decide)
       have cv5:wr.cell? ⟨adv.block,adv.off+5,none⟩=some (.int .u32 (rd V 5)):=CV.out 5 (by decide)
       have cv6:wr.cell? ⟨adv.block,adv.off+6,none⟩=some (.int .u32 (rd V 6)):=CV.out 6 (by decide)
       have cv7:wr.cell? ⟨adv.block,adv.off+7,none⟩=some (.int .u32 (rd V 7)):=CV.out 7 (by decide)
       have ck:wr.cell? (adk.add i)=some (.int .u32 (rd KK (i:Int))):=(HB.out.cell (World.block_lt_of_cell? w _ (hKc.out i (by omega)))).trans (hKc.out i (by omega))
       have vw:wr.cell? ⟨gw,i,none⟩=some (.int .u32 (rd W64 (i:Int))):=(δl Bw.out i).trans (arr_get (by have:=L64.out;omega))
       clear hi hi64
       go_upto_region 17 with (fail)
       go_quiet (first
        | (go_at_call 113;(with_reducible refine (spec_l01Turn.calls (rd V 4) 6 _ _ (sturn_at (rd V 4) 6 (by decide))).mono ?_);rintro e w' ⟨rfl,⟨nd,rfl⟩⟩;(try first|exact ⟨rfl,_,World.drewN_drewN _ _ _⟩|exact ⟨rfl,_,Eq.trans (World.drewN_drewN _ _ _) (congrArg (World.drewN _) (Nat.add_assoc _ _ _))⟩))
        | (go_at_call 113;(with_reducible refine (spec_l01Turn.calls (rd V 4) 11 _ _ (sturn_at (rd V 4) 11 (by decide))).mono ?_);rintro e w' ⟨rfl,⟨nd,rfl⟩⟩;(try first|exact ⟨rfl,_,World.drewN_drewN _ _ _⟩|exact ⟨rfl,_,Eq.trans (World.drewN_drewN _ _ _) (congrArg (World.drewN _) (Nat.add_assoc _ _ _))⟩))
        | (go_at_call 113;(with_reducible refine (spec_l01Turn.calls (rd V 4) 25 _ _ (sturn_at (rd V 4) 25 (by decide))).mono ?_);rintro e w' ⟨rfl,⟨nd,rfl⟩⟩;(try first|exact ⟨rfl,_,World.drewN_drewN _ _ _⟩|exact ⟨rfl,_,Eq.trans (World.drewN_drewN _ _ _) (congrArg (World.drewN _) (Nat.add_assoc _ _ _))⟩)))
       go_upto_region 18 with (fail)
       go_quiet (first
        | (go_at_call 113;(with_reducible refine (spec_l01Turn.calls (rd V 0) 2 _ _ (sturn_at (rd V 0) 2 (by decide))).mono ?_);rintro e w' ⟨rfl,⟨nd,rfl⟩⟩;(try first|exact ⟨rfl,_,World.drewN_drewN _ _ _⟩|exact ⟨rfl,_,Eq.trans (World.drewN_drewN _ _ _) (congrArg (World.drewN _) (Nat.add_assoc _ _ _))⟩))
        | (go_at_call 113;(with_reducible refine (spec_l01Turn.calls (rd V 0) 13 _ _ (sturn_at (rd V 0) 13 (by decide))).mono ?_);rintro e w' ⟨rfl,⟨nd,rfl⟩⟩;(try first|exact ⟨rfl,_,World.drewN_drewN _ _ _⟩|exact ⟨rfl,_,Eq.trans (World.drewN_drewN _ _ _) (congrArg (World.drewN _) (Nat.add_assoc _ _ _))⟩))
        | (go_at_call 113;(with_reducible refine (spec_l01Turn.calls (rd V 0) 22 _ _ (sturn_at (rd V 0) 22 (by decide))).mono ?_);rintro e w' ⟨rfl,⟨nd,rfl⟩⟩;(try first|exact ⟨rfl,_,World.drewN_drewN _ _ _⟩|exact ⟨rfl,_,Eq.trans (World.drewN_drewN _ _ _) (congrArg (World.drewN _) (Nat.add_assoc _ _ _))⟩)))
       go_upto_region 19 with (fail)
       try go_wp2
       refine sta 28 (fun w'=>w'.cell? adv=some (.int .u32 (rd V 0))∧w'.cell? ⟨adv.block,adv.off+1,none⟩=some (.int .u32 (rd V 1))∧w'.cell? ⟨adv.block,adv.off+2,none⟩=some (.int .u32 (rd V 2))∧w'.cell? ⟨adv.block,adv.off+3,none⟩=some (.int .u32 (rd V 3))∧w'.cell? ⟨adv.block,adv.off+4,none⟩=some (.int .u32 (rd V 4))∧w'.cell? ⟨adv.block,adv.off+5,none⟩=some (.int .u32 (rd V 5))∧w'.cell? ⟨adv.block,adv.off+6,none⟩=some (.int .u32 (rd V 6))) [] spec_l01Block.tab19 spec_l01Block.bits19 ⟨cv0,cv1,cv2,cv3,cv4,cv5,cv6⟩ (fun hHeld HT_ HW_ => ?_)
       refine pu 0 181 ?_
       refine pu 1 182 ?_
       refine pu 2 183 ?_
       refine pu 3 184 ?_
       refine pu 4 185 ?_
       refine ta 5 186 ?_
       refine pu 6 187 ?_
       refine pu 7 188 ?_
       refine ta 8 189 ?_
       refine pu 9 190 ?_
       refine pu 10 191 ?_
       refine ta 11 192 ?_
       refine pu 12 193 ?_
       refine pu 13 194 ?_
       refine ta 14 195 ?_
       refine pu 15 196 ?_
       refine pu 16 197 ?_
       refine pu 17 198 ?_
       refine pu 18 199 ?_
       refine ta 19 200 ?_
       refine pu 20 201 ?_
       refine pu 21 202 ?_
       refine ta 22 203 ?_
       refine pu 23 204 ?_
       refine pu 24 205 ?_
       refine ta 25 206 ?_
       refine on 26 207 (fun K hK => ?_)
       refine lit_step ?hg (n:=8) (N:=207) ?hd (cs:=(((spec_l01Block.step KK W64 V i).map (Value.int .u32)).toArray)) (t:=113) ?hr ?_
       (case hd=>rfl)
       (case hg=>rfl)
       (case hr=>(go_simp;rfl))
       intro gv hgv w_ hbox hb
       have GV:=ζa ((by rw [hgv];exact δs (show Below w.heap.size w _ from by repeat (first|exact HB.out|apply δi))):w.heap.size≤gv)
       have HS0_:=(hb.cell (World.block_lt_of_cell? _ _ (hHeld.1))).trans (hHeld.1)
       have HS1_:=(hb.cell (World.block_lt_of_cell? _ _ (hHeld.2.1))).trans (hHeld.2.1)
       have HS2_:=(hb.cell (World.block_lt_of_cell? _ _ (hHeld.2.2.1))).trans (hHeld.2.2.1)
       have HS3_:=(hb.cell (World.block_lt_of_cell? _ _ (hHeld.2.2.2.1))).trans (hHeld.2.2.2.1)
       have HS4_:=(hb.cell (World.block_lt_of_cell? _ _ (hHeld.2.2.2.2.1))).trans (hHeld.2.2.2.2.1)
       have HS5_:=(hb.cell (World.block_lt_of_cell? _ _ (hHeld.2.2.2.2.2.1))).trans (hHeld.2.2.2.2.2.1)
       have HS6_:=(hb.cell (World.block_lt_of_cell? _ _ (hHeld.2.2.2.2.2.2))).trans (hHeld.2.2.2.2.2.2)
       have n0_:=ζa (blk_below (δp (δn Bw.out _)) hb)
       have n1_:=ζa (δr (by repeat (first|exact HB.out|apply δi)) hb)
       clear Bw HB
       have Bw:=n0_
       have HB:=n1_
       clear n0_ n1_
       have BV:=ζa hbox
       clear hb hbox hgv
       refine hK.out _ _ ⟨HS0_,HS1_,HS2_,HS3_,HS4_,HS5_,HS6_⟩ (fun hHeld => ?_)
       clear hK K
       refine nm 207 ?_
       refine pu 27 11 ?_
       refine done_ (done_of HT_.out (by kernel_rfl)) ?_
       go_wp2
       go_roundg k1
       case measure=>omega
       case rel =>
        refine ⟨i+1,spec_l01Block.step KK W64 V i,⟨gv,0,none⟩,8,by rw [INC.out],rfl,⟨by have:=HI.out;omega⟩,⟨by rw [HV.out];rfl⟩,⟨rfl⟩,⟨Or.inr (fun e=>by have:=GV.out;have:=LTH.out;simp only at e;omega)⟩,⟨fun j hj => ?_⟩,⟨Bw.out⟩,⟨HB.out⟩⟩
        rw [off_zero]
        exact (δl BV.out j).trans (arr_get hj)
      | zero =>
       have hi:i=64:=HI.out
       subst hi
       have ng:adv.block≠gh:=by
        rcases NG.out with h|h
        · cases h
        ·
         exact h
       have NGG:=ζa ng
       have n0_:Aside0 (∀ g,g<w.heap.size→g≠gh→wr.heap[g]? = w.heap[g]?):=⟨fun g hg _=>HB.out.block g hg⟩
       have n1_:Aside0 (w.heap.size≤wr.heap.size):=⟨HB.out.size⟩
       have n2_:=ζa (δr HB0.out HB.out)
       have n3_:=ζa (blk_below BH.out HB.out)
       clear BH HB NG ng Bw
       have FR:=n0_
       have SZ:=n1_
       have HB:=n2_
       have BH:=n3_
       clear n0_ n1_ n2_ n3_ HI
       go_wp2
       go_loopg [17] 8 (fun kq v17 w' => ∃ i:Nat,v17 = .int .i64 (i:Int)∧Aside0 (i+kq=8)∧Aside0 (w'.heap[gh]? = some (.cells (((impl_blockHash.adds H V i).map (Value.int .u32)).toArray) 113 (0,0)))∧Aside0 (∀ j:Nat,j<8→w'.cell? (adv.add j)=some (.int .u32 (rd V (j:Int))))∧Aside0 (∀ g,g<w.heap.size→g≠gh→w'.heap[g]? = w.heap[g]?)∧Aside0 (w.heap.size≤w'.heap.size)∧Aside0 (Below w0.heap.size w0 w'))
       case atStart=>exact ⟨0,rfl,⟨rfl⟩,⟨BH.out⟩,⟨CV.out⟩,⟨FR.out⟩,⟨SZ.out⟩,⟨HB.out⟩⟩
       case round =>
        clear BH CV FR SZ HB
        obtain ⟨i,rfl,HI,BH,CV,FR,SZ,HB⟩:=hrel
        cases gk with
        | succ k1 =>
         have hi:=HI.out
         have hi8:(i:Int)<8:=by omega
         have c8:decide ((i:Int)<8)=τ:=decide_eq_true hi8
         have x8:((i:Int)<8)=True:=eq_true hi8
         have z0:(0≤(i:Int))=True:=eq_true (by omega)
         have INC:=ζa (show ζm ((i:Int)+1)=((i+1:Nat):Int) by rw [IntWalk.wrap64_in _ ⟨by omega,by omega⟩];rfl)
         have LX:=ζa (show (impl_blockHash.adds H V i).length=8 by rw [impl_blockHash.adds_len];exact LH.out)
         have H8:=ζa hi8
         clear hi hi8
         go_upto_region 23 with (fail)
         try go_wp2
         replace BH:=ζa (δp BH.out)
         have n0_:Aside0 (∀ j:Nat,j<8→wr.drew.cell? (adv.add j)=some (.int .u32 (rd V (j:Int)))):=⟨CV.out⟩
         clear CV
         have CV:=n0_
         clear n0_
         have n0_:Aside0 (∀ g,g<w.heap.size→g≠gh→wr.drew.heap[g]? = w.heap[g]?):=⟨FR.out⟩
         clear FR
         have FR:=n0_
         clear n0_
         have n0_:Aside0 (w.heap.size≤wr.drew.heap.size):=⟨SZ.out⟩
         clear SZ
         have SZ:=n0_
         clear n0_
         replace HB:=ζa (δj HB.out)
         refine sta 11 (fun w'=>w'.cell? ⟨gh,i,none⟩=some (.int .u32 (rd (impl_blockHash.adds H V i) (i:Int)))∧w'.cell? (adv.add i)=some (.int .u32 (rd V (i:Int)))) [10] spec_l01Block.tab23 spec_l01Block.bits23 ⟨(δl BH.out i).trans (arr_get (by have:=LX.out;have:=H8.out;omega)),CV.out i (by have:=H8.out;omega)⟩ (fun hHeld HT_ HW_ => ?_)
         generalize wr.drew=wd_ at BH CV FR SZ HB hHeld ⊢
         refine pu 0 212 ?_
         refine pu 1 213 ?_
         refine pu 2 214 ?_
         refine ta 3 215 ?_
         refine pu 4 216 ?_
         refine pu 5 217 ?_
         refine pu 6 218 ?_
         refine ta 7 219 ?_
         refine pu 8 220 ?_
         refine pu 9 221 ?_
         refine last_ (i:=10) (N:=none) #[τ,τ,τ,τ,τ,τ,τ,τ,τ,τ,τ] rfl rfl (one_of HT_.out (by kernel_rfl)) (by decide) (fun K hK => ?_)
         have hs:=(δl BH.out i).trans (arr_get (by have:=LX.out;have:=H8.out;omega))
         have hf:=δm BH.out i
         refine skip_ (w1:=?_) (by rfl) rfl ?_ ?_
         rotate_left
         ·
          go_simp
          rfl
         refine hK.out _ _ ?_
         clear hK K
         refine done_ (done_of HT_.out (by kernel_rfl)) ?_
         go_wp2
         go_roundg k1
         case measure=>omega
         case rel =>
          refine ⟨i+1,by rw [INC.out],⟨by have:=HI.out;omega⟩,⟨δw BH.out i _ ?_⟩,⟨fun j hj=>(δt (p:=⟨gh,i,none⟩) (by rw [δu];exact NGG.out) _).trans (CV.out j hj)⟩,⟨fun g hg hne=>(Below.heap_setCell _ ⟨gh,i,none⟩ _ g hne).trans (FR.out g hg hne)⟩,⟨by have:=SZ.out;simpa [World.setCell] using this⟩,⟨δq HB.out HGH.out⟩⟩
          rw [arr_set]
          rfl
        | zero =>
         have hi:i=8:=HI.out
         subst hi
         go_wp2
         go_end0
         refine ⟨rfl,?_,HB.out,FR.out,SZ.out⟩
         have e:=BH.out
         rw [HV.out,HW64.out] at e
         exact e


open Go.Proofs.YtggemblkhckbpaaW.PrintWords renaming blk_cell → δl, gate_dst → δx, below_size → δs, below_alloc → δk, pw_below_drewN → δi, below_drew1 → δj, below_step → δr, blk_drew → δp
open Go.Proofs.YtggemblkhckbpaaW.PrintWords.Kd renaming R_ne → ζf, R_below → ζh, R_reads' → ζg, R_drew → ζe
open List renaming map_toArray → δd, map_cons → δe, map_nil → δf
set_option maxHeartbeats 8000000
set_option maxRecDepth 100000


/-! ### spec_l01Hash: function 66 -/
theorem C_one8 {W:World} {g:Nat} {x:Int} (h:W.heap[g]? = some (.cells #[.int .u8 x] 5 (0,0))):Kd.C (Kd.int .u8) W (some ⟨g,0,none⟩) 1 [x]:=Kd.C_of_reads (d:=(0:Int)) ⟨rfl,by decide,fun _=>⟨⟨g,0,none⟩,rfl,fun j hj=>by
 obtain rfl:j=0:=by omega
 exact (δl h 0).trans rfl⟩⟩
theorem off_add {g a j:Nat} : (⟨g,a,none⟩:Addr).add j=⟨g,a+j,none⟩:=by unfold Addr.add;split <;> simp_all
theorem rd_sub {t:List Int} {a j:Nat} (h:j<64):rd ((t.drop a).take 64) (j:Int)=rd t ((a+j:Nat):Int):=by
 show ((t.drop a).take 64).getD ((j:Int)).toNat 0=t.getD (((a+j:Nat):Int)).toNat 0
 rw [Int.toNat_natCast,Int.toNat_natCast,List.getD_eq_getElem?_getD,List.getD_eq_getElem?_getD,List.getElem?_take,if_pos h,List.getElem?_drop]
theorem cell_same {W W':World} {g q:Nat} (h:W'.heap[g]? = W.heap[g]?):W'.cell? ⟨g,q,none⟩=W.cell? ⟨g,q,none⟩:=by simp only [World.cell?,h]
def spec_l01Hash.st (K H:List Int) (t:List Int):Nat→List Int
 | 0=>H
 | i+1=>spec_l01Block.v (spec_l01Hash.st K H t i) ((t.drop (64 * i)).take 64) K
def spec_l01Hash.lb (n:Nat):Nat→List Int
 | 0 => []
 | j+1=>spec_l01Hash.lb n j ++ [8 * (n:Int) / 2 ^ (8 * (7 - j)) % 256]
theorem spec_l01Hash.lb_len (n:Nat) : ∀ j,(spec_l01Hash.lb n j).length=j
 | 0=>rfl
 | j+1=>by unfold spec_l01Hash.lb;rw [List.length_append,spec_l01Hash.lb_len n j];rfl
theorem spec_l01Hash.st_len (K H t:List Int) (h:H.length=8) : ∀ i,(spec_l01Hash.st K H t i).length=8
 | 0=>h
 | i+1=>by unfold spec_l01Hash.st spec_l01Block.v;rw [impl_blockHash.adds_len];exact spec_l01Hash.st_len K H t h i
def spec_l01Hash.h0:List Int:=[1779033703,3144134277,1013904242,2773480762,1359893119,2600822924,528734635,1541459225]
theorem spec_l01Hash.h0_len:spec_l01Hash.h0.length=8:=rfl
theorem C_four8 {W:World} {g:Nat} {a b c d:Int} (h:W.heap[g]? = some (.cells #[.int .u8 a,.int .u8 b,.int .u8 c,.int .u8 d] 5 (0,0))):Kd.C (Kd.int .u8) W (some ⟨g,0,none⟩) 4 [a,b,c,d]:=Kd.C_of_reads (d:=(0:Int)) ⟨rfl,by decide,fun _=>⟨⟨g,0,none⟩,rfl,fun j hj=>by
 rw [off_zero]
 match j,hj with
 | 0,_=>exact (δl h 0).trans rfl
 | 1,_=>exact (δl h 1).trans rfl
 | 2,_=>exact (δl h 2).trans rfl
 | 3,_=>exact (δl h 3).trans rfl⟩⟩
def spec_l01Hash.ol (ST:List Int):Nat→List Int
 | 0 => []
 | j+1=>spec_l01Hash.ol ST j ++ [IntKind.u8.wrap (rd ST (j:Int) / 16777216),IntKind.u8.wrap (rd ST (j:Int) / 65536),IntKind.u8.wrap (rd ST (j:Int) / 256),IntKind.u8.wrap (rd ST (j:Int))]
theorem spec_l01Hash.ol_len (ST:List Int) : ∀ j,(spec_l01Hash.ol ST j).length=4 * j
 | 0=>rfl
 | j+1=>by unfold spec_l01Hash.ol;rw [List.length_append,spec_l01Hash.ol_len ST j];simp only [List.length_cons,List.length_nil];omega
def spec_l01Hash.pad (L:List Int):List Int:=((([] ++ L) ++ [128]) ++ List.replicate ((119 - L.length % 64) % 64) 0) ++ spec_l01Hash.lb L.length 8
def spec_l01Hash.v (L:List Int):ByteArray:=strOfNums (spec_l01Hash.ol (spec_l01Hash.st (spec_l01Consts.f.getD []) spec_l01Hash.h0 (spec_l01Hash.pad L) ((spec_l01Hash.pad L).length / 64)) 8)
def spec_l01Hash.T18:Bool × List (List Nat × List Nat):=(τ,[([],[]),([],[]),([],[]),([1,2],[1,2]),([3],[3]),([4],[4]),([5],[5]),([],[]),([],[]),([7,8],[7,8]),([9],[9]),([10],[10]),([11],[11]),([],[]),([],[]),([13,14],[13,14]),([15],[15]),([16],[16]),([17],[17]),([],[]),([],[]),([19,20],[19,20]),([21],[21]),([22],[22]),([6,12,18,23],[6,12,18,23]),([0,24],[0,24]),([25,25,0,1,2,3,4,5,6,7,8,9,10,11,12,13,14,15,16,17,18,19,20,21,22,23,24,25],[0,25])])
def spec_l01Hash.B18:List Nat:=[0,0,0,6,14,30,62,0,0,384,896,1920,3968,0,0,24576,57344,122880,253952,0,0,1572864,3670016,7864320,16777214,33554431,67108863]
theorem spec_l01Hash.tab18:rtab .any (opsOf Try.f66 18)=spec_l01Hash.T18:=by kernel_rfl
theorem spec_l01Hash.bits18:waitsOk spec_l01Hash.T18.2 spec_l01Hash.B18=τ:=by kernel_rfl
theorem spec_l01Hash.run (A:Option Addr) (ca:Nat) (L:List Int) (w:World) (hL:Kd.C (Kd.int .u8) w A L.length L) (hc:L.length≤ca) (hn:L.length≤1000000) :
  Calls Try.prog 66 #[.slice A L.length ca] w fun e w'=>e = .returned (.string (spec_l01Hash.v L))∧Below w.heap.size w w':=by
 have hu48:=Try.underlying119
 have hu22:=Try.underlying22
 have HL:=ζa hL
 have HB:=ζa (Below.refl w.heap.size w)
 have HN:=ζa hn
 clear hL hc hn
 go_enter Try.func66,Try.ntmps66
 go_wp2_with (first
  | ((with_reducible refine δx (N:=10) rfl ?_);refine lit_event1 ?hg (n:=8) (N:=10) ?hd (cs:=((spec_l01Hash.h0.map (Value.int .u32)).toArray)) (t:=113) ?hr ?_;(case hd=>rfl);(case hg=>rfl);(case hr=>first|(go_simp;done)|(go_simp;rfl));intro gh hgl wh hbox hb;have Ggh:=ζa ((by rw [hgl];exact δs (show Below w.heap.size w _ from by repeat (first|exact HB.out|apply δk|apply δi|apply δj))):w.heap.size≤gh);replace HB:=ζa (δr (by repeat (first|exact HB.out|apply δk|apply δi|apply δj)) hb);have Bgh:=ζa hbox;clear hb hbox hgl)
  | ((with_reducible refine δx (N:=11) rfl ?_);refine Kd.R_lit (Kd.int .u8) w.heap.size 5 ?hg (N:=11) ?hd (w0:=w) (xs:=([]:List Int)) (inner:=[]) (ok:=fun _=>True) (okp:=fun _=>True) ?hr ?hp (fun _ hk=>hk) trivial HB.out HB.out.size (by simp) ?_;(case hd=>rfl);(case hg=>rfl);(case hr=>first|(go_simp;done)|(go_simp;rfl));(case hp=>exact (Reps.none _ _));intro vL wL hoL hbL hgL hnL;have n0_:=ζa (blk_grown Bgh.out hgL (by simp));clear Bgh HB;have Bgh:=n0_;have HB:=ζa hbL;have HOA:=ζa hoL;clear n0_ hoL hbL hgL hnL)
  | ((with_reducible refine δx (N:=13) rfl ?_);refine Kd.R_append_rows (w0:=w) (Rr:=(Kd.int .u8).K wL) (Kd.int .u8) w.heap.size ?hg (.tmp 11) (.tmp 12) 22 5 (.int .u8 0) 1 rfl Try.underlying22 info5 rfl (by decide) (by decide) vL [] L A L.length ca (fun _=>True) (fun _=>False) rfl rfl HOA.out (Kd.C_below HL.out HB.out) (fun x cs h=>h) (fun _ h=>h.elim) (fun _ _=>trivial) HB.out HB.out.size (by have:=HN.out;simp only [List.length_nil];omega) ?_;(case hg=>rfl);intro vM wM hoM hbM hgM hnM;have n0_:=ζa (blk_grown Bgh.out hgM (ζf HOA.out Bgh.out (by decide)));have n1_:=ζa (hbM);clear Bgh HB;have Bgh:=n0_;have HB:=n1_;clear n0_ n1_;clear HOA;have HOA:=ζa hoM;clear hoM hbM hgM hnM)
  | ((with_reducible refine δx (N:=14) rfl ?_);refine lit_event1 ?hg (n:=1) (N:=14) ?hd (cs:=#[.int .u8 128]) (t:=5) ?hr ?_;(case hd=>rfl);(case hg=>rfl);(case hr=>first|(go_simp;done)|(go_simp;rfl));intro g1 hgl w1 hbox hb;have Gg1:=ζa ((by rw [hgl];exact δs (show Below w.heap.size w _ from by repeat (first|exact HB.out|apply δk|apply δi|apply δj))):w.heap.size≤g1);have n0_:=ζa (blk_below Bgh.out hb);have n1_:=ζa (ζh HOA.out hb);have n2_:=ζa (δr (by repeat (first|exact HB.out|apply δk|apply δi|apply δj)) hb);clear Bgh HOA HB;have Bgh:=n0_;have HOA:=n1_;have HB:=n2_;clear n0_ n1_ n2_;have Bg1:=ζa hbox;clear hb hbox hgl)
  | ((with_reducible refine δx (N:=15) rfl ?_);refine Kd.R_append_rows (w0:=w) (Rr:=(Kd.int .u8).K w1) (Kd.int .u8) w.heap.size ?hg (.tmp 13) (.tmp 14) 22 5 (.int .u8 0) 1 rfl Try.underlying22 info5 rfl (by decide) (by decide) vM ([] ++ L) [128] (some ⟨g1,0,none⟩) 1 1 (fun _=>True) (fun _=>False) rfl rfl HOA.out (C_one8 Bg1.out) (fun x cs h=>h) (fun _ h=>h.elim) (fun _ _=>trivial) HB.out HB.out.size (by have:=HN.out;simp only [List.length_nil,List.nil_append];omega) ?_;(case hg=>rfl);intro vA wA hoM hbM hgM hnM;have n0_:=ζa (blk_grown Bgh.out hgM (ζf HOA.out Bgh.out (by decide)));have n1_:=ζa (hbM);clear Bgh HB;have Bgh:=n0_;have HB:=n1_;clear n0_ n1_;clear HOA;have HOA:=ζa hoM;clear hoM hbM hgM hnM))
 obtain ⟨X,hX⟩ : ∃ l:List Int,l=([] ++ L) ++ [128]:=⟨_,rfl⟩
 rw [← hX] at HOA
 have lX:X.length=L.length+1:=by rw [hX];simp
 obtain ⟨c,hc⟩ : ∃ c:Nat,c=(119 - L.length % 64) % 64:=⟨_,rfl⟩
 have HX:=ζa hX
 have LX:=ζa lX
 have HC:=ζa hc
 clear hX lX hc
 go_loopg [4] c (fun kq v4 w' => ∃ m:Nat,Aside0 (m+kq=c)∧Aside0 (Kd.R (Kd.int .u8) 5 w' w.heap.size (fun _=>True) v4 (X ++ List.replicate m 0))∧Aside0 (w'.heap[gh]? = some (.cells ((spec_l01Hash.h0.map (Value.int .u32)).toArray) 113 (0,0)))∧Aside0 (Below w.heap.size w w'))
 case atStart=>exact ⟨0,⟨by omega⟩,⟨by rw [List.replicate_zero,List.append_nil];exact HOA.out⟩,Bgh,HB⟩
 case round =>
  clear HOA Bgh HB
  obtain ⟨m,HI,HOA,Bgh,HB⟩:=hrel
  obtain ⟨Y,hY⟩ : ∃ l:List Int,l=X ++ List.replicate m 0:=⟨_,rfl⟩
  rw [← hY] at HOA
  have lY:Y.length=L.length+1+m:=by rw [hY,List.length_append,List.length_replicate,LX.out]
  obtain ⟨Av,cv,ev⟩:=Kd.R_slice HOA.out
  subst ev
  obtain ⟨n,hn⟩ : ∃ n:Nat,n=Y.length:=⟨_,rfl⟩
  have HY:=ζa hY
  have LY:=ζa lY
  have HNN:=ζa hn
  cases gk with
  | succ k1 =>
   have hne:(n:Int) % 64≠56:=by have:=HI.out;have:=HC.out;rw [hn,lY];omega
   rw [← hn]
   rw [← hn] at HOA
   have LB:=ζa (show Y.length≤2000000 by have:=HN.out;have:=HI.out;have:=HC.out;omega)
   clear hY lY hn
   have c1:decide ((n:Int) % 64=56)=φ:=decide_eq_false hne
   have c2:((n:Int) % 64 != 56)=τ:=bne_iff_ne.mpr hne
   have c3:((n:Int) % 64 == 56)=φ:=beq_eq_false_iff_ne.mpr hne
   have c4:((n:Int) % 64=56)=False:=eq_false hne
   go_wp2_with (first
    | ((with_reducible refine δx (N:=21) rfl ?_);refine lit_event1 ?hg (n:=1) (N:=21) ?hd (cs:=#[.int .u8 0]) (t:=5) ?hr ?_;(case hd=>rfl);(case hg=>rfl);(case hr=>first|(go_simp;done)|(go_simp;rfl));intro g2 hgl w2 hbox hb;have Gg2:=ζa ((by rw [hgl];exact δs (show Below w.heap.size w _ from by repeat (first|exact HB.out|apply δk|apply δi|apply δj))):w.heap.size≤g2);have n0_:=ζa (blk_below Bgh.out hb);have n1_:=ζa (ζh HOA.out hb);have n2_:=ζa (δr (by repeat (first|exact HB.out|apply δk|apply δi|apply δj)) hb);clear Bgh HOA HB;have Bgh:=n0_;have HOA:=n1_;have HB:=n2_;clear n0_ n1_ n2_;have Bg2:=ζa hbox;clear hb hbox hgl)
    | ((with_reducible refine δx (N:=22) rfl ?_);refine Kd.R_append_rows (w0:=w) (Rr:=(Kd.int .u8).K w2) (Kd.int .u8) w.heap.size ?hg (.tmp 20) (.tmp 21) 22 5 (.int .u8 0) 1 rfl Try.underlying22 info5 rfl (by decide) (by decide) (.slice Av n cv) Y [0] (some ⟨g2,0,none⟩) 1 1 (fun _=>True) (fun _=>False) rfl rfl HOA.out (C_one8 Bg2.out) (fun x cs h=>h) (fun _ h=>h.elim) (fun _ _=>trivial) HB.out HB.out.size (by have:=LB.out;omega) ?_;(case hg=>rfl);intro vB wB hoM hbM hgM hnM;have n0_:=ζa (blk_grown Bgh.out hgM (ζf HOA.out Bgh.out (by decide)));have n1_:=ζa (hbM);clear Bgh HB;have Bgh:=n0_;have HB:=n1_;clear n0_ n1_;clear HOA;have HOA:=ζa hoM;clear hoM hbM hgM hnM))
   go_roundg k1
   case measure=>omega
   case rel =>
    refine ⟨m+1,⟨by have:=HI.out;omega⟩,⟨?_⟩,Bgh,HB⟩
    have e:X ++ List.replicate (m+1) 0=Y ++ [0]:=by rw [HY.out,List.replicate_succ',List.append_assoc]
    rw [e]
    exact HOA.out
  | zero =>
   have hne:(n:Int) % 64=56:=by have:=HI.out;have:=HC.out;rw [hn,lY];omega
   rw [← hn]
   rw [← hn] at HOA
   have LB:=ζa (show Y.length≤2000000 by have:=HN.out;have:=HI.out;have:=HC.out;omega)
   clear hY lY hn
   have c1:decide ((n:Int) % 64=56)=τ:=decide_eq_true hne
   have c2:((n:Int) % 64 != 56)=φ:=by rw [hne];rfl
   have c3:((n:Int) % 64 == 56)=τ:=by rw [hne];rfl
   have c4:((n:Int) % 64=56)=True:=eq_true hne
   have hmc:m=c:=HI.out
   subst hmc
   clear hne HI
   go_wp2
   go_loopg [4,5] 8 (fun kq v4 v5 w' => ∃ j:Nat,v5 = .int .i64 (7 - (j:Int))∧Aside0 (j+kq=8)∧Aside0 (Kd.R (Kd.int .u8) 5 w' w.heap.size (fun _=>True) v4 (Y ++ spec_l01Hash.lb L.length j))∧Aside0 (w'.heap[gh]? = some (.cells ((spec_l01Hash.h0.map (Value.int .u32)).toArray) 113 (0,0)))∧Aside0 (Below w.heap.size w w'))
   case atStart=>exact ⟨0,rfl,⟨rfl⟩,⟨by rw [show spec_l01Hash.lb L.length 0 = [] from rfl,List.append_nil];exact HOA.out⟩,Bgh,HB⟩
   case round =>
    clear HOA Bgh HB c1 c2 c3 c4
    obtain ⟨j,rfl,HI,HOA,Bgh,HB⟩:=hrel
    cases gk with
    | succ k1 =>
     have hj:j<8:=by have:=HI.out;omega
     have y0:(0≤7 - (j:Int))=True:=eq_true (by omega)
     obtain ⟨i,hi⟩ : ∃ i:Nat,(i:Int)=7 - (j:Int):=⟨7 - j,by omega⟩
     rw [← hi]
     have HIJ:=ζa hi
     have HJ8:=ζa hj
     clear hi hj y0
     have i8:(i:Int)<8:=by have:=HIJ.out;have:=HJ8.out;omega
     obtain ⟨s8,hs8⟩ : ∃ x:Nat,x=8 * i:=⟨_,rfl⟩
     have e8:ζm (8 * (i:Int))=(s8:Int):=by rw [IntWalk.wrap64_in _ ⟨by omega,by omega⟩];omega
     have e9:IntKind.u64.wrap (s8:Int)=(s8:Int):=by show (s8:Int) % 18446744073709551616=_;omega
     have e10:ζm (8 * (L.length:Int))=8 * (L.length:Int):=IntWalk.wrap64_in _ ⟨by omega,by have:=HN.out;omega⟩
     have e11:(0≤(s8:Int))=True:=eq_true (by omega)
     have e12:(s8≤64)=True:=eq_true (by omega)
     have HS8:=ζa hs8
     clear hs8 i8
     go_upto_region 8 with (fail)
     go_wp2_with (first
      | ((with_reducible refine δx (N:=36) rfl ?_);refine lit_event1 ?hg (n:=1) (N:=36) ?hd (cs:=#[.int .u8 (8 * (L.length:Int) / 2 ^ s8 % 256)]) (t:=5) ?hr ?_;(case hd=>rfl);(case hg=>rfl);(case hr=>first|(go_simp;done)|(go_simp;rfl));intro g3 hgl w3 hbox hb;have Gg3:=ζa ((by rw [hgl];exact δs (show Below w.heap.size w _ from by repeat (first|exact HB.out|apply δk|apply δi|apply δj))):w.heap.size≤g3);have n0_:=ζa (blk_below Bgh.out hb);have n1_:=ζa (ζh HOA.out hb);have n2_:=ζa (δr (by repeat (first|exact HB.out|apply δk|apply δi|apply δj)) hb);clear Bgh HOA HB;have Bgh:=n0_;have HOA:=n1_;have HB:=n2_;clear n0_ n1_ n2_;have Bg3:=ζa hbox;clear hb hbox hgl)
      | ((with_reducible refine δx (N:=37) rfl ?_);refine Kd.R_append_rows (w0:=w) (Rr:=(Kd.int .u8).K w3) (Kd.int .u8) w.heap.size ?hg (.tmp 27) (.tmp 36) 22 5 (.int .u8 0) 1 rfl Try.underlying22 info5 rfl (by decide) (by decide) u4 (Y ++ spec_l01Hash.lb L.length j) [8 * (L.length:Int) / 2 ^ s8 % 256] (some ⟨g3,0,none⟩) 1 1 (fun _=>True) (fun _=>False) rfl rfl HOA.out (C_one8 Bg3.out) (fun x cs h=>h) (fun _ h=>h.elim) (fun _ _=>trivial) HB.out HB.out.size (by rw [List.length_append,spec_l01Hash.lb_len];have:=LB.out;have:=HJ8.out;omega) ?_;(case hg=>rfl);intro vC wC hoM hbM hgM hnM;have n0_:=ζa (blk_grown Bgh.out hgM (ζf HOA.out Bgh.out (by decide)));have n1_:=ζa (hbM);clear Bgh HB;have Bgh:=n0_;have HB:=n1_;clear n0_ n1_;clear HOA;have HOA:=ζa hoM;clear hoM hbM hgM hnM))
     go_roundg k1
     case measure=>omega
     case rel =>
      refine ⟨j+1,?_,⟨by have:=HI.out;omega⟩,⟨?_⟩,Bgh,HB⟩
      ·
       have e:ζm ((i:Int) - 1)=7 - ((j+1:Nat):Int):=by rw [IntWalk.wrap64_in _ ⟨by omega,by have:=HIJ.out;omega⟩];have:=HIJ.out;omega
       first
        | exact congrArg (Value.int .i64) e
        | (congr 1;have:=HIJ.out;omega)
      ·
       have e:Y ++ spec_l01Hash.lb L.length (j+1)=(Y ++ spec_l01Hash.lb L.length j) ++ [8 * (L.length:Int) / 2 ^ s8 % 256]:=by
        rw [HS8.out,show i=7 - j by have:=HIJ.out;omega,List.append_assoc]
        rfl
       rw [e]
       exact HOA.out
    | zero =>
     have hj:j=8:=HI.out
     subst hj
     clear HI
     obtain ⟨ALL,hALL⟩ : ∃ l:List Int,l=Y ++ spec_l01Hash.lb L.length 8:=⟨_,rfl⟩
     rw [← hALL] at HOA
     have lALL:ALL.length=L.length+1+m+8:=by rw [hALL,List.length_append,spec_l01Hash.lb_len,LY.out]
     obtain ⟨nb,hnb⟩ : ∃ q:Nat,ALL.length=64 * q:=⟨ALL.length / 64,by rw [lALL];have:=HC.out;omega⟩
     have HALL:=ζa hALL
     have LALL:=ζa lALL
     have HNB:=ζa hnb
     clear hALL lALL hnb
     obtain ⟨KK,hKK⟩ : ∃ l:List Int,spec_l01Consts.f=some l:=⟨_,rfl⟩
     have lK:KK.length=64:=by have e:=Option.some.inj hKK;rw [← e];rfl
     have HKK:=ζa hKK
     have LK:=ζa lK
     clear hKK lK
     obtain ⟨ga,ca2,eA,hga1,hga2,_⟩:=Kd.R_form HOA.out (by have:=LALL.out;omega)
     subst eA
     have CA:Aside0 (∀ q:Nat,q<ALL.length→wr.cell? ⟨ga,q,none⟩=some (.int .u8 (rd ALL (q:Int)))):=⟨fun q hq=>by
      obtain ⟨ad,e,hc⟩:=Kd.at_int (ζg HOA.out).2.2 (q:Int) (by omega) (by omega)
      injection e with e
      subst e
      rw [Int.toNat_natCast,off_zero] at hc
      exact hc⟩
     have NGA:=ζa (show ga≠gh from fun e=>ζf HOA.out Bgh.out (by decide) (by rw [e];rfl))
     have LGA:=ζa hga2
     have CAP:=ζa (ζg HOA.out).2.1
     clear hga1 hga2
     go_wp2_with (first
      | ((with_reducible refine δx (N:=38) rfl ?_);refine goesL_ (some 38) rfl rfl Try.func89 (by kernel_rfl) rfl #[] rfl (by (try simp only [δd,δe,δf]);first|done|rfl) ?_;(with_reducible refine (spec_l01Consts.calls _ _ HKK.out).mono ?_);rintro e wk ⟨vk,rfl,hok,hb⟩;refine ⟨_,rfl,?_⟩;obtain ⟨gq,ckk,eK,hgk1,hgk2,_⟩:=Kd.R_form hok (by have:=LK.out;omega);subst eK;have NGK:=ζa (show gq≠gh by have:=blk_lt Bgh.out;omega);have CK:Aside0 (∀ q:Nat,q<64→wk.cell? ⟨gq,q,none⟩=some (.int .u32 (rd KK (q:Int)))):=⟨fun q hq=>by (obtain ⟨ad,e,hc⟩:=Kd.at_int (ζg hok).2.2 (q:Int) (by omega) (by have:=LK.out;omega));injection e with e;subst e;rw [Int.toNat_natCast,off_zero] at hc;exact hc⟩;have LGK:=ζa hgk2;have n0_:Aside0 (∀ q:Nat,q<ALL.length→wk.cell? ⟨ga,q,none⟩=some (.int .u8 (rd ALL (q:Int)))):=⟨fun q hq=>(hb.cell (World.block_lt_of_cell? _ _ (CA.out q hq))).trans (CA.out q hq)⟩;have n1_:=ζa (blk_below Bgh.out hb);have n2_:=ζa (δr HB.out hb);have n3_:=ζa (Nat.lt_of_lt_of_le LGA.out hb.size);clear CA Bgh HB LGA HOA;have CA:=n0_;have Bgh:=n1_;have HB:=n2_;have LGA:=n3_;clear n0_ n1_ n2_ n3_ hok hb))
     have lK:=LK.out
     rw [lK]
     clear lK
     go_wp2
     go_loopg [7] nb (fun kq v7 w' => ∃ i:Nat,v7 = .int .i64 ((64 * i:Nat):Int)∧Aside0 (i+kq=nb)∧Aside0 (w'.heap[gh]? = some (.cells (((spec_l01Hash.st KK spec_l01Hash.h0 ALL i).map (Value.int .u32)).toArray) 113 (0,0)))∧Aside0 (∀ q:Nat,q<ALL.length→w'.cell? ⟨ga,q,none⟩=some (.int .u8 (rd ALL (q:Int))))∧Aside0 (∀ q:Nat,q<64→w'.cell? ⟨gq,q,none⟩=some (.int .u32 (rd KK (q:Int))))∧Aside0 (ga<w'.heap.size)∧Aside0 (gq<w'.heap.size)∧Aside0 (Below w.heap.size w w'))
     case atStart=>exact ⟨0,rfl,⟨by omega⟩,Bgh,CA,CK,LGA,LGK,HB⟩
     case round =>
      clear Bgh CA CK LGA LGK HB
      obtain ⟨i,rfl,HI,Bgh,CA,CK,LGA,LGK,HB⟩:=hrel
      cases gk with
      | succ k1 =>
       have hi:=HI.out
       have hlt:64 * i<ALL.length:=by rw [HNB.out];omega
       have hsm:ALL.length≤3000000:=by rw [LALL.out];have:=HN.out;have:=HC.out;omega
       obtain ⟨a0,ha0⟩ : ∃ q:Nat,q=64 * i:=⟨_,rfl⟩
       rw [← ha0]
       rw [← ha0] at hlt
       have hle:a0+64≤ALL.length:=by rw [HNB.out,ha0];omega
       have x1:((a0:Int)<(ALL.length:Int))=True:=eq_true (by omega)
       have x2:(a0<ALL.length)=True:=eq_true hlt
       have c1:decide ((a0:Int)<(ALL.length:Int))=τ:=decide_eq_true (by omega)
       have inc:ζm ((a0:Int)+64)=(a0:Int)+64:=IntWalk.wrap64_in _ ⟨by omega,by omega⟩
       have L8:=ζa (spec_l01Hash.st_len KK spec_l01Hash.h0 ALL spec_l01Hash.h0_len i)
       have hcap:=CAP.out
       have y1:(a0+64≤ca2)=True:=eq_true (by omega)
       have y2:((a0:Int)+64≤(ca2:Int))=True:=eq_true (by omega)
       have y3:(ca2=a0)=False:=eq_false (by omega)
       have HBC:Aside0 (∀ q:Nat,q<64→wr.cell? ((⟨ga,a0,none⟩:Addr).add q)=some (.int .u8 (rd ((ALL.drop a0).take 64) (q:Int)))):=⟨fun q hq=>by rw [off_add,rd_sub hq];exact CA.out (a0+q) (by omega)⟩
       have HKC:Aside0 (∀ q:Nat,q<64→wr.cell? ((⟨gq,0,none⟩:Addr).add q)=some (.int .u32 (rd KK (q:Int)))):=⟨fun q hq=>by rw [off_zero];exact CK.out q hq⟩
       have HA0:=ζa ha0
       have HLE:=ζa hle
       clear hi hlt hsm ha0 hle hcap
       go_upto_region 13 with (fail)
       go_wp2_with (first
        | (go_at_call 90;refine (spec_l01Block.run gh (ca2 - a0) ckk ⟨ga,a0,none⟩ ⟨gq,0,none⟩ (spec_l01Hash.st KK spec_l01Hash.h0 ALL i) ((ALL.drop a0).take 64) KK w wr Bgh.out L8.out HBC.out HKC.out HB.out Ggh.out).mono ?_;rintro e wl ⟨rfl,hH',hB',hFR,hSZ⟩;have n0_:=ζa hH';have n1_:=ζa hB';have n2_:Aside0 (∀ q:Nat,q<ALL.length→wl.cell? ⟨ga,q,none⟩=some (.int .u8 (rd ALL (q:Int)))):=⟨fun q hq=>(cell_same (hFR ga LGA.out NGA.out)).trans (CA.out q hq)⟩;have n3_:Aside0 (∀ q:Nat,q<64→wl.cell? ⟨gq,q,none⟩=some (.int .u32 (rd KK (q:Int)))):=⟨fun q hq=>(cell_same (hFR gq LGK.out NGK.out)).trans (CK.out q hq)⟩;have n4_:=ζa (Nat.lt_of_lt_of_le LGA.out hSZ);have n5_:=ζa (Nat.lt_of_lt_of_le LGK.out hSZ);clear HBC HKC;clear Bgh HB CA CK LGA LGK;have Bgh:=n0_;have HB:=n1_;have CA:=n2_;have CK:=n3_;have LGA:=n4_;have LGK:=n5_;clear n0_ n1_ n2_ n3_ n4_ n5_ hH' hB' hFR hSZ))
       go_roundg k1
       case measure=>omega
       case rel =>
        refine ⟨i+1,?_,⟨by have:=HI.out;omega⟩,⟨?_⟩,CA,CK,LGA,LGK,HB⟩
        ·
         first
          | (congr 1;have:=HA0.out;omega)
          | (rw [inc];congr 1;have:=HA0.out;omega)
        ·
         have e:spec_l01Hash.st KK spec_l01Hash.h0 ALL (i+1)=spec_l01Block.v (spec_l01Hash.st KK spec_l01Hash.h0 ALL i) ((ALL.drop a0).take 64) KK:=by rw [HA0.out];rfl
         rw [e]
         exact Bgh.out
      | zero =>
       have hi:i=nb:=HI.out
       subst hi
       clear HI
       obtain ⟨ST,hST⟩ : ∃ l:List Int,l=spec_l01Hash.st KK spec_l01Hash.h0 ALL i:=⟨_,rfl⟩
       rw [← hST] at Bgh
       have L8:=ζa (show ST.length=8 by rw [hST];exact spec_l01Hash.st_len KK spec_l01Hash.h0 ALL spec_l01Hash.h0_len i)
       have HST:=ζa hST
       have hx:(64 * i:Nat)=ALL.length:=HNB.out.symm
       rw [hx]
       clear hST hx CA CK LGA LGK
       go_wp2_with (first
        | ((with_reducible refine δx (N:=53) rfl ?_);refine Kd.R_lit (Kd.int .u8) w.heap.size 5 ?hg (N:=53) ?hd (w0:=w) (xs:=([]:List Int)) (inner:=[]) (ok:=fun _=>True) (okp:=fun _=>True) ?hr ?hp (fun _ hk=>hk) trivial HB.out HB.out.size (by simp) ?_;(case hd=>rfl);(case hg=>rfl);(case hr=>first|(go_simp;done)|(go_simp;rfl));(case hp=>exact (Reps.none _ _));intro vO wO hoL hbL hgL hnL;have n0_:=ζa (blk_grown Bgh.out hgL (by simp));clear Bgh HB;have Bgh:=n0_;have HB:=ζa hbL;have HOO:=ζa hoL;clear n0_ hoL hbL hgL hnL))
       go_loopg [8,9] 8 (fun kq v8 v9 w' => ∃ j:Nat,v9 = .int .i64 (j:Int)∧Aside0 (j+kq=8)∧Aside0 (Kd.R (Kd.int .u8) 5 w' w.heap.size (fun _=>True) v8 (spec_l01Hash.ol ST j))∧Aside0 (w'.heap[gh]? = some (.cells ((ST.map (Value.int .u32)).toArray) 113 (0,0)))∧Aside0 (Below w.heap.size w w'))
       case atStart=>exact ⟨0,rfl,⟨rfl⟩,HOO,Bgh,HB⟩
       case round =>
        clear HOO Bgh HB
        obtain ⟨j,rfl,HI,HOO,Bgh,HB⟩:=hrel
        cases gk with
        | succ k1 =>
         have hi:=HI.out
         have hi8:(j:Int)<8:=by omega
         have c8:decide ((j:Int)<8)=τ:=decide_eq_true hi8
         have x8:((j:Int)<8)=True:=eq_true hi8
         have z0:(0≤(j:Int))=True:=eq_true (by omega)
         have INC:=ζa (show ζm ((j:Int)+1)=((j+1:Nat):Int) by rw [IntWalk.wrap64_in _ ⟨by omega,by omega⟩];rfl)
         have H8:=ζa hi8
         clear hi hi8
         go_upto_region 18 with (fail)
         try go_wp2
         have n0_:=ζa (δp Bgh.out)
         have n1_:=ζa (ζe HOO.out)
         have n2_:=ζa (δj HB.out)
         clear Bgh HOO HB
         have Bgh:=n0_
         have HOO:=n1_
         have HB:=n2_
         clear n0_ n1_ n2_
         refine sta 27 (fun w'=>w'.cell? ⟨gh,j,none⟩=some (.int .u32 (rd ST (j:Int)))) [] spec_l01Hash.tab18 spec_l01Hash.bits18 ((δl Bgh.out j).trans (arr_get (by have:=L8.out;have:=H8.out;omega))) (fun hHeld HT_ HW_ => ?_)
         generalize wr.drew=wd_ at Bgh HOO HB hHeld ⊢
         refine pu 0 58 ?_
         refine pu 1 59 ?_
         refine pu 2 60 ?_
         refine pu 3 61 ?_
         refine ta 4 62 ?_
         refine pu 5 63 ?_
         refine pu 6 64 ?_
         refine pu 7 65 ?_
         refine pu 8 66 ?_
         refine pu 9 67 ?_
         refine ta 10 68 ?_
         refine pu 11 69 ?_
         refine pu 12 70 ?_
         refine pu 13 71 ?_
         refine pu 14 72 ?_
         refine pu 15 73 ?_
         refine ta 16 74 ?_
         refine pu 17 75 ?_
         refine pu 18 76 ?_
         refine pu 19 77 ?_
         refine pu 20 78 ?_
         refine pu 21 79 ?_
         refine ta 22 80 ?_
         refine pu 23 81 ?_
         refine on 24 82 (fun K hK => ?_)
         refine lit_step ?hg (n:=4) (N:=82) ?hd (cs:=#[.int .u8 (IntKind.u8.wrap (rd ST (j:Int) / 16777216)),.int .u8 (IntKind.u8.wrap (rd ST (j:Int) / 65536)),.int .u8 (IntKind.u8.wrap (rd ST (j:Int) / 256)),.int .u8 (IntKind.u8.wrap (rd ST (j:Int)))]) (t:=5) ?hr ?_
         (case hd=>rfl)
         (case hg=>rfl)
         (case hr=>(go_simp;done))
         intro g4 hgl w4 hbox hb
         have n0_:=ζa (blk_below Bgh.out hb)
         have n1_:=ζa (ζh HOO.out hb)
         have n2_:=ζa (δr (by repeat (exact HB.out)) hb)
         clear Bgh HOO HB
         have Bgh:=n0_
         have HOO:=n1_
         have HB:=n2_
         clear n0_ n1_ n2_
         have Bg4:=ζa hbox
         clear hb hbox hgl
         refine hK.out _ _ ((δl Bgh.out j).trans (arr_get (by have:=L8.out;have:=H8.out;omega))) (fun hHeld => ?_)
         clear hK K
         refine nm 82 ?_
         refine on 25 83 (fun K hK => ?_)
         refine Kd.R_append_rows_step (Kd.int .u8) (w0:=w) (Rr:=(Kd.int .u8).K w4) w.heap.size (by rfl) (.tmp 58) (.tmp 82) 22 5 (.int .u8 0) 1 rfl Try.underlying22 info5 rfl (by decide) (by decide) u8 (spec_l01Hash.ol ST j) [IntKind.u8.wrap (rd ST (j:Int) / 16777216),IntKind.u8.wrap (rd ST (j:Int) / 65536),IntKind.u8.wrap (rd ST (j:Int) / 256),IntKind.u8.wrap (rd ST (j:Int))] (some ⟨g4,0,none⟩) 4 4 (fun _=>True) (fun _=>False) rfl rfl HOO.out (C_four8 Bg4.out) (fun x cs h=>h) (fun _ h=>h.elim) (fun _ _=>trivial) HB.out HB.out.size (by rw [spec_l01Hash.ol_len];have:=H8.out;omega) ?_
         intro vD wD hoM hbM hgM hnM
         have n0_:=ζa (blk_grown Bgh.out hgM (ζf HOO.out Bgh.out (by decide)))
         have n1_:=ζa (hbM)
         clear Bgh HB
         have Bgh:=n0_
         have HB:=n1_
         clear n0_ n1_
         clear HOO
         have HOO:=ζa hoM
         clear hoM hbM hgM hnM
         refine hK.out _ _ ((δl Bgh.out j).trans (arr_get (by have:=L8.out;have:=H8.out;omega))) (fun hHeld => ?_)
         clear hK K
         refine nm 83 ?_
         refine pu 26 8 ?_
         refine done_ (done_of HT_.out (by kernel_rfl)) ?_
         go_wp2
         go_roundg k1
         case measure=>omega
         case rel=>exact ⟨j+1,by first|rfl|rw [INC.out],⟨by have:=HI.out;omega⟩,HOO,Bgh,HB⟩
        | zero =>
         have hj:j=8:=HI.out
         subst hj
         have hcv:=own_string (P:=Try.prog) Try.underlying22 Try.underlying5 Try.underlying9 (Kd.own_of_R HOO.out)
         go_wp2
         go_ret
         refine ⟨?_,HB.out⟩
         have e:spec_l01Hash.v L=strOfNums (spec_l01Hash.ol ST 8):=by
          have eK:=HKK.out
          have eA:=HALL.out
          have eY:=HY.out
          have eX:=HX.out
          have eC:=HC.out
          have eN:=HNB.out
          have eP:spec_l01Hash.pad L=ALL:=by rw [eA,eY,eX];unfold spec_l01Hash.pad;rw [← eC]
          unfold spec_l01Hash.v
          rw [eP,eN,Nat.mul_div_cancel_left _ (by decide:0<64),eK,HST.out]
          rfl
         rw [e]
         rfl
def spec_l01Hash.f (l0:List Int):Option ByteArray:=if l0.length≤1000000 then some (spec_l01Hash.v l0) else none
theorem spec_l01Hash.calls (A0:Option Addr) (c0:Nat) (l0:List Int) (r:ByteArray) (w:World) (hr0:Kd.C (Kd.int .u8) w A0 l0.length l0) (hc0:l0.length≤c0) (h:spec_l01Hash.f l0=some r) :
  Calls Try.prog 66 #[.slice A0 l0.length c0] w fun e w'=>e = .returned (.string r)∧Below w.heap.size w w':=by
 unfold spec_l01Hash.f at h
 split at h
 ·
  rename_i hc
  cases h
  exact spec_l01Hash.run A0 c0 l0 w hr0 hc0 hc
 · cases h


open Go.Proofs.YtggemblkhckbpaaW.PrintWords renaming below_step → δr, below_alloc → δk
set_option maxHeartbeats 8000000
set_option maxRecDepth 100000


/-! ### spec_l06First: function 59 -/
theorem C_bytes {w:World} {g:Nat} {t:Nat} {fr:Nat × Nat} (xs:List Int) (hl:xs.length≤1000) (h:w.heap[g]? = some (.cells (nums .u8 xs).toArray t fr)):Kd.C (Kd.int .u8) w (some ⟨g,0,none⟩) xs.length xs:=by
 refine ⟨rfl,by omega,fun _=>⟨_,rfl,fun j p hj=>⟨[.int .u8 p],rfl,rfl,fun i v hi => ?_⟩⟩⟩
 obtain ⟨rfl,rfl⟩:i=0∧v = .int .u8 p:=by
  cases i with
  | zero=>exact ⟨rfl,by simpa using hi.symm⟩
  | succ n=>simp at hi
 have hg:w.cell? ⟨g,j,none⟩=(nums .u8 xs).toArray[j]?:=by simp [World.cell?,h]
 show w.cell? ((⟨g,0,none⟩:Addr).add (j * 1+0))=_
 rw [show j * 1+0=j by omega,add_plain,hg]
 simp [nums,hj]
def spec_l06First.f:Option ByteArray:=spec_l01Hash.f [102,105,114,115,116]
theorem spec_l06First.calls (r:ByteArray) (w:World) (h:spec_l06First.f=some r) :
  Calls Try.prog 59 #[] w fun e w'=>e = .returned (.string r)∧Below w.heap.size w w':=by
 unfold spec_l06First.f at h
 have H:=ζa h
 clear h
 have kc:=fun (w:World) (C:Array Value) (n c:Nat)=>Lib.run_convert_bytes_const (P:=Try.prog) w 22 5 C n c Try.underlying22 Try.underlying5
 go_enter Try.func59,Try.ntmps59
 go_wp2_with fail
 refine (spec_l01Hash.calls (some ⟨w.heap.size,0,none⟩) 5 [102,105,114,115,116] r _ (C_bytes [102,105,114,115,116] (by simp) (heap_alloc_new w _)) (by simp) H.out).mono ?_
 rintro e w' ⟨rfl,hb⟩
 go_wp2
 go_ret
 exact ⟨rfl,δr (δk (Below.refl _ _) _) hb⟩


open Go.Proofs.YtggemblkhckbpaaW.PrintWords renaming gate_dst → δx, below_step → δr, blk_drew → δp, below_drew1 → δj, blk_cell → δl, blk_frozen → δm, blk_put → δw, below_set → δq, pw_below_drewN → δi, blk_drewN → δn
open Go.Proofs.YtggemblkhckbpaaW.PrintLast renaming pure_ → ζk, any_of → ζj
set_option maxHeartbeats 8000000
set_option maxRecDepth 100000

/-! ### spec_ClientOK: function 44 -/
mutual
def spec_ClientOK.j0:Nat→Bool→ByteArray→List (S39)→Option (Bool)
 | 0,_,_,_=>none
 | k+1,x26,x156000,x156001=>if x26=τ then (some φ) else (spec_ClientOK.l0 k 0 x156000 x156001)
def spec_ClientOK.l0:Nat→Int→ByteArray→List (S39)→Option (Bool)
 | 0,_,_,_=>none
 | k+1,x3,x156000,x156001=>if x3<(x156001.length:Int) then (if 0≤x3 then ((spec_l01In.f ((rd_T39 x156001 x3).f0) 0 1000000000).bind fun t159=>(if t159=τ then (if (((rd_T39 x156001 x3).f1).size:Int)=32 then (if x3 > 0 then (if 0≤(ζm (x3 - 1)) then (if (ζm (x3 - 1))<(x156001.length:Int) then (if ((rd_T39 x156001 (ζm (x3 - 1))).f0) > ((rd_T39 x156001 x3).f0) then (some φ) else (spec_ClientOK.l0 k (ζm (x3+1)) x156000 x156001)) else (none)) else (none)) else (spec_ClientOK.l0 k (ζm (x3+1)) x156000 x156001)) else (some φ)) else (some φ))) else (none)) else (some τ)
end
def spec_ClientOK.f (k:Nat) (a0_0:ByteArray) (l0_1:List (S39)):Option (Bool):=if (a0_0.size:Int)=32 then (if (l0_1.length:Int) > 60 then (spec_ClientOK.j0 k τ a0_0 l0_1) else (if (l0_1.length:Int)=0 then ((spec_l06First.f).bind fun t156=>(spec_ClientOK.j0 k (a0_0.toList != t156.toList) a0_0 l0_1)) else (spec_ClientOK.j0 k φ a0_0 l0_1))) else (spec_ClientOK.j0 k τ a0_0 l0_1)
def spec_ClientOK.T1:Bool × List (List Nat × List Nat):=(τ,[([],[]),([0],[0]),([1],[1]),([2],[2]),([3],[3]),([4],[4]),([5,4],[4,5]),([6,4],[4,6]),([7,4],[4,7]),([4,8],[4,8]),([9,4],[9]),([10],[10]),([11,10],[10,11]),([12,10],[10,12]),([13,10],[10,13]),([14,10,10],[10,14]),([15],[15]),([16,15],[15,16]),([15,15],[15]),([17,18,15],[15,17,18]),([15,19,10],[10,15,19]),([10,20],[10,20])])
def spec_ClientOK.B1:List Nat:=[0,1,3,7,15,31,63,127,255,511,1023,2047,4095,8191,16383,32767,65535,131071,65535,524287,1048575,2097151]
theorem spec_ClientOK.tab1:rtab .any (opsOf Try.f44 1)=spec_ClientOK.T1:=by kernel_rfl
theorem spec_ClientOK.bits1:waitsOk spec_ClientOK.T1.2 spec_ClientOK.B1=τ:=by kernel_rfl
def spec_ClientOK.T7:Bool × List (List Nat × List Nat):=(τ,[([],[]),([0],[0]),([1],[1]),([2],[2]),([3,2],[3]),([4],[4]),([5,4],[4,5]),([6,4],[4,6]),([7,4],[4,7]),([4,8],[4,8]),([9,4],[9]),([10],[10]),([11,10],[10,11]),([12,10,10],[10,12]),([13],[13]),([14,13],[13,14]),([13],[13]),([16,13],[13,16]),([15,17,13],[13,15,17]),([18,13],[13,18]),([19,13],[13,19]),([13],[13]),([21,13],[13,21]),([20,22,13],[13,20,22]),([13,23,10],[10,13,23]),([10,24],[10,24])])
def spec_ClientOK.B7:List Nat:=[0,1,3,7,15,31,63,127,255,511,1023,2047,4095,8191,16383,32767,16383,81919,262143,524287,1048575,16383,2113535,8388607,16777215,33554431]
theorem spec_ClientOK.tab7:rtab .any (opsOf Try.f44 7)=spec_ClientOK.T7:=by kernel_rfl
theorem spec_ClientOK.bits7:waitsOk spec_ClientOK.T7.2 spec_ClientOK.B7=τ:=by kernel_rfl
theorem spec_ClientOK.calls (k:Nat) (a0_0:ByteArray) (A0_1:Option Addr) (c0_1:Nat) (l0_1:List (S39)) (r:Bool) (w:World) (hr0_1:Kd.C k39 w A0_1 l0_1.length l0_1) (hc0_1:l0_1.length≤c0_1) (h:spec_ClientOK.f k a0_0 l0_1=some r) :
  Calls Try.prog 44 #[.agg #[.string a0_0,.slice A0_1 l0_1.length c0_1]] w fun e w'=>e = .returned (.bool r)∧Below w.heap.size w w':=by
 have hu25:=Try.underlying25
 have hu39:=Try.underlying39
 have HR0_1:=ζa hr0_1
 have HC0_1:=ζa hc0_1
 clear hr0_1 hc0_1
 have HB:=ζa (Below.refl w.heap.size w)
 have H:(if (a0_0.size:Int)=32 then (if (l0_1.length:Int) > 60 then (spec_ClientOK.j0 k τ a0_0 l0_1) else (if (l0_1.length:Int)=0 then ((spec_l06First.f).bind fun t156=>(spec_ClientOK.j0 k (a0_0.toList != t156.toList) a0_0 l0_1)) else (spec_ClientOK.j0 k φ a0_0 l0_1))) else (spec_ClientOK.j0 k τ a0_0 l0_1))=some r:=h
 clear h
 have HC2:=ζa H
 clear H
 go_enter Try.func44,Try.ntmps44
 go_upto_region 1 with (((with_reducible refine δx (N:=1) rfl ?_);(try (refine gate_guard (by rfl) ?_;dsimp only));refine bev 1 #[.string a0_0,.slice A0_1 l0_1.length c0_1] 25 ?_;intro gb155 hg w3 hbox hb;have BK155:=ζa (hbox);have GW155:=ζa (gbw hg (by exact HB.out));have GE155:=ζa (gbw hg (by exact HB.out));replace HB:=ζa (δr (by exact HB.out) hb);clear hb hbox hg))
 (try simp only [ζl,δa,δb,δc])
 go_cut [26] (fun v26 wc => ∃ (kq:Nat) (x26_1:Bool),v26 = .bool x26_1∧Aside0 (spec_ClientOK.j0 kq x26_1 a0_0 l0_1=some r)∧Aside0 (kq≤k)∧Aside0 (wc.heap[gb155]? = some (.cells #[.string a0_0,(.slice A0_1 l0_1.length c0_1)] 25 (0,0)))∧Aside0 (Below w.heap.size w wc))
 case first =>
  have H:=HC2.out
  clear HC2
  by_cases c4:(a0_0.size:Int)=32
  ·
   rw [if_pos c4] at H
   have c4b0:=beq_iff_eq.mpr c4
   have c4b1:=bne_eq_false_iff_eq.mpr c4
   clear c4
   by_cases c5:(l0_1.length:Int) > 60
   ·
    rw [if_pos c5] at H
    have c5b0:decide (60<(l0_1.length:Int))=τ:=decide_eq_true c5
    have c5b1:decide (60<l0_1.length)=τ:=decide_eq_true (by omega)
    clear c5
    have H':=ζa H
    clear H
    try go_wp2
    replace BK155:=ζa (δp BK155.out)
    replace HB:=ζa (δj HB.out)
    refine sta 22 (fun w'=>w'.cell? ⟨gb155,0,none⟩=some (.string a0_0)∧w'.cell? ⟨gb155,1,none⟩=some (.slice A0_1 l0_1.length c0_1)) [] spec_ClientOK.tab1 spec_ClientOK.bits1 ⟨(δl BK155.out 0).trans rfl,(δl BK155.out 1).trans rfl⟩ (fun hHeld HT_ HW_ => ?_)
    generalize w3.drew=w6 at BK155 HB hHeld ⊢
    refine pu 0 5 ?_
    refine ta 1 6 ?_
    refine pu 2 7 ?_
    refine pu 3 8 ?_
    refine pu 4 9 ?_
    refine pu 5 10 ?_
    refine ta 6 11 ?_
    refine pu 7 12 ?_
    refine pu 8 13 ?_
    refine pu 9 14 ?_
    refine pu 10 15 ?_
    refine ζk (i:=11) (N:=some 16) (v:=undef) (a':=?_) #[τ,τ,τ,τ,τ,τ,τ,τ,τ,τ,τ,τ,φ,φ,φ,φ,φ,φ,φ,φ,φ,φ] rfl rfl (ζj HT_.out (by kernel_rfl)) (fun _ _ _ h=>h) (Or.inr ⟨by rfl,rfl⟩) ?_ ?_
    rotate_left
    · simp only [ζl,δa,δb,δc,i64_w,i32_w];rfl
    refine ζk (i:=12) (N:=some 17) (v:=undef) (a':=?_) #[τ,τ,τ,τ,τ,τ,τ,τ,τ,τ,τ,τ,τ,φ,φ,φ,φ,φ,φ,φ,φ,φ] rfl rfl (ζj HT_.out (by kernel_rfl)) (fun _ _ _ h=>h) (Or.inr ⟨by rfl,rfl⟩) ?_ ?_
    rotate_left
    · simp only [ζl,δa,δb,δc,i64_w,i32_w];rfl
    refine ζk (i:=13) (N:=some 18) (v:=undef) (a':=?_) #[τ,τ,τ,τ,τ,τ,τ,τ,τ,τ,τ,τ,τ,τ,φ,φ,φ,φ,φ,φ,φ,φ] rfl rfl (ζj HT_.out (by kernel_rfl)) (fun _ _ _ h=>h) (Or.inr ⟨by rfl,rfl⟩) ?_ ?_
    rotate_left
    · simp only [ζl,δa,δb,δc,i64_w,i32_w];rfl
    refine ζk (i:=14) (N:=some 19) (v:=undef) (a':=?_) #[τ,τ,τ,τ,τ,τ,τ,τ,τ,τ,τ,τ,τ,τ,τ,φ,φ,φ,φ,φ,φ,φ] rfl rfl (ζj HT_.out (by kernel_rfl)) (fun _ _ _ h=>h) (Or.inr ⟨by rfl,rfl⟩) ?_ ?_
    rotate_left
    · simp only [ζl,δa,δb,δc,i64_w,i32_w];rfl
    refine ζk (i:=15) (N:=some 20) (v:=undef) (a':=?_) #[τ,τ,τ,τ,τ,τ,τ,τ,τ,τ,τ,τ,τ,τ,τ,τ,φ,φ,φ,φ,φ,φ] rfl rfl (ζj HT_.out (by kernel_rfl)) (fun _ _ _ h=>h) (Or.inr ⟨by rfl,rfl⟩) ?_ ?_
    rotate_left
    · simp only [ζl,δa,δb,δc,i64_w,i32_w];rfl
    refine ζk (i:=16) (N:=some 21) (v:=undef) (a':=?_) #[τ,τ,τ,τ,τ,τ,τ,τ,τ,τ,τ,τ,τ,τ,τ,τ,τ,φ,φ,φ,φ,φ] rfl rfl (ζj HT_.out (by kernel_rfl)) (fun _ _ _ h=>h) (Or.inr ⟨by rfl,rfl⟩) ?_ ?_
    rotate_left
    · simp only [ζl,δa,δb,δc,i64_w,i32_w];rfl
    refine ζk (i:=17) (N:=some 22) (v:=undef) (a':=?_) #[τ,τ,τ,τ,τ,τ,τ,τ,τ,τ,τ,τ,τ,τ,τ,τ,τ,τ,φ,φ,φ,φ] rfl rfl (ζj HT_.out (by kernel_rfl)) (fun _ _ _ h=>h) (Or.inr ⟨by rfl,rfl⟩) ?_ ?_
    rotate_left
    · simp only [ζl,δa,δb,δc,i64_w,i32_w];rfl
    refine ζk (i:=18) (N:=some 23) (v:=undef) (a':=?_) #[τ,τ,τ,τ,τ,τ,τ,τ,τ,τ,τ,τ,τ,τ,τ,τ,τ,τ,τ,φ,φ,φ] rfl rfl (ζj HT_.out (by kernel_rfl)) (fun _ _ _ h=>h) (Or.inr ⟨by rfl,rfl⟩) ?_ ?_
    rotate_left
    · simp only [ζl,δa,δb,δc,i64_w,i32_w];rfl
    refine ζk (i:=19) (N:=some 24) (v:=undef) (a':=?_) #[τ,τ,τ,τ,τ,τ,τ,τ,τ,τ,τ,τ,τ,τ,τ,τ,τ,τ,τ,τ,φ,φ] rfl rfl (ζj HT_.out (by kernel_rfl)) (fun _ _ _ h=>h) (Or.inr ⟨by rfl,rfl⟩) ?_ ?_
    rotate_left
    · simp only [ζl,δa,δb,δc,i64_w,i32_w];rfl
    refine ζk (i:=20) (N:=some 25) (v:=undef) (a':=?_) #[τ,τ,τ,τ,τ,τ,τ,τ,τ,τ,τ,τ,τ,τ,τ,τ,τ,τ,τ,τ,τ,φ] rfl rfl (ζj HT_.out (by kernel_rfl)) (fun _ _ _ h=>h) (Or.inr ⟨by rfl,rfl⟩) ?_ ?_
    rotate_left
    · simp only [ζl,δa,δb,δc,i64_w,i32_w];rfl
    refine pu 21 26 ?_
    refine done_ (done_of HT_.out (by kernel_rfl)) ?_
    try go_wp2
    go_meet
    case rel=>exact ⟨_,(τ),(by rfl),H',⟨by omega⟩,⟨by exact BK155.out⟩,⟨by repeat ((with_reducible exact HB.out))⟩⟩
   ·
    rw [if_neg c5] at H
    have c5b0:decide (60<(l0_1.length:Int))=φ:=decide_eq_false c5
    have c5b1:decide (60<l0_1.length)=φ:=decide_eq_false (by omega)
    clear c5
    by_cases c7:(l0_1.length:Int)=0
    ·
     rw [if_pos c7] at H
     have c7b0:=beq_iff_eq.mpr c7
     have c7b1:=bne_eq_false_iff_eq.mpr c7
     clear c7
     obtain ⟨t156,A8,H⟩:=bsm H
     have H':=ζa H
     clear H
     try go_wp2
     replace BK155:=ζa (δp BK155.out)
     replace HB:=ζa (δj HB.out)
     refine sta 22 (fun w'=>w'.cell? ⟨gb155,0,none⟩=some (.string a0_0)∧w'.cell? ⟨gb155,1,none⟩=some (.slice A0_1 l0_1.length c0_1)) [] spec_ClientOK.tab1 spec_ClientOK.bits1 ⟨(δl BK155.out 0).trans rfl,(δl BK155.out 1).trans rfl⟩ (fun hHeld HT_ HW_ => ?_)
     generalize w3.drew=w9 at BK155 HB hHeld ⊢
     refine pu 0 5 ?_
     refine ta 1 6 ?_
     refine pu 2 7 ?_
     refine pu 3 8 ?_
     refine pu 4 9 ?_
     refine pu 5 10 ?_
     refine ta 6 11 ?_
     refine pu 7 12 ?_
     refine pu 8 13 ?_
     refine pu 9 14 ?_
     refine pu 10 15 ?_
     refine pu 11 16 ?_
     refine ta 12 17 ?_
     refine pu 13 18 ?_
     refine pu 14 19 ?_
     refine pu 15 20 ?_
     refine pu 16 21 ?_
     refine ta 17 22 ?_
     refine on 18 23 (fun K hK => ?_)
     refine gs Try.func59 #[] ?_
     with_reducible refine (spec_l06First.calls  t156 _ A8.out).mono ?_
     rintro e w10 ⟨rfl,hb⟩
     refine ⟨_,rfl,?_⟩
     replace BK155:=ζa (blk_below (g:=gb155) (o:=.cells #[.string a0_0,.slice A0_1 l0_1.length c0_1] 25 (0,0)) (by exact BK155.out) hb)
     replace HB:=ζa (δr (by exact HB.out) hb)
     (try clear hb)
     (try clear hb2)
     (try clear hk)
     (try clear hi)
     refine hK.out _ _ ⟨(δl BK155.out 0).trans rfl,(δl BK155.out 1).trans rfl⟩ (fun hHeld => ?_)
     clear hK K
     refine nm 23 ?_
     refine pu 19 24 ?_
     refine pu 20 25 ?_
     refine pu 21 26 ?_
     refine done_ (done_of HT_.out (by kernel_rfl)) ?_
     try go_wp2
     go_meet
     case rel=>exact ⟨_,((a0_0.toList != t156.toList)),(by rfl),H',⟨by omega⟩,⟨by exact BK155.out⟩,⟨by repeat ((with_reducible exact HB.out))⟩⟩
    ·
     rw [if_neg c7] at H
     have c7b0:=beq_eq_false_iff_ne.mpr c7
     have c7b1:=bne_iff_ne.mpr c7
     have c7b2 : ¬ (l0_1 = []):=fun h_=>c7 (by rw [h_];rfl)
     have H':=ζa H
     clear H
     try go_wp2
     replace BK155:=ζa (δp BK155.out)
     replace HB:=ζa (δj HB.out)
     refine sta 22 (fun w'=>w'.cell? ⟨gb155,0,none⟩=some (.string a0_0)∧w'.cell? ⟨gb155,1,none⟩=some (.slice A0_1 l0_1.length c0_1)) [] spec_ClientOK.tab1 spec_ClientOK.bits1 ⟨(δl BK155.out 0).trans rfl,(δl BK155.out 1).trans rfl⟩ (fun hHeld HT_ HW_ => ?_)
     generalize w3.drew=w11 at BK155 HB hHeld ⊢
     refine pu 0 5 ?_
     refine ta 1 6 ?_
     refine pu 2 7 ?_
     refine pu 3 8 ?_
     refine pu 4 9 ?_
     refine pu 5 10 ?_
     refine ta 6 11 ?_
     refine pu 7 12 ?_
     refine pu 8 13 ?_
     refine pu 9 14 ?_
     refine pu 10 15 ?_
     refine pu 11 16 ?_
     refine ta 12 17 ?_
     refine pu 13 18 ?_
     refine pu 14 19 ?_
     refine pu 15 20 ?_
     refine ζk (i:=16) (N:=some 21) (v:=undef) (a':=?_) #[τ,τ,τ,τ,τ,τ,τ,τ,τ,τ,τ,τ,τ,τ,τ,τ,τ,φ,φ,φ,φ,φ] rfl rfl (ζj HT_.out (by kernel_rfl)) (fun _ _ _ h=>h) (Or.inr ⟨by rfl,rfl⟩) ?_ ?_
     rotate_left
     · simp only [ζl,δa,δb,δc,i64_w,i32_w];rfl
     refine ζk (i:=17) (N:=some 22) (v:=undef) (a':=?_) #[τ,τ,τ,τ,τ,τ,τ,τ,τ,τ,τ,τ,τ,τ,τ,τ,τ,τ,φ,φ,φ,φ] rfl rfl (ζj HT_.out (by kernel_rfl)) (fun _ _ _ h=>h) (Or.inr ⟨by rfl,rfl⟩) ?_ ?_
     rotate_left
     · simp only [ζl,δa,δb,δc,i64_w,i32_w];rfl
     refine ζk (i:=18) (N:=some 23) (v:=undef) (a':=?_) #[τ,τ,τ,τ,τ,τ,τ,τ,τ,τ,τ,τ,τ,τ,τ,τ,τ,τ,τ,φ,φ,φ] rfl rfl (ζj HT_.out (by kernel_rfl)) (fun _ _ _ h=>h) (Or.inr ⟨by rfl,rfl⟩) ?_ ?_
     rotate_left
     · simp only [ζl,δa,δb,δc,i64_w,i32_w];rfl
     refine ζk (i:=19) (N:=some 24) (v:=undef) (a':=?_) #[τ,τ,τ,τ,τ,τ,τ,τ,τ,τ,τ,τ,τ,τ,τ,τ,τ,τ,τ,τ,φ,φ] rfl rfl (ζj HT_.out (by kernel_rfl)) (fun _ _ _ h=>h) (Or.inr ⟨by rfl,rfl⟩) ?_ ?_
     rotate_left
     · simp only [ζl,δa,δb,δc,i64_w,i32_w];rfl
     refine pu 20 25 ?_
     refine pu 21 26 ?_
     refine done_ (done_of HT_.out (by kernel_rfl)) ?_
     try go_wp2
     go_meet
     case rel=>exact ⟨_,(φ),(by rfl),H',⟨by omega⟩,⟨by exact BK155.out⟩,⟨by repeat ((with_reducible exact HB.out))⟩⟩
  ·
   rw [if_neg c4] at H
   have c4b0:=beq_eq_false_iff_ne.mpr c4
   have c4b1:=bne_iff_ne.mpr c4
   have H':=ζa H
   clear H
   try go_wp2
   replace BK155:=ζa (δp BK155.out)
   replace HB:=ζa (δj HB.out)
   refine sta 22 (fun w'=>w'.cell? ⟨gb155,0,none⟩=some (.string a0_0)∧w'.cell? ⟨gb155,1,none⟩=some (.slice A0_1 l0_1.length c0_1)) [] spec_ClientOK.tab1 spec_ClientOK.bits1 ⟨(δl BK155.out 0).trans rfl,(δl BK155.out 1).trans rfl⟩ (fun hHeld HT_ HW_ => ?_)
   generalize w3.drew=w12 at BK155 HB hHeld ⊢
   refine pu 0 5 ?_
   refine ta 1 6 ?_
   refine pu 2 7 ?_
   refine pu 3 8 ?_
   refine pu 4 9 ?_
   refine ζk (i:=5) (N:=some 10) (v:=undef) (a':=?_) #[τ,τ,τ,τ,τ,τ,φ,φ,φ,φ,φ,φ,φ,φ,φ,φ,φ,φ,φ,φ,φ,φ] rfl rfl (ζj HT_.out (by kernel_rfl)) (fun _ _ _ h=>h) (Or.inr ⟨by rfl,rfl⟩) ?_ ?_
   rotate_left
   · simp only [ζl,δa,δb,δc,i64_w,i32_w];rfl
   refine ζk (i:=6) (N:=some 11) (v:=undef) (a':=?_) #[τ,τ,τ,τ,τ,τ,τ,φ,φ,φ,φ,φ,φ,φ,φ,φ,φ,φ,φ,φ,φ,φ] rfl rfl (ζj HT_.out (by kernel_rfl)) (fun _ _ _ h=>h) (Or.inr ⟨by rfl,rfl⟩) ?_ ?_
   rotate_left
   · simp only [ζl,δa,δb,δc,i64_w,i32_w];rfl
   refine ζk (i:=7) (N:=some 12) (v:=undef) (a':=?_) #[τ,τ,τ,τ,τ,τ,τ,τ,φ,φ,φ,φ,φ,φ,φ,φ,φ,φ,φ,φ,φ,φ] rfl rfl (ζj HT_.out (by kernel_rfl)) (fun _ _ _ h=>h) (Or.inr ⟨by rfl,rfl⟩) ?_ ?_
   rotate_left
   · simp only [ζl,δa,δb,δc,i64_w,i32_w];rfl
   refine ζk (i:=8) (N:=some 13) (v:=undef) (a':=?_) #[τ,τ,τ,τ,τ,τ,τ,τ,τ,φ,φ,φ,φ,φ,φ,φ,φ,φ,φ,φ,φ,φ] rfl rfl (ζj HT_.out (by kernel_rfl)) (fun _ _ _ h=>h) (Or.inr ⟨by rfl,rfl⟩) ?_ ?_
   rotate_left
   · simp only [ζl,δa,δb,δc,i64_w,i32_w];rfl
   refine pu 9 14 ?_
   refine pu 10 15 ?_
   refine ζk (i:=11) (N:=some 16) (v:=undef) (a':=?_) #[τ,τ,τ,τ,τ,τ,τ,τ,τ,τ,τ,τ,φ,φ,φ,φ,φ,φ,φ,φ,φ,φ] rfl rfl (ζj HT_.out (by kernel_rfl)) (fun _ _ _ h=>h) (Or.inr ⟨by rfl,rfl⟩) ?_ ?_
   rotate_left
   · simp only [ζl,δa,δb,δc,i64_w,i32_w];rfl
   refine ζk (i:=12) (N:=some 17) (v:=undef) (a':=?_) #[τ,τ,τ,τ,τ,τ,τ,τ,τ,τ,τ,τ,τ,φ,φ,φ,φ,φ,φ,φ,φ,φ] rfl rfl (ζj HT_.out (by kernel_rfl)) (fun _ _ _ h=>h) (Or.inr ⟨by rfl,rfl⟩) ?_ ?_
   rotate_left
   · simp only [ζl,δa,δb,δc,i64_w,i32_w];rfl
   refine ζk (i:=13) (N:=some 18) (v:=undef) (a':=?_) #[τ,τ,τ,τ,τ,τ,τ,τ,τ,τ,τ,τ,τ,τ,φ,φ,φ,φ,φ,φ,φ,φ] rfl rfl (ζj HT_.out (by kernel_rfl)) (fun _ _ _ h=>h) (Or.inr ⟨by rfl,rfl⟩) ?_ ?_
   rotate_left
   · simp only [ζl,δa,δb,δc,i64_w,i32_w];rfl
   refine ζk (i:=14) (N:=some 19) (v:=undef) (a':=?_) #[τ,τ,τ,τ,τ,τ,τ,τ,τ,τ,τ,τ,τ,τ,τ,φ,φ,φ,φ,φ,φ,φ] rfl rfl (ζj HT_.out (by kernel_rfl)) (fun _ _ _ h=>h) (Or.inr ⟨by rfl,rfl⟩) ?_ ?_
   rotate_left
   · simp only [ζl,δa,δb,δc,i64_w,i32_w];rfl
   refine ζk (i:=15) (N:=some 20) (v:=undef) (a':=?_) #[τ,τ,τ,τ,τ,τ,τ,τ,τ,τ,τ,τ,τ,τ,τ,τ,φ,φ,φ,φ,φ,φ] rfl rfl (ζj HT_.out (by kernel_rfl)) (fun _ _ _ h=>h) (Or.inr ⟨by rfl,rfl⟩) ?_ ?_
   rotate_left
   · simp only [ζl,δa,δb,δc,i64_w,i32_w];rfl
   refine ζk (i:=16) (N:=some 21) (v:=undef) (a':=?_) #[τ,τ,τ,τ,τ,τ,τ,τ,τ,τ,τ,τ,τ,τ,τ,τ,τ,φ,φ,φ,φ,φ] rfl rfl (ζj HT_.out (by kernel_rfl)) (fun _ _ _ h=>h) (Or.inr ⟨by rfl,rfl⟩) ?_ ?_
   rotate_left
   · simp only [ζl,δa,δb,δc,i64_w,i32_w];rfl
   refine ζk (i:=17) (N:=some 22) (v:=undef) (a':=?_) #[τ,τ,τ,τ,τ,τ,τ,τ,τ,τ,τ,τ,τ,τ,τ,τ,τ,τ,φ,φ,φ,φ] rfl rfl (ζj HT_.out (by kernel_rfl)) (fun _ _ _ h=>h) (Or.inr ⟨by rfl,rfl⟩) ?_ ?_
   rotate_left
   · simp only [ζl,δa,δb,δc,i64_w,i32_w];rfl
   refine ζk (i:=18) (N:=some 23) (v:=undef) (a':=?_) #[τ,τ,τ,τ,τ,τ,τ,τ,τ,τ,τ,τ,τ,τ,τ,τ,τ,τ,τ,φ,φ,φ] rfl rfl (ζj HT_.out (by kernel_rfl)) (fun _ _ _ h=>h) (Or.inr ⟨by rfl,rfl⟩) ?_ ?_
   rotate_left
   · simp only [ζl,δa,δb,δc,i64_w,i32_w];rfl
   refine ζk (i:=19) (N:=some 24) (v:=undef) (a':=?_) #[τ,τ,τ,τ,τ,τ,τ,τ,τ,τ,τ,τ,τ,τ,τ,τ,τ,τ,τ,τ,φ,φ] rfl rfl (ζj HT_.out (by kernel_rfl)) (fun _ _ _ h=>h) (Or.inr ⟨by rfl,rfl⟩) ?_ ?_
   rotate_left
   · simp only [ζl,δa,δb,δc,i64_w,i32_w];rfl
   refine ζk (i:=20) (N:=some 25) (v:=undef) (a':=?_) #[τ,τ,τ,τ,τ,τ,τ,τ,τ,τ,τ,τ,τ,τ,τ,τ,τ,τ,τ,τ,τ,φ] rfl rfl (ζj HT_.out (by kernel_rfl)) (fun _ _ _ h=>h) (Or.inr ⟨by rfl,rfl⟩) ?_ ?_
   rotate_left
   · simp only [ζl,δa,δb,δc,i64_w,i32_w];rfl
   refine pu 21 26 ?_
   refine done_ (done_of HT_.out (by kernel_rfl)) ?_
   try go_wp2
   go_meet
   case rel=>exact ⟨_,(τ),(by rfl),H',⟨by omega⟩,⟨by exact BK155.out⟩,⟨by repeat ((with_reducible exact HB.out))⟩⟩
 case rest =>
  clear HC2
  try clear p2
  try clear c4
  try clear c4b0
  try clear c4b1
  try clear c5
  try clear c5b0
  try clear c5b1
  try clear c7
  try clear c7b0
  try clear c7b1
  try clear c7b2
  obtain ⟨kq,x26_1,rfl,HA,HJ1,BK155,HB⟩:=hcut
  cases kq with
  | zero=>exact absurd HA.out (by simp [spec_ClientOK.j0])
  | succ kj1 =>
   have H:=HA.out
   clear HA
   simp only [spec_ClientOK.j0] at H
   by_cases c13:x26_1=τ
   ·
    subst c13
    rw [ifT] at H
    obtain rfl:=Option.some.inj H
    go_wp2
    go_ret
    exact ⟨by rfl,by repeat ((with_reducible exact HB.out))⟩
   ·
    replace c13:=Bool.eq_false_iff.mpr c13
    subst c13
    rw [ifF] at H
    have H':=ζa H
    clear H
    go_wp2
    go_loopg [3] kj1 (fun kq v3 w' => ∃ (x3_2:Int),v3 = .int .i64 x3_2∧Aside0 (spec_ClientOK.l0 kq x3_2 a0_0 l0_1=some r)∧Aside0 (kq≤kj1)∧Aside0 (w'.heap[gb155]? = some (.cells #[.string a0_0,(.slice A0_1 l0_1.length c0_1)] 25 (0,0)))∧Aside0 (Below w.heap.size w w'))
    case atStart=>exact ⟨(0),(by rfl),H',⟨Nat.le_refl _⟩,⟨by exact BK155.out⟩,⟨by repeat ((with_reducible exact HB.out))⟩⟩
    case round =>
     clear H'
     try clear c1
     try clear p2
     try clear c4
     try clear c4b0
     try clear c4b1
     try clear c5
     try clear c5b0
     try clear c5b1
     try clear c7
     try clear c7b0
     try clear c7b1
     try clear c7b2
     try clear c13
     try clear p2
     obtain ⟨x3_2,rfl,HA,HK2,BK155,HB⟩:=hrel
     cases gk with
     | zero=>exact absurd HA.out (by simp [spec_ClientOK.l0])
     | succ k2 =>
      have H:=HA.out
      clear HA
      simp only [spec_ClientOK.l0] at H
      by_cases c14:x3_2<(l0_1.length:Int)
      ·
       rw [if_pos c14] at H
       have c14b0:=decide_eq_true c14
       clear c14
       by_cases c15:0≤x3_2
       ·
        rw [if_pos c15] at H
        have c15b0:=decide_eq_true c15
        clear c15
        obtain ⟨t159,A16,H⟩:=bsm H
        by_cases c17:t159=τ
        ·
         subst c17
         rw [ifT] at H
         by_cases c18:(((rd_T39 l0_1 x3_2).f1).size:Int)=32
         ·
          rw [if_pos c18] at H
          have c18b0:=beq_iff_eq.mpr c18
          have c18b1:=bne_eq_false_iff_eq.mpr c18
          clear c18
          by_cases c19:x3_2 > 0
          ·
           rw [if_pos c19] at H
           have c19b0:decide (0<x3_2)=τ:=decide_eq_true c19
           clear c19
           obtain ⟨ji20,hji20⟩ : ∃ j_:Int,(ζm (x3_2 - 1))=j_:=⟨_,rfl⟩
           replace H:(if 0≤(ji20) then (if (ji20)<(l0_1.length:Int) then (if ((rd_T39 l0_1 (ji20)).f0) > ((rd_T39 l0_1 x3_2).f0) then (some φ) else (spec_ClientOK.l0 k2 (ζm (x3_2+1)) a0_0 l0_1)) else (none)) else (none))=some r:=by (rw [hji20] at H;exact H)
           (try rw [hji20] at A16)
           have hji20w:(IntKind.i64.wrap (x3_2 - 1))=ji20:=(i64_w _).trans hji20
           by_cases c21:0≤(ji20)
           ·
            rw [if_pos c21] at H
            have c21b0:=decide_eq_true c21
            clear c21
            by_cases c22:(ji20)<(l0_1.length:Int)
            ·
             rw [if_pos c22] at H
             have c22b0:=decide_eq_true c22
             clear c22
             by_cases c23:((rd_T39 l0_1 (ji20)).f0) > ((rd_T39 l0_1 x3_2).f0)
             ·
              rw [if_pos c23] at H
              have c23b0:decide (((rd_T39 l0_1 x3_2).f0)<((rd_T39 l0_1 (ji20)).f0))=τ:=decide_eq_true c23
              clear c23
              obtain rfl:=Option.some.inj H
              have hcz24_0:wr.cell? ⟨gb155,0,none⟩=some (.string a0_0):=(δl BK155.out 0).trans rfl
              have hcz24_1:wr.cell? ⟨gb155,1,none⟩=some (.slice A0_1 l0_1.length c0_1):=(δl BK155.out 1).trans rfl
              have hfz24_0:=δm BK155.out 0
              have hfz24_1:=δm BK155.out 1
              have p157:0≤(x3_2:Int):=of_decide_eq_true (by (with_reducible assumption))
              have q157:x3_2<(l0_1.length:Int):=of_decide_eq_true (by (with_reducible assumption))
              obtain ⟨ad157,e157,hx157_0,hx157_1⟩:=at_T39 HR0_1.out x3_2 p157 q157
              cases e157
              replace hx157_0:=(HB.out.cell (World.block_lt_of_cell? w _ hx157_0)).trans hx157_0
              replace hx157_1:=(HB.out.cell (World.block_lt_of_cell? w _ hx157_1)).trans hx157_1
              replace p157:=eq_true p157
              replace q157:=eq_true q157
              try go_wp2_with (((with_reducible refine δx (N:=4) rfl ?_);(try (refine gate_guard (by rfl) ?_;dsimp only));refine bev 4 #[.int .i64 0,.string (⟨#[]⟩:ByteArray)] 39 ?_;intro gb158 hg w25 hbox hb;have BK158:=ζa (hbox);have GW158:=ζa (gbw hg (by exact HB.out));have GE158:=ζa (gbw hg (by exact HB.out));replace HB:=ζa (δr (by exact HB.out) hb);have NB155_158:=ζa ((by rw [hg];exact Nat.ne_of_lt (blk_lt (g:=gb155) (o:=.cells #[.string a0_0,.slice (some ad157) l0_1.length c0_1] 25 (0,0)) (by exact BK155.out)):gb155≠gb158));have NB158_155:=ζa ((by rw [hg];exact Nat.ne_of_gt (blk_lt (g:=gb155) (o:=.cells #[.string a0_0,.slice (some ad157) l0_1.length c0_1] 25 (0,0)) (by exact BK155.out)):gb158≠gb155));replace BK155:=ζa (blk_below (g:=gb155) (o:=.cells #[.string a0_0,.slice (some ad157) l0_1.length c0_1] 25 (0,0)) (by exact BK155.out) hb);clear hb hbox hg;have hnb26:=NB158_155.out;have hnc26:=NB155_158.out;have hcz27_0:w25.cell? ⟨gb158,0,none⟩=some (.int .i64 0):=(δl BK158.out 0).trans rfl;have hcz27_1:w25.cell? ⟨gb158,1,none⟩=some (.string (⟨#[]⟩:ByteArray)):=(δl BK158.out 1).trans rfl;have hfz27_0:=δm BK158.out 0;have hfz27_1:=δm BK158.out 1))
              have n0_:Aside0 (((w25.setCell ⟨gb158,0,none⟩ (.int .i64 ((rd_T39 l0_1 x3_2).f0))).setCell ⟨gb158,1,none⟩ (.string ((rd_T39 l0_1 x3_2).f1))).heap[gb155]? = some (.cells #[.string a0_0,.slice (some ad157) l0_1.length c0_1] 25 (0,0))):=⟨by refine blk_far ?_ NB155_158.out _;refine blk_far ?_ NB155_158.out _;exact BK155.out⟩
              have n1_:Aside0 (((w25.setCell ⟨gb158,0,none⟩ (.int .i64 ((rd_T39 l0_1 x3_2).f0))).setCell ⟨gb158,1,none⟩ (.string ((rd_T39 l0_1 x3_2).f1))).heap[gb158]? = some (.cells #[.int .i64 ((rd_T39 l0_1 x3_2).f0),.string ((rd_T39 l0_1 x3_2).f1)] 39 (0,0))):=⟨by refine δw (cs:=#[.int .i64 ((rd_T39 l0_1 x3_2).f0),.string (⟨#[]⟩:ByteArray)]) ?_ 1 _ rfl;refine δw (cs:=#[.int .i64 0,.string (⟨#[]⟩:ByteArray)]) ?_ 0 _ rfl;exact BK158.out⟩
              have n2_:Aside0 (Below w.heap.size w ((w25.setCell ⟨gb158,0,none⟩ (.int .i64 ((rd_T39 l0_1 x3_2).f0))).setCell ⟨gb158,1,none⟩ (.string ((rd_T39 l0_1 x3_2).f1)))):=⟨by repeat ((with_reducible first|exact HB.out|refine δq ?_ GE158.out))⟩
              (try clear BK155)
              (try clear BK158)
              (try clear HB)
              generalize ((w25.setCell ⟨gb158,0,none⟩ (.int .i64 ((rd_T39 l0_1 x3_2).f0))).setCell ⟨gb158,1,none⟩ (.string ((rd_T39 l0_1 x3_2).f1)))=w28 at n0_ n1_ n2_ ⊢
              have BK155:=n0_
              have BK158:=n1_
              have HB:=n2_
              clear n0_ n1_ n2_
              replace BK155:=ζa (δp BK155.out)
              replace BK158:=ζa (δp BK158.out)
              replace HB:=ζa (δj HB.out)
              have p160:0≤((ji20):Int):=of_decide_eq_true (by (with_reducible assumption))
              have q160:(ji20)<(l0_1.length:Int):=of_decide_eq_true (by (with_reducible assumption))
              obtain ⟨ad160,e160,hx160_0,hx160_1⟩:=at_T39 HR0_1.out (ji20) p160 q160
              have hw160_1:=hx160_1
              have hw160_0:=hx160_0
              obtain rfl:ad157=ad160:=(by injection e160)
              replace hx160_0:=(HB.out.cell (World.block_lt_of_cell? w _ hx160_0)).trans hx160_0
              replace hx160_1:=(HB.out.cell (World.block_lt_of_cell? w _ hx160_1)).trans hx160_1
              replace p160:=eq_true p160
              replace q160:=eq_true q160
              refine sta 26 (fun w'=>w'.cell? ⟨gb158,0,none⟩=some (.int .i64 ((rd_T39 l0_1 x3_2).f0))∧w'.cell? ⟨gb158,1,none⟩=some (.string ((rd_T39 l0_1 x3_2).f1))∧w'.cell? ⟨gb155,0,none⟩=some (.string a0_0)∧w'.cell? ⟨gb155,1,none⟩=some (.slice (some ad157) l0_1.length c0_1)∧w'.cell? (ad157.add (((ji20)).toNat * 2))=some (.int .i64 ((rd_T39 l0_1 (ji20)).f0))∧w'.cell? ⟨(ad157.add (((ji20)).toNat * 2)).block,(ad157.add (((ji20)).toNat * 2)).off+1,none⟩=some (.string ((rd_T39 l0_1 (ji20)).f1))) [] spec_ClientOK.tab7 spec_ClientOK.bits7 ⟨(δl BK158.out 0).trans rfl,(δl BK158.out 1).trans rfl,(δl BK155.out 0).trans rfl,(δl BK155.out 1).trans rfl,((HB.out.cell (World.block_lt_of_cell? w _ hw160_0)).trans hw160_0),((HB.out.cell (World.block_lt_of_cell? w _ hw160_1)).trans hw160_1)⟩ (fun hHeld HT_ HW_ => ?_)
              generalize w28.drew=w29 at BK155 BK158 HB hx160_0 hx160_1 hHeld ⊢
              refine pu 0 39 ?_
              refine ta 1 40 ?_
              refine on 2 41 (fun K hK => ?_)
              refine gs Try.func65 #[.int .i64 ((rd_T39 l0_1 x3_2).f0),.int .i64 0,.int .i64 1000000000] ?_
              with_reducible refine (spec_l01In.calls ((rd_T39 l0_1 x3_2).f0) 0 1000000000 τ _ A16.out).mono ?_
              rintro e w' ⟨rfl,⟨nd,rfl⟩⟩
              refine ⟨_,rfl,?_⟩
              refine hK.out _ _ ⟨(δl BK158.out 0).trans rfl,(δl BK158.out 1).trans rfl,(δl BK155.out 0).trans rfl,(δl BK155.out 1).trans rfl,((HB.out.cell (World.block_lt_of_cell? w _ hw160_0)).trans hw160_0),((HB.out.cell (World.block_lt_of_cell? w _ hw160_1)).trans hw160_1)⟩ (fun hHeld => ?_)
              clear hK K
              refine nm 41 ?_
              refine pu 3 42 ?_
              refine pu 4 43 ?_
              refine pu 5 44 ?_
              refine ta 6 45 ?_
              refine pu 7 46 ?_
              refine pu 8 47 ?_
              refine pu 9 48 ?_
              refine pu 10 49 ?_
              refine pu 11 50 ?_
              refine pu 12 51 ?_
              refine pu 13 52 ?_
              refine pu 14 53 ?_
              refine pu 16 55 ?_
              refine pu 17 56 ?_
              refine pu 21 60 ?_
              refine ta 15 54 ?_
              refine pu 18 57 ?_
              refine pu 19 58 ?_
              refine ta 20 59 ?_
              refine ta 22 61 ?_
              refine pu 23 62 ?_
              refine pu 24 63 ?_
              refine pu 25 64 ?_
              refine done_ (done_of HT_.out (by kernel_rfl)) ?_
              try go_wp2
              go_ret
              exact ⟨by rfl,by repeat ((with_reducible first|exact HB.out|apply δi))⟩
             ·
              rw [if_neg c23] at H
              have c23b0:decide (((rd_T39 l0_1 x3_2).f0)<((rd_T39 l0_1 (ji20)).f0))=φ:=decide_eq_false c23
              clear c23
              have H':=ζa H
              clear H
              have hcz30_0:wr.cell? ⟨gb155,0,none⟩=some (.string a0_0):=(δl BK155.out 0).trans rfl
              have hcz30_1:wr.cell? ⟨gb155,1,none⟩=some (.slice A0_1 l0_1.length c0_1):=(δl BK155.out 1).trans rfl
              have hfz30_0:=δm BK155.out 0
              have hfz30_1:=δm BK155.out 1
              have p157:0≤(x3_2:Int):=of_decide_eq_true (by (with_reducible assumption))
              have q157:x3_2<(l0_1.length:Int):=of_decide_eq_true (by (with_reducible assumption))
              obtain ⟨ad157,e157,hx157_0,hx157_1⟩:=at_T39 HR0_1.out x3_2 p157 q157
              cases e157
              replace hx157_0:=(HB.out.cell (World.block_lt_of_cell? w _ hx157_0)).trans hx157_0
              replace hx157_1:=(HB.out.cell (World.block_lt_of_cell? w _ hx157_1)).trans hx157_1
              replace p157:=eq_true p157
              replace q157:=eq_true q157
              try go_wp2_with (((with_reducible refine δx (N:=4) rfl ?_);(try (refine gate_guard (by rfl) ?_;dsimp only));refine bev 4 #[.int .i64 0,.string (⟨#[]⟩:ByteArray)] 39 ?_;intro gb158 hg w31 hbox hb;have BK158:=ζa (hbox);have GW158:=ζa (gbw hg (by exact HB.out));have GE158:=ζa (gbw hg (by exact HB.out));replace HB:=ζa (δr (by exact HB.out) hb);have NB155_158:=ζa ((by rw [hg];exact Nat.ne_of_lt (blk_lt (g:=gb155) (o:=.cells #[.string a0_0,.slice (some ad157) l0_1.length c0_1] 25 (0,0)) (by exact BK155.out)):gb155≠gb158));have NB158_155:=ζa ((by rw [hg];exact Nat.ne_of_gt (blk_lt (g:=gb155) (o:=.cells #[.string a0_0,.slice (some ad157) l0_1.length c0_1] 25 (0,0)) (by exact BK155.out)):gb158≠gb155));replace BK155:=ζa (blk_below (g:=gb155) (o:=.cells #[.string a0_0,.slice (some ad157) l0_1.length c0_1] 25 (0,0)) (by exact BK155.out) hb);clear hb hbox hg;have hnb32:=NB158_155.out;have hnc32:=NB155_158.out;have hcz33_0:w31.cell? ⟨gb158,0,none⟩=some (.int .i64 0):=(δl BK158.out 0).trans rfl;have hcz33_1:w31.cell? ⟨gb158,1,none⟩=some (.string (⟨#[]⟩:ByteArray)):=(δl BK158.out 1).trans rfl;have hfz33_0:=δm BK158.out 0;have hfz33_1:=δm BK158.out 1))
              have n0_:Aside0 (((w31.setCell ⟨gb158,0,none⟩ (.int .i64 ((rd_T39 l0_1 x3_2).f0))).setCell ⟨gb158,1,none⟩ (.string ((rd_T39 l0_1 x3_2).f1))).heap[gb155]? = some (.cells #[.string a0_0,.slice (some ad157) l0_1.length c0_1] 25 (0,0))):=⟨by refine blk_far ?_ NB155_158.out _;refine blk_far ?_ NB155_158.out _;exact BK155.out⟩
              have n1_:Aside0 (((w31.setCell ⟨gb158,0,none⟩ (.int .i64 ((rd_T39 l0_1 x3_2).f0))).setCell ⟨gb158,1,none⟩ (.string ((rd_T39 l0_1 x3_2).f1))).heap[gb158]? = some (.cells #[.int .i64 ((rd_T39 l0_1 x3_2).f0),.string ((rd_T39 l0_1 x3_2).f1)] 39 (0,0))):=⟨by refine δw (cs:=#[.int .i64 ((rd_T39 l0_1 x3_2).f0),.string (⟨#[]⟩:ByteArray)]) ?_ 1 _ rfl;refine δw (cs:=#[.int .i64 0,.string (⟨#[]⟩:ByteArray)]) ?_ 0 _ rfl;exact BK158.out⟩
              have n2_:Aside0 (Below w.heap.size w ((w31.setCell ⟨gb158,0,none⟩ (.int .i64 ((rd_T39 l0_1 x3_2).f0))).setCell ⟨gb158,1,none⟩ (.string ((rd_T39 l0_1 x3_2).f1)))):=⟨by repeat ((with_reducible first|exact HB.out|refine δq ?_ GE158.out))⟩
              (try clear BK155)
              (try clear BK158)
              (try clear HB)
              generalize ((w31.setCell ⟨gb158,0,none⟩ (.int .i64 ((rd_T39 l0_1 x3_2).f0))).setCell ⟨gb158,1,none⟩ (.string ((rd_T39 l0_1 x3_2).f1)))=w34 at n0_ n1_ n2_ ⊢
              have BK155:=n0_
              have BK158:=n1_
              have HB:=n2_
              clear n0_ n1_ n2_
              replace BK155:=ζa (δp BK155.out)
              replace BK158:=ζa (δp BK158.out)
              replace HB:=ζa (δj HB.out)
              have p160:0≤((ji20):Int):=of_decide_eq_true (by (with_reducible assumption))
              have q160:(ji20)<(l0_1.length:Int):=of_decide_eq_true (by (with_reducible assumption))
              obtain ⟨ad160,e160,hx160_0,hx160_1⟩:=at_T39 HR0_1.out (ji20) p160 q160
              have hw160_1:=hx160_1
              have hw160_0:=hx160_0
              obtain rfl:ad157=ad160:=(by injection e160)
              replace hx160_0:=(HB.out.cell (World.block_lt_of_cell? w _ hx160_0)).trans hx160_0
              replace hx160_1:=(HB.out.cell (World.block_lt_of_cell? w _ hx160_1)).trans hx160_1
              replace p160:=eq_true p160
              replace q160:=eq_true q160
              refine sta 26 (fun w'=>w'.cell? ⟨gb158,0,none⟩=some (.int .i64 ((rd_T39 l0_1 x3_2).f0))∧w'.cell? ⟨gb158,1,none⟩=some (.string ((rd_T39 l0_1 x3_2).f1))∧w'.cell? ⟨gb155,0,none⟩=some (.string a0_0)∧w'.cell? ⟨gb155,1,none⟩=some (.slice (some ad157) l0_1.length c0_1)∧w'.cell? (ad157.add (((ji20)).toNat * 2))=some (.int .i64 ((rd_T39 l0_1 (ji20)).f0))∧w'.cell? ⟨(ad157.add (((ji20)).toNat * 2)).block,(ad157.add (((ji20)).toNat * 2)).off+1,none⟩=some (.string ((rd_T39 l0_1 (ji20)).f1))) [] spec_ClientOK.tab7 spec_ClientOK.bits7 ⟨(δl BK158.out 0).trans rfl,(δl BK158.out 1).trans rfl,(δl BK155.out 0).trans rfl,(δl BK155.out 1).trans rfl,((HB.out.cell (World.block_lt_of_cell? w _ hw160_0)).trans hw160_0),((HB.out.cell (World.block_lt_of_cell? w _ hw160_1)).trans hw160_1)⟩ (fun hHeld HT_ HW_ => ?_)
              generalize w34.drew=w35 at BK155 BK158 HB hx160_0 hx160_1 hHeld ⊢
              refine pu 0 39 ?_
              refine ta 1 40 ?_
              refine on 2 41 (fun K hK => ?_)
              refine gs Try.func65 #[.int .i64 ((rd_T39 l0_1 x3_2).f0),.int .i64 0,.int .i64 1000000000] ?_
              with_reducible refine (spec_l01In.calls ((rd_T39 l0_1 x3_2).f0) 0 1000000000 τ _ A16.out).mono ?_
              rintro e w' ⟨rfl,⟨nd,rfl⟩⟩
              refine ⟨_,rfl,?_⟩
              refine hK.out _ _ ⟨(δl BK158.out 0).trans rfl,(δl BK158.out 1).trans rfl,(δl BK155.out 0).trans rfl,(δl BK155.out 1).trans rfl,((HB.out.cell (World.block_lt_of_cell? w _ hw160_0)).trans hw160_0),((HB.out.cell (World.block_lt_of_cell? w _ hw160_1)).trans hw160_1)⟩ (fun hHeld => ?_)
              clear hK K
              refine nm 41 ?_
              refine pu 3 42 ?_
              refine pu 4 43 ?_
              refine pu 5 44 ?_
              refine ta 6 45 ?_
              refine pu 7 46 ?_
              refine pu 8 47 ?_
              refine pu 9 48 ?_
              refine pu 10 49 ?_
              refine pu 11 50 ?_
              refine pu 12 51 ?_
              refine pu 13 52 ?_
              refine pu 14 53 ?_
              refine pu 16 55 ?_
              refine pu 17 56 ?_
              refine pu 21 60 ?_
              refine ta 15 54 ?_
              refine pu 18 57 ?_
              refine pu 19 58 ?_
              refine ta 20 59 ?_
              refine ta 22 61 ?_
              refine pu 23 62 ?_
              refine pu 24 63 ?_
              refine pu 25 64 ?_
              refine done_ (done_of HT_.out (by kernel_rfl)) ?_
              try go_wp2
              go_roundg k2
              case measure=>have:=HJ1.out;have:=HK2.out;omega
              case rel=>exact ⟨(ζm (x3_2+1)),(by rfl),H',⟨by have:=HJ1.out;have:=HK2.out;omega⟩,⟨by (with_reducible repeat (refine δn ?_ _));exact BK155.out⟩,⟨by repeat ((with_reducible first|exact HB.out|apply δi))⟩⟩
            ·
             rw [if_neg c22] at H
             exact absurd H (by simp)
           ·
            rw [if_neg c21] at H
            exact absurd H (by simp)
          ·
           rw [if_neg c19] at H
           have c19b0:decide (0<x3_2)=φ:=decide_eq_false c19
           clear c19
           have H':=ζa H
           clear H
           have hcz36_0:wr.cell? ⟨gb155,0,none⟩=some (.string a0_0):=(δl BK155.out 0).trans rfl
           have hcz36_1:wr.cell? ⟨gb155,1,none⟩=some (.slice A0_1 l0_1.length c0_1):=(δl BK155.out 1).trans rfl
           have hfz36_0:=δm BK155.out 0
           have hfz36_1:=δm BK155.out 1
           have p157:0≤(x3_2:Int):=of_decide_eq_true (by (with_reducible assumption))
           have q157:x3_2<(l0_1.length:Int):=of_decide_eq_true (by (with_reducible assumption))
           obtain ⟨ad157,e157,hx157_0,hx157_1⟩:=at_T39 HR0_1.out x3_2 p157 q157
           cases e157
           replace hx157_0:=(HB.out.cell (World.block_lt_of_cell? w _ hx157_0)).trans hx157_0
           replace hx157_1:=(HB.out.cell (World.block_lt_of_cell? w _ hx157_1)).trans hx157_1
           replace p157:=eq_true p157
           replace q157:=eq_true q157
           try go_wp2_with (((with_reducible refine δx (N:=4) rfl ?_);(try (refine gate_guard (by rfl) ?_;dsimp only));refine bev 4 #[.int .i64 0,.string (⟨#[]⟩:ByteArray)] 39 ?_;intro gb158 hg w37 hbox hb;have BK158:=ζa (hbox);have GW158:=ζa (gbw hg (by exact HB.out));have GE158:=ζa (gbw hg (by exact HB.out));replace HB:=ζa (δr (by exact HB.out) hb);have NB155_158:=ζa ((by rw [hg];exact Nat.ne_of_lt (blk_lt (g:=gb155) (o:=.cells #[.string a0_0,.slice (some ad157) l0_1.length c0_1] 25 (0,0)) (by exact BK155.out)):gb155≠gb158));have NB158_155:=ζa ((by rw [hg];exact Nat.ne_of_gt (blk_lt (g:=gb155) (o:=.cells #[.string a0_0,.slice (some ad157) l0_1.length c0_1] 25 (0,0)) (by exact BK155.out)):gb158≠gb155));replace BK155:=ζa (blk_below (g:=gb155) (o:=.cells #[.string a0_0,.slice (some ad157) l0_1.length c0_1] 25 (0,0)) (by exact BK155.out) hb);clear hb hbox hg;have hnb38:=NB158_155.out;have hnc38:=NB155_158.out;have hcz39_0:w37.cell? ⟨gb158,0,none⟩=some (.int .i64 0):=(δl BK158.out 0).trans rfl;have hcz39_1:w37.cell? ⟨gb158,1,none⟩=some (.string (⟨#[]⟩:ByteArray)):=(δl BK158.out 1).trans rfl;have hfz39_0:=δm BK158.out 0;have hfz39_1:=δm BK158.out 1))
           have n0_:Aside0 (((w37.setCell ⟨gb158,0,none⟩ (.int .i64 ((rd_T39 l0_1 x3_2).f0))).setCell ⟨gb158,1,none⟩ (.string ((rd_T39 l0_1 x3_2).f1))).heap[gb155]? = some (.cells #[.string a0_0,.slice (some ad157) l0_1.length c0_1] 25 (0,0))):=⟨by refine blk_far ?_ NB155_158.out _;refine blk_far ?_ NB155_158.out _;exact BK155.out⟩
           have n1_:Aside0 (((w37.setCell ⟨gb158,0,none⟩ (.int .i64 ((rd_T39 l0_1 x3_2).f0))).setCell ⟨gb158,1,none⟩ (.string ((rd_T39 l0_1 x3_2).f1))).heap[gb158]? = some (.cells #[.int .i64 ((rd_T39 l0_1 x3_2).f0),.string ((rd_T39 l0_1 x3_2).f1)] 39 (0,0))):=⟨by refine δw (cs:=#[.int .i64 ((rd_T39 l0_1 x3_2).f0),.string (⟨#[]⟩:ByteArray)]) ?_ 1 _ rfl;refine δw (cs:=#[.int .i64 0,.string (⟨#[]⟩:ByteArray)]) ?_ 0 _ rfl;exact BK158.out⟩
           have n2_:Aside0 (Below w.heap.size w ((w37.setCell ⟨gb158,0,none⟩ (.int .i64 ((rd_T39 l0_1 x3_2).f0))).setCell ⟨gb158,1,none⟩ (.string ((rd_T39 l0_1 x3_2).f1)))):=⟨by repeat ((with_reducible first|exact HB.out|refine δq ?_ GE158.out))⟩
           (try clear BK155)
           (try clear BK158)
           (try clear HB)
           generalize ((w37.setCell ⟨gb158,0,none⟩ (.int .i64 ((rd_T39 l0_1 x3_2).f0))).setCell ⟨gb158,1,none⟩ (.string ((rd_T39 l0_1 x3_2).f1)))=w40 at n0_ n1_ n2_ ⊢
           have BK155:=n0_
           have BK158:=n1_
           have HB:=n2_
           clear n0_ n1_ n2_
           replace BK155:=ζa (δp BK155.out)
           replace BK158:=ζa (δp BK158.out)
           replace HB:=ζa (δj HB.out)
           refine sta 26 (fun w'=>w'.cell? ⟨gb158,0,none⟩=some (.int .i64 ((rd_T39 l0_1 x3_2).f0))∧w'.cell? ⟨gb158,1,none⟩=some (.string ((rd_T39 l0_1 x3_2).f1))) [] spec_ClientOK.tab7 spec_ClientOK.bits7 ⟨(δl BK158.out 0).trans rfl,(δl BK158.out 1).trans rfl⟩ (fun hHeld HT_ HW_ => ?_)
           generalize w40.drew=w41 at BK155 BK158 HB hHeld ⊢
           refine pu 0 39 ?_
           refine ta 1 40 ?_
           refine on 2 41 (fun K hK => ?_)
           refine gs Try.func65 #[.int .i64 ((rd_T39 l0_1 x3_2).f0),.int .i64 0,.int .i64 1000000000] ?_
           with_reducible refine (spec_l01In.calls ((rd_T39 l0_1 x3_2).f0) 0 1000000000 τ _ A16.out).mono ?_
           rintro e w' ⟨rfl,⟨nd,rfl⟩⟩
           refine ⟨_,rfl,?_⟩
           refine hK.out _ _ ⟨(δl BK158.out 0).trans rfl,(δl BK158.out 1).trans rfl⟩ (fun hHeld => ?_)
           clear hK K
           refine nm 41 ?_
           refine pu 3 42 ?_
           refine pu 4 43 ?_
           refine pu 5 44 ?_
           refine ta 6 45 ?_
           refine pu 7 46 ?_
           refine pu 8 47 ?_
           refine pu 9 48 ?_
           refine pu 10 49 ?_
           refine pu 11 50 ?_
           refine pu 12 51 ?_
           refine pu 13 52 ?_
           refine ζk (i:=14) (N:=some 53) (v:=undef) (a':=?_) #[τ,τ,τ,τ,τ,τ,τ,τ,τ,τ,τ,τ,τ,τ,τ,φ,φ,φ,φ,φ,φ,φ,φ,φ,φ,φ] rfl rfl (ζj HT_.out (by kernel_rfl)) (fun _ _ _ h=>h) (Or.inr ⟨by rfl,rfl⟩) ?_ ?_
           rotate_left
           · simp only [ζl,δa,δb,δc,i64_w,i32_w];rfl
           refine ζk (i:=15) (N:=some 54) (v:=undef) (a':=?_) #[τ,τ,τ,τ,τ,τ,τ,τ,τ,τ,τ,τ,τ,τ,τ,τ,φ,φ,φ,φ,φ,φ,φ,φ,φ,φ] rfl rfl (ζj HT_.out (by kernel_rfl)) (fun _ _ _ h=>h) (Or.inr ⟨by rfl,rfl⟩) ?_ ?_
           rotate_left
           · simp only [ζl,δa,δb,δc,i64_w,i32_w];rfl
           refine ζk (i:=16) (N:=some 55) (v:=undef) (a':=?_) #[τ,τ,τ,τ,τ,τ,τ,τ,τ,τ,τ,τ,τ,τ,τ,τ,τ,φ,φ,φ,φ,φ,φ,φ,φ,φ] rfl rfl (ζj HT_.out (by kernel_rfl)) (fun _ _ _ h=>h) (Or.inr ⟨by rfl,rfl⟩) ?_ ?_
           rotate_left
           · simp only [ζl,δa,δb,δc,i64_w,i32_w];rfl
           refine ζk (i:=17) (N:=some 56) (v:=undef) (a':=?_) #[τ,τ,τ,τ,τ,τ,τ,τ,τ,τ,τ,τ,τ,τ,τ,τ,τ,τ,φ,φ,φ,φ,φ,φ,φ,φ] rfl rfl (ζj HT_.out (by kernel_rfl)) (fun _ _ _ h=>h) (Or.inr ⟨by rfl,rfl⟩) ?_ ?_
           rotate_left
           · simp only [ζl,δa,δb,δc,i64_w,i32_w];rfl
           refine ζk (i:=18) (N:=some 57) (v:=undef) (a':=?_) #[τ,τ,τ,τ,τ,τ,τ,τ,τ,τ,τ,τ,τ,τ,τ,τ,τ,τ,τ,φ,φ,φ,φ,φ,φ,φ] rfl rfl (ζj HT_.out (by kernel_rfl)) (fun _ _ _ h=>h) (Or.inr ⟨by rfl,rfl⟩) ?_ ?_
           rotate_left
           · simp only [ζl,δa,δb,δc,i64_w,i32_w];rfl
           refine ζk (i:=19) (N:=some 58) (v:=undef) (a':=?_) #[τ,τ,τ,τ,τ,τ,τ,τ,τ,τ,τ,τ,τ,τ,τ,τ,τ,τ,τ,τ,φ,φ,φ,φ,φ,φ] rfl rfl (ζj HT_.out (by kernel_rfl)) (fun _ _ _ h=>h) (Or.inr ⟨by rfl,rfl⟩) ?_ ?_
           rotate_left
           · simp only [ζl,δa,δb,δc,i64_w,i32_w];rfl
           refine ζk (i:=20) (N:=some 59) (v:=undef) (a':=?_) #[τ,τ,τ,τ,τ,τ,τ,τ,τ,τ,τ,τ,τ,τ,τ,τ,τ,τ,τ,τ,τ,φ,φ,φ,φ,φ] rfl rfl (ζj HT_.out (by kernel_rfl)) (fun _ _ _ h=>h) (Or.inr ⟨by rfl,rfl⟩) ?_ ?_
           rotate_left
           · simp only [ζl,δa,δb,δc,i64_w,i32_w];rfl
           refine ζk (i:=21) (N:=some 60) (v:=undef) (a':=?_) #[τ,τ,τ,τ,τ,τ,τ,τ,τ,τ,τ,τ,τ,τ,τ,τ,τ,τ,τ,τ,τ,τ,φ,φ,φ,φ] rfl rfl (ζj HT_.out (by kernel_rfl)) (fun _ _ _ h=>h) (Or.inr ⟨by rfl,rfl⟩) ?_ ?_
           rotate_left
           · simp only [ζl,δa,δb,δc,i64_w,i32_w];rfl
           refine ζk (i:=22) (N:=some 61) (v:=undef) (a':=?_) #[τ,τ,τ,τ,τ,τ,τ,τ,τ,τ,τ,τ,τ,τ,τ,τ,τ,τ,τ,τ,τ,τ,τ,φ,φ,φ] rfl rfl (ζj HT_.out (by kernel_rfl)) (fun _ _ _ h=>h) (Or.inr ⟨by rfl,rfl⟩) ?_ ?_
           rotate_left
           · simp only [ζl,δa,δb,δc,i64_w,i32_w];rfl
           refine ζk (i:=23) (N:=some 62) (v:=undef) (a':=?_) #[τ,τ,τ,τ,τ,τ,τ,τ,τ,τ,τ,τ,τ,τ,τ,τ,τ,τ,τ,τ,τ,τ,τ,τ,φ,φ] rfl rfl (ζj HT_.out (by kernel_rfl)) (fun _ _ _ h=>h) (Or.inr ⟨by rfl,rfl⟩) ?_ ?_
           rotate_left
           · simp only [ζl,δa,δb,δc,i64_w,i32_w];rfl
           refine pu 24 63 ?_
           refine pu 25 64 ?_
           refine done_ (done_of HT_.out (by kernel_rfl)) ?_
           try go_wp2
           go_roundg k2
           case measure=>have:=HJ1.out;have:=HK2.out;omega
           case rel=>exact ⟨(ζm (x3_2+1)),(by rfl),H',⟨by have:=HJ1.out;have:=HK2.out;omega⟩,⟨by (with_reducible repeat (refine δn ?_ _));exact BK155.out⟩,⟨by repeat ((with_reducible first|exact HB.out|apply δi))⟩⟩
         ·
          rw [if_neg c18] at H
          have c18b0:=beq_eq_false_iff_ne.mpr c18
          have c18b1:=bne_iff_ne.mpr c18
          obtain rfl:=Option.some.inj H
          have hcz42_0:wr.cell? ⟨gb155,0,none⟩=some (.string a0_0):=(δl BK155.out 0).trans rfl
          have hcz42_1:wr.cell? ⟨gb155,1,none⟩=some (.slice A0_1 l0_1.length c0_1):=(δl BK155.out 1).trans rfl
          have hfz42_0:=δm BK155.out 0
          have hfz42_1:=δm BK155.out 1
          have p157:0≤(x3_2:Int):=of_decide_eq_true (by (with_reducible assumption))
          have q157:x3_2<(l0_1.length:Int):=of_decide_eq_true (by (with_reducible assumption))
          obtain ⟨ad157,e157,hx157_0,hx157_1⟩:=at_T39 HR0_1.out x3_2 p157 q157
          cases e157
          replace hx157_0:=(HB.out.cell (World.block_lt_of_cell? w _ hx157_0)).trans hx157_0
          replace hx157_1:=(HB.out.cell (World.block_lt_of_cell? w _ hx157_1)).trans hx157_1
          replace p157:=eq_true p157
          replace q157:=eq_true q157
          try go_wp2_with (((with_reducible refine δx (N:=4) rfl ?_);(try (refine gate_guard (by rfl) ?_;dsimp only));refine bev 4 #[.int .i64 0,.string (⟨#[]⟩:ByteArray)] 39 ?_;intro gb158 hg w43 hbox hb;have BK158:=ζa (hbox);have GW158:=ζa (gbw hg (by exact HB.out));have GE158:=ζa (gbw hg (by exact HB.out));replace HB:=ζa (δr (by exact HB.out) hb);have NB155_158:=ζa ((by rw [hg];exact Nat.ne_of_lt (blk_lt (g:=gb155) (o:=.cells #[.string a0_0,.slice (some ad157) l0_1.length c0_1] 25 (0,0)) (by exact BK155.out)):gb155≠gb158));have NB158_155:=ζa ((by rw [hg];exact Nat.ne_of_gt (blk_lt (g:=gb155) (o:=.cells #[.string a0_0,.slice (some ad157) l0_1.length c0_1] 25 (0,0)) (by exact BK155.out)):gb158≠gb155));replace BK155:=ζa (blk_below (g:=gb155) (o:=.cells #[.string a0_0,.slice (some ad157) l0_1.length c0_1] 25 (0,0)) (by exact BK155.out) hb);clear hb hbox hg;have hnb44:=NB158_155.out;have hnc44:=NB155_158.out;have hcz45_0:w43.cell? ⟨gb158,0,none⟩=some (.int .i64 0):=(δl BK158.out 0).trans rfl;have hcz45_1:w43.cell? ⟨gb158,1,none⟩=some (.string (⟨#[]⟩:ByteArray)):=(δl BK158.out 1).trans rfl;have hfz45_0:=δm BK158.out 0;have hfz45_1:=δm BK158.out 1))
          have n0_:Aside0 (((w43.setCell ⟨gb158,0,none⟩ (.int .i64 ((rd_T39 l0_1 x3_2).f0))).setCell ⟨gb158,1,none⟩ (.string ((rd_T39 l0_1 x3_2).f1))).heap[gb155]? = some (.cells #[.string a0_0,.slice (some ad157) l0_1.length c0_1] 25 (0,0))):=⟨by refine blk_far ?_ NB155_158.out _;refine blk_far ?_ NB155_158.out _;exact BK155.out⟩
          have n1_:Aside0 (((w43.setCell ⟨gb158,0,none⟩ (.int .i64 ((rd_T39 l0_1 x3_2).f0))).setCell ⟨gb158,1,none⟩ (.string ((rd_T39 l0_1 x3_2).f1))).heap[gb158]? = some (.cells #[.int .i64 ((rd_T39 l0_1 x3_2).f0),.string ((rd_T39 l0_1 x3_2).f1)] 39 (0,0))):=⟨by refine δw (cs:=#[.int .i64 ((rd_T39 l0_1 x3_2).f0),.string (⟨#[]⟩:ByteArray)]) ?_ 1 _ rfl;refine δw (cs:=#[.int .i64 0,.string (⟨#[]⟩:ByteArray)]) ?_ 0 _ rfl;exact BK158.out⟩
          have n2_:Aside0 (Below w.heap.size w ((w43.setCell ⟨gb158,0,none⟩ (.int .i64 ((rd_T39 l0_1 x3_2).f0))).setCell ⟨gb158,1,none⟩ (.string ((rd_T39 l0_1 x3_2).f1)))):=⟨by repeat ((with_reducible first|exact HB.out|refine δq ?_ GE158.out))⟩
          (try clear BK155)
          (try clear BK158)
          (try clear HB)
          generalize ((w43.setCell ⟨gb158,0,none⟩ (.int .i64 ((rd_T39 l0_1 x3_2).f0))).setCell ⟨gb158,1,none⟩ (.string ((rd_T39 l0_1 x3_2).f1)))=w46 at n0_ n1_ n2_ ⊢
          have BK155:=n0_
          have BK158:=n1_
          have HB:=n2_
          clear n0_ n1_ n2_
          replace BK155:=ζa (δp BK155.out)
          replace BK158:=ζa (δp BK158.out)
          replace HB:=ζa (δj HB.out)
          refine sta 26 (fun w'=>w'.cell? ⟨gb158,0,none⟩=some (.int .i64 ((rd_T39 l0_1 x3_2).f0))∧w'.cell? ⟨gb158,1,none⟩=some (.string ((rd_T39 l0_1 x3_2).f1))) [] spec_ClientOK.tab7 spec_ClientOK.bits7 ⟨(δl BK158.out 0).trans rfl,(δl BK158.out 1).trans rfl⟩ (fun hHeld HT_ HW_ => ?_)
          generalize w46.drew=w47 at BK155 BK158 HB hHeld ⊢
          refine pu 0 39 ?_
          refine ta 1 40 ?_
          refine on 2 41 (fun K hK => ?_)
          refine gs Try.func65 #[.int .i64 ((rd_T39 l0_1 x3_2).f0),.int .i64 0,.int .i64 1000000000] ?_
          with_reducible refine (spec_l01In.calls ((rd_T39 l0_1 x3_2).f0) 0 1000000000 τ _ A16.out).mono ?_
          rintro e w' ⟨rfl,⟨nd,rfl⟩⟩
          refine ⟨_,rfl,?_⟩
          refine hK.out _ _ ⟨(δl BK158.out 0).trans rfl,(δl BK158.out 1).trans rfl⟩ (fun hHeld => ?_)
          clear hK K
          refine nm 41 ?_
          refine pu 3 42 ?_
          refine pu 4 43 ?_
          refine pu 5 44 ?_
          refine ta 6 45 ?_
          refine pu 7 46 ?_
          refine pu 8 47 ?_
          refine pu 9 48 ?_
          refine pu 10 49 ?_
          refine ζk (i:=11) (N:=some 50) (v:=undef) (a':=?_) #[τ,τ,τ,τ,τ,τ,τ,τ,τ,τ,τ,τ,φ,φ,φ,φ,φ,φ,φ,φ,φ,φ,φ,φ,φ,φ] rfl rfl (ζj HT_.out (by kernel_rfl)) (fun _ _ _ h=>h) (Or.inr ⟨by rfl,rfl⟩) ?_ ?_
          rotate_left
          · simp only [ζl,δa,δb,δc,i64_w,i32_w];rfl
          refine ζk (i:=12) (N:=some 51) (v:=undef) (a':=?_) #[τ,τ,τ,τ,τ,τ,τ,τ,τ,τ,τ,τ,τ,φ,φ,φ,φ,φ,φ,φ,φ,φ,φ,φ,φ,φ] rfl rfl (ζj HT_.out (by kernel_rfl)) (fun _ _ _ h=>h) (Or.inr ⟨by rfl,rfl⟩) ?_ ?_
          rotate_left
          · simp only [ζl,δa,δb,δc,i64_w,i32_w];rfl
          refine ζk (i:=13) (N:=some 52) (v:=undef) (a':=?_) #[τ,τ,τ,τ,τ,τ,τ,τ,τ,τ,τ,τ,τ,τ,φ,φ,φ,φ,φ,φ,φ,φ,φ,φ,φ,φ] rfl rfl (ζj HT_.out (by kernel_rfl)) (fun _ _ _ h=>h) (Or.inr ⟨by rfl,rfl⟩) ?_ ?_
          rotate_left
          · simp only [ζl,δa,δb,δc,i64_w,i32_w];rfl
          refine ζk (i:=14) (N:=some 53) (v:=undef) (a':=?_) #[τ,τ,τ,τ,τ,τ,τ,τ,τ,τ,τ,τ,τ,τ,τ,φ,φ,φ,φ,φ,φ,φ,φ,φ,φ,φ] rfl rfl (ζj HT_.out (by kernel_rfl)) (fun _ _ _ h=>h) (Or.inr ⟨by rfl,rfl⟩) ?_ ?_
          rotate_left
          · simp only [ζl,δa,δb,δc,i64_w,i32_w];rfl
          refine ζk (i:=15) (N:=some 54) (v:=undef) (a':=?_) #[τ,τ,τ,τ,τ,τ,τ,τ,τ,τ,τ,τ,τ,τ,τ,τ,φ,φ,φ,φ,φ,φ,φ,φ,φ,φ] rfl rfl (ζj HT_.out (by kernel_rfl)) (fun _ _ _ h=>h) (Or.inr ⟨by rfl,rfl⟩) ?_ ?_
          rotate_left
          · simp only [ζl,δa,δb,δc,i64_w,i32_w];rfl
          refine ζk (i:=16) (N:=some 55) (v:=undef) (a':=?_) #[τ,τ,τ,τ,τ,τ,τ,τ,τ,τ,τ,τ,τ,τ,τ,τ,τ,φ,φ,φ,φ,φ,φ,φ,φ,φ] rfl rfl (ζj HT_.out (by kernel_rfl)) (fun _ _ _ h=>h) (Or.inr ⟨by rfl,rfl⟩) ?_ ?_
          rotate_left
          · simp only [ζl,δa,δb,δc,i64_w,i32_w];rfl
          refine ζk (i:=17) (N:=some 56) (v:=undef) (a':=?_) #[τ,τ,τ,τ,τ,τ,τ,τ,τ,τ,τ,τ,τ,τ,τ,τ,τ,τ,φ,φ,φ,φ,φ,φ,φ,φ] rfl rfl (ζj HT_.out (by kernel_rfl)) (fun _ _ _ h=>h) (Or.inr ⟨by rfl,rfl⟩) ?_ ?_
          rotate_left
          · simp only [ζl,δa,δb,δc,i64_w,i32_w];rfl
          refine ζk (i:=18) (N:=some 57) (v:=undef) (a':=?_) #[τ,τ,τ,τ,τ,τ,τ,τ,τ,τ,τ,τ,τ,τ,τ,τ,τ,τ,τ,φ,φ,φ,φ,φ,φ,φ] rfl rfl (ζj HT_.out (by kernel_rfl)) (fun _ _ _ h=>h) (Or.inr ⟨by rfl,rfl⟩) ?_ ?_
          rotate_left
          · simp only [ζl,δa,δb,δc,i64_w,i32_w];rfl
          refine ζk (i:=19) (N:=some 58) (v:=undef) (a':=?_) #[τ,τ,τ,τ,τ,τ,τ,τ,τ,τ,τ,τ,τ,τ,τ,τ,τ,τ,τ,τ,φ,φ,φ,φ,φ,φ] rfl rfl (ζj HT_.out (by kernel_rfl)) (fun _ _ _ h=>h) (Or.inr ⟨by rfl,rfl⟩) ?_ ?_
          rotate_left
          · simp only [ζl,δa,δb,δc,i64_w,i32_w];rfl
          refine ζk (i:=20) (N:=some 59) (v:=undef) (a':=?_) #[τ,τ,τ,τ,τ,τ,τ,τ,τ,τ,τ,τ,τ,τ,τ,τ,τ,τ,τ,τ,τ,φ,φ,φ,φ,φ] rfl rfl (ζj HT_.out (by kernel_rfl)) (fun _ _ _ h=>h) (Or.inr ⟨by rfl,rfl⟩) ?_ ?_
          rotate_left
          · simp only [ζl,δa,δb,δc,i64_w,i32_w];rfl
          refine ζk (i:=21) (N:=some 60) (v:=undef) (a':=?_) #[τ,τ,τ,τ,τ,τ,τ,τ,τ,τ,τ,τ,τ,τ,τ,τ,τ,τ,τ,τ,τ,τ,φ,φ,φ,φ] rfl rfl (ζj HT_.out (by kernel_rfl)) (fun _ _ _ h=>h) (Or.inr ⟨by rfl,rfl⟩) ?_ ?_
          rotate_left
          · simp only [ζl,δa,δb,δc,i64_w,i32_w];rfl
          refine ζk (i:=22) (N:=some 61) (v:=undef) (a':=?_) #[τ,τ,τ,τ,τ,τ,τ,τ,τ,τ,τ,τ,τ,τ,τ,τ,τ,τ,τ,τ,τ,τ,τ,φ,φ,φ] rfl rfl (ζj HT_.out (by kernel_rfl)) (fun _ _ _ h=>h) (Or.inr ⟨by rfl,rfl⟩) ?_ ?_
          rotate_left
          · simp only [ζl,δa,δb,δc,i64_w,i32_w];rfl
          refine ζk (i:=23) (N:=some 62) (v:=undef) (a':=?_) #[τ,τ,τ,τ,τ,τ,τ,τ,τ,τ,τ,τ,τ,τ,τ,τ,τ,τ,τ,τ,τ,τ,τ,τ,φ,φ] rfl rfl (ζj HT_.out (by kernel_rfl)) (fun _ _ _ h=>h) (Or.inr ⟨by rfl,rfl⟩) ?_ ?_
          rotate_left
          · simp only [ζl,δa,δb,δc,i64_w,i32_w];rfl
          refine ζk (i:=24) (N:=some 63) (v:=undef) (a':=?_) #[τ,τ,τ,τ,τ,τ,τ,τ,τ,τ,τ,τ,τ,τ,τ,τ,τ,τ,τ,τ,τ,τ,τ,τ,τ,φ] rfl rfl (ζj HT_.out (by kernel_rfl)) (fun _ _ _ h=>h) (Or.inr ⟨by rfl,rfl⟩) ?_ ?_
          rotate_left
          · simp only [ζl,δa,δb,δc,i64_w,i32_w];rfl
          refine pu 25 64 ?_
          refine done_ (done_of HT_.out (by kernel_rfl)) ?_
          try go_wp2
          go_ret
          exact ⟨by rfl,by repeat ((with_reducible first|exact HB.out|apply δi))⟩
        ·
         replace c17:=Bool.eq_false_iff.mpr c17
         subst c17
         rw [ifF] at H
         obtain rfl:=Option.some.inj H
         have hcz48_0:wr.cell? ⟨gb155,0,none⟩=some (.string a0_0):=(δl BK155.out 0).trans rfl
         have hcz48_1:wr.cell? ⟨gb155,1,none⟩=some (.slice A0_1 l0_1.length c0_1):=(δl BK155.out 1).trans rfl
         have hfz48_0:=δm BK155.out 0
         have hfz48_1:=δm BK155.out 1
         have p157:0≤(x3_2:Int):=of_decide_eq_true (by (with_reducible assumption))
         have q157:x3_2<(l0_1.length:Int):=of_decide_eq_true (by (with_reducible assumption))
         obtain ⟨ad157,e157,hx157_0,hx157_1⟩:=at_T39 HR0_1.out x3_2 p157 q157
         cases e157
         replace hx157_0:=(HB.out.cell (World.block_lt_of_cell? w _ hx157_0)).trans hx157_0
         replace hx157_1:=(HB.out.cell (World.block_lt_of_cell? w _ hx157_1)).trans hx157_1
         replace p157:=eq_true p157
         replace q157:=eq_true q157
         try go_wp2_with (((with_reducible refine δx (N:=4) rfl ?_);(try (refine gate_guard (by rfl) ?_;dsimp only));refine bev 4 #[.int .i64 0,.string (⟨#[]⟩:ByteArray)] 39 ?_;intro gb158 hg w49 hbox hb;have BK158:=ζa (hbox);have GW158:=ζa (gbw hg (by exact HB.out));have GE158:=ζa (gbw hg (by exact HB.out));replace HB:=ζa (δr (by exact HB.out) hb);have NB155_158:=ζa ((by rw [hg];exact Nat.ne_of_lt (blk_lt (g:=gb155) (o:=.cells #[.string a0_0,.slice (some ad157) l0_1.length c0_1] 25 (0,0)) (by exact BK155.out)):gb155≠gb158));have NB158_155:=ζa ((by rw [hg];exact Nat.ne_of_gt (blk_lt (g:=gb155) (o:=.cells #[.string a0_0,.slice (some ad157) l0_1.length c0_1] 25 (0,0)) (by exact BK155.out)):gb158≠gb155));replace BK155:=ζa (blk_below (g:=gb155) (o:=.cells #[.string a0_0,.slice (some ad157) l0_1.length c0_1] 25 (0,0)) (by exact BK155.out) hb);clear hb hbox hg;have hnb50:=NB158_155.out;have hnc50:=NB155_158.out;have hcz51_0:w49.cell? ⟨gb158,0,none⟩=some (.int .i64 0):=(δl BK158.out 0).trans rfl;have hcz51_1:w49.cell? ⟨gb158,1,none⟩=some (.string (⟨#[]⟩:ByteArray)):=(δl BK158.out 1).trans rfl;have hfz51_0:=δm BK158.out 0;have hfz51_1:=δm BK158.out 1))
         have n0_:Aside0 (((w49.setCell ⟨gb158,0,none⟩ (.int .i64 ((rd_T39 l0_1 x3_2).f0))).setCell ⟨gb158,1,none⟩ (.string ((rd_T39 l0_1 x3_2).f1))).heap[gb155]? = some (.cells #[.string a0_0,.slice (some ad157) l0_1.length c0_1] 25 (0,0))):=⟨by refine blk_far ?_ NB155_158.out _;refine blk_far ?_ NB155_158.out _;exact BK155.out⟩
         have n1_:Aside0 (((w49.setCell ⟨gb158,0,none⟩ (.int .i64 ((rd_T39 l0_1 x3_2).f0))).setCell ⟨gb158,1,none⟩ (.string ((rd_T39 l0_1 x3_2).f1))).heap[gb158]? = some (.cells #[.int .i64 ((rd_T39 l0_1 x3_2).f0),.string ((rd_T39 l0_1 x3_2).f1)] 39 (0,0))):=⟨by refine δw (cs:=#[.int .i64 ((rd_T39 l0_1 x3_2).f0),.string (⟨#[]⟩:ByteArray)]) ?_ 1 _ rfl;refine δw (cs:=#[.int .i64 0,.string (⟨#[]⟩:ByteArray)]) ?_ 0 _ rfl;exact BK158.out⟩
         have n2_:Aside0 (Below w.heap.size w ((w49.setCell ⟨gb158,0,none⟩ (.int .i64 ((rd_T39 l0_1 x3_2).f0))).setCell ⟨gb158,1,none⟩ (.string ((rd_T39 l0_1 x3_2).f1)))):=⟨by repeat ((with_reducible first|exact HB.out|refine δq ?_ GE158.out))⟩
         (try clear BK155)
         (try clear BK158)
         (try clear HB)
         generalize ((w49.setCell ⟨gb158,0,none⟩ (.int .i64 ((rd_T39 l0_1 x3_2).f0))).setCell ⟨gb158,1,none⟩ (.string ((rd_T39 l0_1 x3_2).f1)))=w52 at n0_ n1_ n2_ ⊢
         have BK155:=n0_
         have BK158:=n1_
         have HB:=n2_
         clear n0_ n1_ n2_
         replace BK155:=ζa (δp BK155.out)
         replace BK158:=ζa (δp BK158.out)
         replace HB:=ζa (δj HB.out)
         refine sta 26 (fun w'=>w'.cell? ⟨gb158,0,none⟩=some (.int .i64 ((rd_T39 l0_1 x3_2).f0))∧w'.cell? ⟨gb158,1,none⟩=some (.string ((rd_T39 l0_1 x3_2).f1))) [] spec_ClientOK.tab7 spec_ClientOK.bits7 ⟨(δl BK158.out 0).trans rfl,(δl BK158.out 1).trans rfl⟩ (fun hHeld HT_ HW_ => ?_)
         generalize w52.drew=w53 at BK155 BK158 HB hHeld ⊢
         refine pu 0 39 ?_
         refine ta 1 40 ?_
         refine on 2 41 (fun K hK => ?_)
         refine gs Try.func65 #[.int .i64 ((rd_T39 l0_1 x3_2).f0),.int .i64 0,.int .i64 1000000000] ?_
         with_reducible refine (spec_l01In.calls ((rd_T39 l0_1 x3_2).f0) 0 1000000000 φ _ A16.out).mono ?_
         rintro e w' ⟨rfl,⟨nd,rfl⟩⟩
         refine ⟨_,rfl,?_⟩
         refine hK.out _ _ ⟨(δl BK158.out 0).trans rfl,(δl BK158.out 1).trans rfl⟩ (fun hHeld => ?_)
         clear hK K
         refine nm 41 ?_
         refine pu 3 42 ?_
         refine pu 4 43 ?_
         refine ζk (i:=5) (N:=some 44) (v:=undef) (a':=?_) #[τ,τ,τ,τ,τ,τ,φ,φ,φ,φ,φ,φ,φ,φ,φ,φ,φ,φ,φ,φ,φ,φ,φ,φ,φ,φ] rfl rfl (ζj HT_.out (by kernel_rfl)) (fun _ _ _ h=>h) (Or.inr ⟨by rfl,rfl⟩) ?_ ?_
         rotate_left
         · simp only [ζl,δa,δb,δc,i64_w,i32_w];rfl
         refine ζk (i:=6) (N:=some 45) (v:=undef) (a':=?_) #[τ,τ,τ,τ,τ,τ,τ,φ,φ,φ,φ,φ,φ,φ,φ,φ,φ,φ,φ,φ,φ,φ,φ,φ,φ,φ] rfl rfl (ζj HT_.out (by kernel_rfl)) (fun _ _ _ h=>h) (Or.inr ⟨by rfl,rfl⟩) ?_ ?_
         rotate_left
         · simp only [ζl,δa,δb,δc,i64_w,i32_w];rfl
         refine ζk (i:=7) (N:=some 46) (v:=undef) (a':=?_) #[τ,τ,τ,τ,τ,τ,τ,τ,φ,φ,φ,φ,φ,φ,φ,φ,φ,φ,φ,φ,φ,φ,φ,φ,φ,φ] rfl rfl (ζj HT_.out (by kernel_rfl)) (fun _ _ _ h=>h) (Or.inr ⟨by rfl,rfl⟩) ?_ ?_
         rotate_left
         · simp only [ζl,δa,δb,δc,i64_w,i32_w];rfl
         refine ζk (i:=8) (N:=some 47) (v:=undef) (a':=?_) #[τ,τ,τ,τ,τ,τ,τ,τ,τ,φ,φ,φ,φ,φ,φ,φ,φ,φ,φ,φ,φ,φ,φ,φ,φ,φ] rfl rfl (ζj HT_.out (by kernel_rfl)) (fun _ _ _ h=>h) (Or.inr ⟨by rfl,rfl⟩) ?_ ?_
         rotate_left
         · simp only [ζl,δa,δb,δc,i64_w,i32_w];rfl
         refine pu 9 48 ?_
         refine pu 10 49 ?_
         refine ζk (i:=11) (N:=some 50) (v:=undef) (a':=?_) #[τ,τ,τ,τ,τ,τ,τ,τ,τ,τ,τ,τ,φ,φ,φ,φ,φ,φ,φ,φ,φ,φ,φ,φ,φ,φ] rfl rfl (ζj HT_.out (by kernel_rfl)) (fun _ _ _ h=>h) (Or.inr ⟨by rfl,rfl⟩) ?_ ?_
         rotate_left
         · simp only [ζl,δa,δb,δc,i64_w,i32_w];rfl
         refine ζk (i:=12) (N:=some 51) (v:=undef) (a':=?_) #[τ,τ,τ,τ,τ,τ,τ,τ,τ,τ,τ,τ,τ,φ,φ,φ,φ,φ,φ,φ,φ,φ,φ,φ,φ,φ] rfl rfl (ζj HT_.out (by kernel_rfl)) (fun _ _ _ h=>h) (Or.inr ⟨by rfl,rfl⟩) ?_ ?_
         rotate_left
         · simp only [ζl,δa,δb,δc,i64_w,i32_w];rfl
         refine ζk (i:=13) (N:=some 52) (v:=undef) (a':=?_) #[τ,τ,τ,τ,τ,τ,τ,τ,τ,τ,τ,τ,τ,τ,φ,φ,φ,φ,φ,φ,φ,φ,φ,φ,φ,φ] rfl rfl (ζj HT_.out (by kernel_rfl)) (fun _ _ _ h=>h) (Or.inr ⟨by rfl,rfl⟩) ?_ ?_
         rotate_left
         · simp only [ζl,δa,δb,δc,i64_w,i32_w];rfl
         refine ζk (i:=14) (N:=some 53) (v:=undef) (a':=?_) #[τ,τ,τ,τ,τ,τ,τ,τ,τ,τ,τ,τ,τ,τ,τ,φ,φ,φ,φ,φ,φ,φ,φ,φ,φ,φ] rfl rfl (ζj HT_.out (by kernel_rfl)) (fun _ _ _ h=>h) (Or.inr ⟨by rfl,rfl⟩) ?_ ?_
         rotate_left
         · simp only [ζl,δa,δb,δc,i64_w,i32_w];rfl
         refine ζk (i:=15) (N:=some 54) (v:=undef) (a':=?_) #[τ,τ,τ,τ,τ,τ,τ,τ,τ,τ,τ,τ,τ,τ,τ,τ,φ,φ,φ,φ,φ,φ,φ,φ,φ,φ] rfl rfl (ζj HT_.out (by kernel_rfl)) (fun _ _ _ h=>h) (Or.inr ⟨by rfl,rfl⟩) ?_ ?_
         rotate_left
         · simp only [ζl,δa,δb,δc,i64_w,i32_w];rfl
         refine ζk (i:=16) (N:=some 55) (v:=undef) (a':=?_) #[τ,τ,τ,τ,τ,τ,τ,τ,τ,τ,τ,τ,τ,τ,τ,τ,τ,φ,φ,φ,φ,φ,φ,φ,φ,φ] rfl rfl (ζj HT_.out (by kernel_rfl)) (fun _ _ _ h=>h) (Or.inr ⟨by rfl,rfl⟩) ?_ ?_
         rotate_left
         · simp only [ζl,δa,δb,δc,i64_w,i32_w];rfl
         refine ζk (i:=17) (N:=some 56) (v:=undef) (a':=?_) #[τ,τ,τ,τ,τ,τ,τ,τ,τ,τ,τ,τ,τ,τ,τ,τ,τ,τ,φ,φ,φ,φ,φ,φ,φ,φ] rfl rfl (ζj HT_.out (by kernel_rfl)) (fun _ _ _ h=>h) (Or.inr ⟨by rfl,rfl⟩) ?_ ?_
         rotate_left
         · simp only [ζl,δa,δb,δc,i64_w,i32_w];rfl
         refine ζk (i:=18) (N:=some 57) (v:=undef) (a':=?_) #[τ,τ,τ,τ,τ,τ,τ,τ,τ,τ,τ,τ,τ,τ,τ,τ,τ,τ,τ,φ,φ,φ,φ,φ,φ,φ] rfl rfl (ζj HT_.out (by kernel_rfl)) (fun _ _ _ h=>h) (Or.inr ⟨by rfl,rfl⟩) ?_ ?_
         rotate_left
         · simp only [ζl,δa,δb,δc,i64_w,i32_w];rfl
         refine ζk (i:=19) (N:=some 58) (v:=undef) (a':=?_) #[τ,τ,τ,τ,τ,τ,τ,τ,τ,τ,τ,τ,τ,τ,τ,τ,τ,τ,τ,τ,φ,φ,φ,φ,φ,φ] rfl rfl (ζj HT_.out (by kernel_rfl)) (fun _ _ _ h=>h) (Or.inr ⟨by rfl,rfl⟩) ?_ ?_
         rotate_left
         · simp only [ζl,δa,δb,δc,i64_w,i32_w];rfl
         refine ζk (i:=20) (N:=some 59) (v:=undef) (a':=?_) #[τ,τ,τ,τ,τ,τ,τ,τ,τ,τ,τ,τ,τ,τ,τ,τ,τ,τ,τ,τ,τ,φ,φ,φ,φ,φ] rfl rfl (ζj HT_.out (by kernel_rfl)) (fun _ _ _ h=>h) (Or.inr ⟨by rfl,rfl⟩) ?_ ?_
         rotate_left
         · simp only [ζl,δa,δb,δc,i64_w,i32_w];rfl
         refine ζk (i:=21) (N:=some 60) (v:=undef) (a':=?_) #[τ,τ,τ,τ,τ,τ,τ,τ,τ,τ,τ,τ,τ,τ,τ,τ,τ,τ,τ,τ,τ,τ,φ,φ,φ,φ] rfl rfl (ζj HT_.out (by kernel_rfl)) (fun _ _ _ h=>h) (Or.inr ⟨by rfl,rfl⟩) ?_ ?_
         rotate_left
         · simp only [ζl,δa,δb,δc,i64_w,i32_w];rfl
         refine ζk (i:=22) (N:=some 61) (v:=undef) (a':=?_) #[τ,τ,τ,τ,τ,τ,τ,τ,τ,τ,τ,τ,τ,τ,τ,τ,τ,τ,τ,τ,τ,τ,τ,φ,φ,φ] rfl rfl (ζj HT_.out (by kernel_rfl)) (fun _ _ _ h=>h) (Or.inr ⟨by rfl,rfl⟩) ?_ ?_
         rotate_left
         · simp only [ζl,δa,δb,δc,i64_w,i32_w];rfl
         refine ζk (i:=23) (N:=some 62) (v:=undef) (a':=?_) #[τ,τ,τ,τ,τ,τ,τ,τ,τ,τ,τ,τ,τ,τ,τ,τ,τ,τ,τ,τ,τ,τ,τ,τ,φ,φ] rfl rfl (ζj HT_.out (by kernel_rfl)) (fun _ _ _ h=>h) (Or.inr ⟨by rfl,rfl⟩) ?_ ?_
         rotate_left
         · simp only [ζl,δa,δb,δc,i64_w,i32_w];rfl
         refine ζk (i:=24) (N:=some 63) (v:=undef) (a':=?_) #[τ,τ,τ,τ,τ,τ,τ,τ,τ,τ,τ,τ,τ,τ,τ,τ,τ,τ,τ,τ,τ,τ,τ,τ,τ,φ] rfl rfl (ζj HT_.out (by kernel_rfl)) (fun _ _ _ h=>h) (Or.inr ⟨by rfl,rfl⟩) ?_ ?_
         rotate_left
         · simp only [ζl,δa,δb,δc,i64_w,i32_w];rfl
         refine pu 25 64 ?_
         refine done_ (done_of HT_.out (by kernel_rfl)) ?_
         try go_wp2
         go_ret
         exact ⟨by rfl,by repeat ((with_reducible first|exact HB.out|apply δi))⟩
       ·
        rw [if_neg c15] at H
        exact absurd H (by simp)
      ·
       rw [if_neg c14] at H
       have c14b0:=decide_eq_false c14
       clear c14
       obtain rfl:=Option.some.inj H
       have hcz54_0:wr.cell? ⟨gb155,0,none⟩=some (.string a0_0):=(δl BK155.out 0).trans rfl
       have hcz54_1:wr.cell? ⟨gb155,1,none⟩=some (.slice A0_1 l0_1.length c0_1):=(δl BK155.out 1).trans rfl
       have hfz54_0:=δm BK155.out 0
       have hfz54_1:=δm BK155.out 1
       go_wp2
       go_ret
       exact ⟨by rfl,by repeat ((with_reducible exact HB.out))⟩


open Go.Proofs.YtggemblkhckbpaaW.PrintWords renaming gate_dst → δx, blk_cell → δl, blk_drew → δp, below_drew1 → δj
open Go.Proofs.YtggemblkhckbpaaW.PrintWords.Kd renaming R_drew → ζe, R_ne → ζf
set_option maxHeartbeats 8000000
set_option maxRecDepth 100000


/-! ### spec_l06Bytes: function 38 -/
def spec_l06Bytes.v (a0_0 a0_1:Int) (a0_2 a0_3:ByteArray):List Int:=[IntKind.u8.wrap a0_0,IntKind.u8.wrap (a0_1 / 16777216),IntKind.u8.wrap (a0_1 / 65536),IntKind.u8.wrap (a0_1 / 256),IntKind.u8.wrap a0_1] ++ bytesOf a0_2 ++ bytesOf a0_3
def spec_l06Bytes.f (a0_0 a0_1:Int) (a0_2 a0_3:ByteArray):Option (List Int):=if a0_2.size≤1000000∧a0_3.size≤1000000 then some (spec_l06Bytes.v a0_0 a0_1 a0_2 a0_3) else none
def spec_l06Bytes.T2:Bool × List (List Nat × List Nat):=(τ,[([],[]),([],[]),([1],[1]),([0,2],[0,2]),([],[]),([4],[4]),([3,5,3],[3,5]),([6,6,0,1,2,3,4,5,6],[6])])
def spec_l06Bytes.B2:List Nat:=[0,0,2,7,0,16,63,127]
theorem spec_l06Bytes.tab2:rtab .any (opsOf Try.f38 2)=spec_l06Bytes.T2:=by kernel_rfl
theorem spec_l06Bytes.bits2:waitsOk spec_l06Bytes.T2.2 spec_l06Bytes.B2=τ:=by kernel_rfl
theorem spec_l06Bytes.calls (a0_0 a0_1:Int) (a0_2 a0_3:ByteArray) (r:List Int) (w:World) (h:spec_l06Bytes.f a0_0 a0_1 a0_2 a0_3=some r) :
  Calls Try.prog 38 #[.agg #[.int .i64 a0_0,.int .i64 a0_1,.string a0_2,.string a0_3]] w fun e w' => ∃ v0_:Value,e = .returned v0_∧Kd.R (Kd.int .u8) 5 w' w.heap.size (fun _=>True) v0_ r∧Below w.heap.size w w':=by
 unfold spec_l06Bytes.f at h
 split at h
 rotate_left
 · cases h
 rename_i hc
 have HL:=ζa hc
 clear hc
 obtain rfl:=Option.some.inj h
 clear h
 have HB:=ζa (Below.refl w.heap.size w)
 go_enter Try.func38,Try.ntmps38
 go_wp2_with (first
  | ((with_reducible refine δx (N:=1) rfl ?_);refine bx w 1 #[.int .i64 a0_0,.int .i64 a0_1,.string a0_2,.string a0_3] 28 (fun gb w1 BK GE HB hb => ?_);have hz0:=(δl BK.out 0).trans rfl;have hz1:=(δl BK.out 1).trans rfl)
  | ((with_reducible refine δx (N:=22) rfl ?_);refine li8 w 22 [IntKind.u8.wrap a0_0,IntKind.u8.wrap (a0_1 / 16777216),IntKind.u8.wrap (a0_1 / 65536),IntKind.u8.wrap (a0_1 / 256),IntKind.u8.wrap a0_1] (fun v22 w2 HO HB hb => ?_);replace BK:=ζa (blk_below BK.out hb);clear hb hz0 hz1))
 replace BK:=ζa (δp BK.out)
 replace HO:=ζa (ζe HO.out)
 replace HB:=ζa (δj HB.out)
 refine sta 8 (fun w'=>w'.cell? ⟨gb,2,none⟩=some (.string a0_2)∧w'.cell? ⟨gb,3,none⟩=some (.string a0_3)) [] spec_l06Bytes.tab2 spec_l06Bytes.bits2 ⟨(δl BK.out 2).trans rfl,(δl BK.out 3).trans rfl⟩ (fun hHeld HT_ HW_ => ?_)
 generalize w2.drew=w3 at BK HO HB hHeld ⊢
 refine pu 0 23 ?_
 refine pu 1 24 ?_
 refine pu 4 27 ?_
 refine ta 2 25 ?_
 refine ta 5 28 ?_
 refine on 3 26 (fun K hK => ?_)
 refine str_step (w0:=w) (by rfl) (.tmp 23) (.tmp 25) 22 9 5 rfl Try.underlying22 Try.underlying9 info5 v22 _ a0_2 rfl rfl HO.out HB.out (by have:=HL.out;simp;omega) ?_
 intro v26 w4 ho hb hg
 replace BK:=ζa (blk_grown BK.out hg (ζf HO.out BK.out (by decide)))
 clear HO HB
 have HO:=ζa ho
 have HB:=ζa hb
 clear ho hb hg
 refine hK.out _ _ ⟨(δl BK.out 2).trans rfl,(δl BK.out 3).trans rfl⟩ (fun hHeld=>nm 26 ?_)
 clear hK K
 refine on 6 29 (fun K hK => ?_)
 refine str_step (w0:=w) (by rfl) (.tmp 26) (.tmp 28) 22 9 5 rfl Try.underlying22 Try.underlying9 info5 v26 _ a0_3 rfl rfl HO.out HB.out (by have:=HL.out;simp [bytesOf_length];omega) ?_
 intro v29 w5 ho hb hg
 replace BK:=ζa (blk_grown BK.out hg (ζf HO.out BK.out (by decide)))
 clear HO HB
 have HO:=ζa ho
 have HB:=ζa hb
 clear ho hb hg
 refine hK.out _ _ ⟨(δl BK.out 2).trans rfl,(δl BK.out 3).trans rfl⟩ (fun hHeld=>nm 29 ?_)
 clear hK K
 refine pu 7 2 ?_
 refine done_ (done_of HT_.out (by kernel_rfl)) ?_
 go_wp2
 go_ret
 exact ⟨_,rfl,HO.out,HB.out⟩


open Go.Proofs.YtggemblkhckbpaaW.PrintWords renaming gate_dst → δx, blk_cell → δl, below_step → δr
set_option maxHeartbeats 8000000
set_option maxRecDepth 100000


/-! ### spec_l06Hash: function 36 -/
def spec_l06Hash.f (a0_0 a0_1:Int) (a0_2 a0_3:ByteArray):Option ByteArray:=(spec_l06Bytes.f a0_0 a0_1 a0_2 a0_3).bind fun b=>spec_l01Hash.f ([104,101,97,100,101,114] ++ b)
theorem spec_l06Hash.calls (a0_0 a0_1:Int) (a0_2 a0_3:ByteArray) (r:ByteArray) (w:World) (h:spec_l06Hash.f a0_0 a0_1 a0_2 a0_3=some r) :
  Calls Try.prog 36 #[.agg #[.int .i64 a0_0,.int .i64 a0_1,.string a0_2,.string a0_3]] w fun e w'=>e = .returned (.string r)∧Below w.heap.size w w':=by
 obtain ⟨b,h1,h2⟩:=Option.bind_eq_some_iff.mp h
 have L:0<b.length∧b.length≤2000005:=by
  unfold spec_l06Bytes.f at h1
  split at h1
  ·
   rename_i hc
   obtain rfl:=Option.some.inj h1
   simp [spec_l06Bytes.v,bytesOf_length]
   omega
  · cases h1
 have H1:=ζa h1
 have H2:=ζa h2
 have HL:=ζa L
 clear h h1 h2 L
 have HB:=ζa (Below.refl w.heap.size w)
 go_enter Try.func36,Try.ntmps36
 go_wp2_with (first
  | ((with_reducible refine δx (N:=1) rfl ?_);refine bx w 1 #[.int .i64 a0_0,.int .i64 a0_1,.string a0_2,.string a0_3] 28 ?_;intro gb w1 BK GE HB hb;clear hb)
  | ((with_reducible refine δx (N:=4) rfl ?_);refine cv8 w 4 (.tmp 3) 22 5 _ 6 6 Try.underlying22 Try.underlying5 ?_;intro w2 BC HB hb;replace BK:=ζa (blk_below BK.out hb);clear hb;have hz0:=(δl BK.out 0).trans rfl;have hz1:=(δl BK.out 1).trans rfl;have hz2:=(δl BK.out 2).trans rfl;have hz3:=(δl BK.out 3).trans rfl)
  | (go_at_call 38;refine (spec_l06Bytes.calls a0_0 a0_1 a0_2 a0_3 b _ H1.out).mono ?_;rintro e w3 ⟨v6,rfl,ho,hb⟩;replace BC:=ζa (blk_below BC.out hb);have ho':=Kd.R_lower ho HB.out.size;obtain ⟨A6,c6,rfl,hl6,hq6⟩:=Kd.R_reads ho';have HB':=ζa (δr HB.out hb);have HQ:=ζa hq6;clear HB ho ho' hb hl6 hq6 hz0 hz1 hz2 hz3;have HB:=HB')
  | ((with_reducible refine δx (N:=7) rfl ?_);refine ap8 w 7 (.tmp 4) (.tmp 6) 22 5 (some ⟨w1.heap.size,0,none⟩) A6 c6 [104,101,97,100,101,114] b Try.underlying22 info5 (C_bytes [104,101,97,100,101,114] (by simp) BC.out) HQ.out (by simp) HL.out.1 (by have:=HL.out;simp;omega) ?_;intro v7 w4 HO HB hb;obtain ⟨A7,c7,rfl,hl7,hq7⟩:=Kd.R_reads HO.out;have HC7:=ζa hl7;have HQ7:=ζa hq7;clear hl7 hq7 hb))
 refine (spec_l01Hash.calls A7 c7 ([104,101,97,100,101,114] ++ b) r _ HQ7.out HC7.out H2.out).mono ?_
 rintro e w5 ⟨rfl,hb⟩
 go_wp2
 go_ret
 exact ⟨rfl,δr HB.out hb⟩

end Go.Proofs.Ytggemblkhckbpaa.Q
