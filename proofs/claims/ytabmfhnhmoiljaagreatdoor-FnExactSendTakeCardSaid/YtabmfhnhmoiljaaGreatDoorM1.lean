/- Parts of the proof: what single Go functions compute, each with its walk, and plain laws over these. -/
import Derived.Test.YtabmfhnhmoiljaaGreatDoorM0
namespace Go.Proofs.YtabmfhnhmoiljaaGreatDoor.Q
open Go.RowKit Go.Proofs.YtabmfhnhmoiljaaGreatDoorW.PrintWords Go.Proofs.YtabmfhnhmoiljaaGreatDoorW.PrintLast Go.Proofs.YtabmfhnhmoiljaaGreatDoorW.PrintMore
open Go.RowKit renaming wrap64 → ζm
open List renaming map_toArray → δd, map_cons → δe, map_nil → δf, setIfInBounds_toArray → δa, set_cons_zero → δb, set_cons_succ → δc
open Go.Proofs.YtabmfhnhmoiljaaGreatDoorW.PrintWords.Aside0 renaming mk → ζa
open Go.Proofs.YtabmfhnhmoiljaaGreatDoorW.PrintWords renaming gate_dst → δx, below_step → δr, below_drew1 → δj
open Go.Proofs.YtabmfhnhmoiljaaGreatDoorW.PrintWords.Kd renaming R_drew → ζe, R_below → ζh
open Go.Proofs.YtabmfhnhmoiljaaGreatDoorW.PrintLast renaming pure_ → ζk
open Go.Act renaming put → ζl
open Bool renaming true → τ, false → φ
attribute [local go_sem] max2_int min2_int max_two min_two max_three min_three max_four min_four   -- for this text's walks alone
set_option linter.unusedVariables false
set_option linter.unusedSimpArgs false

/-! ### spec_l02Fields: function 136 -/
def spec_l02Fields.l0:Nat→List ByteArray→List Int→Int→Option (List Int)
 | 0,_,_,_=>none
 | k+1,l,out,i=>if i<(l.length:Int) then (if 0≤i then (if out.length+2+(rdOf ByteArray.empty l i).size≤140737488355328 then spec_l02Fields.l0 k l (out ++ [((rdOf ByteArray.empty l i).size:Int) / 256 % 256,((rdOf ByteArray.empty l i).size:Int) % 256] ++ bytesOf (rdOf ByteArray.empty l i)) (ζm (i+1)) else none) else none) else some out
def spec_l02Fields.f (k:Nat) (l0:List ByteArray):Option (List Int):=spec_l02Fields.l0 k l0 [(l0.length:Int) % 256] 0
theorem spec_l02Fields.str_step {P:Program} {ops:Array Oper} {o:Oper} {a:Act} {Q:Exit→Act→World→Prop} {Kc:Act→World→Prop} {w0 W:World} (base:Nat)
  (hw:Region.wanted o (yielded ops a.tmps)=τ) (s x:Operand) (t u e:TypeId)
  (ho:o.op = .call { callee:=.builtin .append,args:=#[s,x],argTypes:=#[t,u] })
  (ht:P.underlying t=some (.slice e)) (hu:P.underlying u=some .string) (hinfo:(P.info? e).map (fun i=>(i.zero,i.size,i.bytes))=some (some (.int .u8 0),1,1))
  (v:Value) (xs:List Int) (y:ByteArray) (hs:a.eval s=v) (hx:a.eval x = .string y)
  (HO:W.ownsRow base e 1 v xs.length (nums .u8 xs)) (HB:Below base w0 W) (hbase:base≤W.heap.size) (hl:xs.length+y.size≤140737488355328)
  (h : ∀ v1 w1,w1.ownsRow base e 1 v1 (xs ++ bytesOf y).length (nums .u8 (xs ++ bytesOf y))→Below base w0 w1→W.grownBy w1 v.ownBlock→Kc (a.put o.dst v1) w1) :
  if Region.wanted o (yielded ops a.tmps)=τ then Oper.wp P o a W Kc Q else Kc (a.put o.dst undef) W:=by
 rw [if_pos hw]
 obtain ⟨i0,hi,hzz⟩:=Option.map_eq_some_iff.1 hinfo
 simp only [Prod.mk.injEq] at hzz
 obtain ⟨hz0,hz1,hz2⟩:=hzz
 obtain ⟨v1,w1,hr,h2,h3,h4⟩:=Lib.run_append_own_string (P:=P) (w:=W) base t u o.type e i0 ht hu hi hz0 hz1 hz2 v xs.length (nums .u8 xs) HO y (by simp only [maxLen];omega) hl hbase
 have hl2:(xs ++ bytesOf y).length=xs.length+y.size:=by rw [List.length_append,bytesOf_length]
 have hc:nums .u8 (xs ++ bytesOf y)=nums .u8 xs ++ Lib.strCells y:=by
  rw [nums_append]
  congr 1
  simp [nums,bytesOf,Lib.strCells]
 unfold Oper.wp execOp
 simp only [ho,resolve,invoke,builtin,Sem.run_bind,Sem.run_pure,Result.andThen_ok,δd,δe,δf,hs,hx,hr]
 exact h v1 w1 (by rw [hl2,hc];exact h2) (HB.grown h3 hbase (own_base HO)) h3
set_option maxHeartbeats 8000000 in
set_option maxRecDepth 100000 in
theorem spec_l02Fields.calls (k:Nat) (A0:Option Addr) (c0:Nat) (l0:List ByteArray) (r:List Int) (w:World) (hr0:Kd.C Kd.string w A0 l0.length l0) (hc0:l0.length≤c0) (h:spec_l02Fields.f k l0=some r) :
  Calls Tryz.prog 136 #[.slice A0 l0.length c0] w fun e w' => ∃ v0_:Value,e = .returned (v0_)∧Kd.R (Kd.int .u8) 5 w' w.heap.size (fun _=>True) v0_ r∧Below w.heap.size w w':=by
 have HR0:=ζa hr0
 clear hr0 hc0
 have HB:=ζa (Below.refl w.heap.size w)
 have H':=ζa (show spec_l02Fields.l0 k l0 [(l0.length:Int) % 256] 0=some r from h)
 clear h
 go_enter Tryz.func136,Tryz.ntmps136
 go_wp2_with (first|((with_reducible refine δx (N:=8) rfl ?_);refine Kd.R_lit (Kd.int .u8) _ 5 ?hg (N:=8) ?hd (xs:=([(l0.length:Int) % 256]:List Int)) (inner:=[.int .u8 ((l0.length:Int) % 256)]) (ok:=fun _=>True) (okp:=fun _=>True) ?hr ?hp (fun _ hk=>hk) trivial (Below.refl _ _) (Nat.le_refl _) (by simp) ?_;(case hd=>rfl);(case hg=>rfl);(case hr=>first|(go_simp;done)|(go_simp;rfl));(case hp=>exact (Reps.one (show Kd.M (Kd.int .u8) _ _ _ ((l0.length:Int) % 256) [.int .u8 ((l0.length:Int) % 256)] from rfl) (Reps.none _ _)));intro v8 w8 ho8 hb8 hg_ hnew_;clear hg_ hnew_;have HO:=ζa ho8;have n1_:=ζa (δr HB.out hb8);clear HB;have HB:=n1_;clear n1_ hb8 ho8))
 go_loopg [3,4] k (fun kq v3 v4 w' => ∃ (out:List Int) (i:Int),v4 = .int .i64 i∧Aside0 (spec_l02Fields.l0 kq l0 out i=some r)∧Aside0 (kq≤k)∧Aside0 (Kd.R (Kd.int .u8) 5 w' w.heap.size (fun _=>True) v3 out)∧Aside0 (Below w.heap.size w w'))
 case atStart=>exact ⟨_,0,rfl,H',⟨Nat.le_refl _⟩,HO,HB⟩
 case round =>
  clear H' HO HB
  obtain ⟨out,i,rfl,HA,HK1,HO,HB⟩:=hrel
  cases gk with
  | zero=>exact absurd HA.out (by simp [spec_l02Fields.l0])
  | succ k1 =>
   have H:=HA.out
   clear HA
   simp only [spec_l02Fields.l0] at H
   by_cases c2:i<(l0.length:Int)
   ·
    rw [if_pos c2] at H
    by_cases c3:0≤i
    ·
     rw [if_pos c3] at H
     by_cases c4:out.length+2+(rdOf ByteArray.empty l0 i).size≤140737488355328
     ·
      rw [if_pos c4] at H
      have HN:=ζa H
      clear H
      obtain ⟨ad,e1,hx0⟩:=Kd.at_string HR0.out i c3 c2
      cases e1
      have hxw:=hx0
      replace hx0:=(HB.out.cell (World.block_lt_of_cell? w _ hx0)).trans hx0
      have c2b0:decide (i<(l0.length:Int))=τ:=decide_eq_true c2
      generalize ht:rdOf ByteArray.empty l0 i=t at *
      go_wp2
      have c3b:decide (0≤i)=τ:=decide_eq_true c3
      have HB1:=ζa (δj HB.out)
      have HO1:=ζa (ζe HO.out)
      clear HB HO
      refine start_ (n:=22) (S:=fun w'=>w'.cell? (ad.add i.toNat)=some (.string t)) (ds:=[]) #[φ,φ,φ,φ,φ,φ,φ,φ,φ,φ,φ,φ,φ,φ,φ,φ,φ,φ,φ,φ,φ,φ] (by kernel_rfl) rfl rfl (show wr.drew.cell? (ad.add i.toNat)=some (.string t) from hx0) (fun hHeld => ?_)
      generalize wr.drew=w13 at HB1 HO1 hHeld ⊢
      refine ζk (i:=0) (N:=some 15) (v:=?_) (a':=?_) #[τ,φ,φ,φ,φ,φ,φ,φ,φ,φ,φ,φ,φ,φ,φ,φ,φ,φ,φ,φ,φ,φ] rfl rfl (by kernel_rfl) (fun _ _ _ h=>h) (Or.inl ⟨by rfl,?_⟩) ?_ ?_
      rotate_left
      · intro w';go_simp;with_reducible rfl
      rotate_left
      · simp only [ζl,δa,δb,δc,i64_w,i32_w];rfl
      refine ζk (i:=1) (N:=some 16) (v:=?_) (a':=?_) #[τ,τ,φ,φ,φ,φ,φ,φ,φ,φ,φ,φ,φ,φ,φ,φ,φ,φ,φ,φ,φ,φ] rfl rfl (by kernel_rfl) (fun _ _ _ h=>h) (Or.inl ⟨by rfl,?_⟩) ?_ ?_
      rotate_left
      · intro w';go_simp;with_reducible rfl
      rotate_left
      · simp only [ζl,δa,δb,δc,i64_w,i32_w];rfl
      refine ζk (i:=2) (N:=some 17) (v:=?_) (a':=?_) #[τ,τ,τ,φ,φ,φ,φ,φ,φ,φ,φ,φ,φ,φ,φ,φ,φ,φ,φ,φ,φ,φ] rfl rfl (by kernel_rfl) (fun _ _ _ h=>h) (Or.inl ⟨by rfl,?_⟩) ?_ ?_
      rotate_left
      · intro w';go_simp;with_reducible rfl
      rotate_left
      · simp only [ζl,δa,δb,δc,i64_w,i32_w];rfl
      refine ζk (i:=3) (N:=some 18) (v:=?_) (a':=?_) #[τ,τ,τ,τ,φ,φ,φ,φ,φ,φ,φ,φ,φ,φ,φ,φ,φ,φ,φ,φ,φ,φ] rfl rfl (by kernel_rfl) (fun _ _ _ h=>h) (Or.inl ⟨by rfl,?_⟩) ?_ ?_
      rotate_left
      · intro w';go_simp;with_reducible rfl
      rotate_left
      · simp only [ζl,δa,δb,δc,i64_w,i32_w];rfl
      refine take_ (i:=4) (N:=some 19) (v:=?_) (a':=?_) #[τ,τ,τ,τ,τ,φ,φ,φ,φ,φ,φ,φ,φ,φ,φ,φ,φ,φ,φ,φ,φ,φ] rfl rfl (by kernel_rfl) (fun _ _ _ h=>h) (Or.inl ⟨by rfl,?_⟩) hHeld ?_ ?_
      rotate_left
      ·
       intro w' s0
       go_simp
       with_reducible rfl
      rotate_left
      · simp only [ζl,δa,δb,δc,i64_w,i32_w];rfl
      refine ζk (i:=5) (N:=some 20) (v:=?_) (a':=?_) #[τ,τ,τ,τ,τ,τ,φ,φ,φ,φ,φ,φ,φ,φ,φ,φ,φ,φ,φ,φ,φ,φ] rfl rfl (by kernel_rfl) (fun _ _ _ h=>h) (Or.inl ⟨by rfl,?_⟩) ?_ ?_
      rotate_left
      · intro w';go_simp;with_reducible rfl
      rotate_left
      · simp only [ζl,δa,δb,δc,i64_w,i32_w];rfl
      refine ζk (i:=6) (N:=some 21) (v:=?_) (a':=?_) #[τ,τ,τ,τ,τ,τ,τ,φ,φ,φ,φ,φ,φ,φ,φ,φ,φ,φ,φ,φ,φ,φ] rfl rfl (by kernel_rfl) (fun _ _ _ h=>h) (Or.inl ⟨by rfl,?_⟩) ?_ ?_
      rotate_left
      · intro w';go_simp;with_reducible rfl
      rotate_left
      · simp only [ζl,δa,δb,δc,i64_w,i32_w];rfl
      refine ζk (i:=7) (N:=some 22) (v:=?_) (a':=?_) #[τ,τ,τ,τ,τ,τ,τ,τ,φ,φ,φ,φ,φ,φ,φ,φ,φ,φ,φ,φ,φ,φ] rfl rfl (by kernel_rfl) (fun _ _ _ h=>h) (Or.inl ⟨by rfl,?_⟩) ?_ ?_
      rotate_left
      · intro w';go_simp;with_reducible rfl
      rotate_left
      · simp only [ζl,δa,δb,δc,i64_w,i32_w];rfl
      refine ζk (i:=8) (N:=some 23) (v:=?_) (a':=?_) #[τ,τ,τ,τ,τ,τ,τ,τ,τ,φ,φ,φ,φ,φ,φ,φ,φ,φ,φ,φ,φ,φ] rfl rfl (by kernel_rfl) (fun _ _ _ h=>h) (Or.inl ⟨by rfl,?_⟩) ?_ ?_
      rotate_left
      · intro w';go_simp;with_reducible rfl
      rotate_left
      · simp only [ζl,δa,δb,δc,i64_w,i32_w];rfl
      refine ζk (i:=9) (N:=some 24) (v:=?_) (a':=?_) #[τ,τ,τ,τ,τ,τ,τ,τ,τ,τ,φ,φ,φ,φ,φ,φ,φ,φ,φ,φ,φ,φ] rfl rfl (by kernel_rfl) (fun _ _ _ h=>h) (Or.inl ⟨by rfl,?_⟩) ?_ ?_
      rotate_left
      · intro w';go_simp;with_reducible rfl
      rotate_left
      · simp only [ζl,δa,δb,δc,i64_w,i32_w];rfl
      refine ζk (i:=10) (N:=some 25) (v:=?_) (a':=?_) #[τ,τ,τ,τ,τ,τ,τ,τ,τ,τ,τ,φ,φ,φ,φ,φ,φ,φ,φ,φ,φ,φ] rfl rfl (by kernel_rfl) (fun _ _ _ h=>h) (Or.inl ⟨by rfl,?_⟩) ?_ ?_
      rotate_left
      · intro w';go_simp;with_reducible rfl
      rotate_left
      · simp only [ζl,δa,δb,δc,i64_w,i32_w];rfl
      refine take_ (i:=11) (N:=some 26) (v:=?_) (a':=?_) #[τ,τ,τ,τ,τ,τ,τ,τ,τ,τ,τ,τ,φ,φ,φ,φ,φ,φ,φ,φ,φ,φ] rfl rfl (by kernel_rfl) (fun _ _ _ h=>h) (Or.inl ⟨by rfl,?_⟩) hHeld ?_ ?_
      rotate_left
      ·
       intro w' s0
       go_simp
       with_reducible rfl
      rotate_left
      · simp only [ζl,δa,δb,δc,i64_w,i32_w];rfl
      refine ζk (i:=12) (N:=some 27) (v:=?_) (a':=?_) #[τ,τ,τ,τ,τ,τ,τ,τ,τ,τ,τ,τ,τ,φ,φ,φ,φ,φ,φ,φ,φ,φ] rfl rfl (by kernel_rfl) (fun _ _ _ h=>h) (Or.inl ⟨by rfl,?_⟩) ?_ ?_
      rotate_left
      · intro w';go_simp;with_reducible rfl
      rotate_left
      · simp only [ζl,δa,δb,δc,i64_w,i32_w];rfl
      refine ζk (i:=13) (N:=some 28) (v:=?_) (a':=?_) #[τ,τ,τ,τ,τ,τ,τ,τ,τ,τ,τ,τ,τ,τ,φ,φ,φ,φ,φ,φ,φ,φ] rfl rfl (by kernel_rfl) (fun _ _ _ h=>h) (Or.inl ⟨by rfl,?_⟩) ?_ ?_
      rotate_left
      · intro w';go_simp;with_reducible rfl
      rotate_left
      · simp only [ζl,δa,δb,δc,i64_w,i32_w];rfl
      refine ζk (i:=16) (N:=some 31) (v:=?_) (a':=?_) #[τ,τ,τ,τ,τ,τ,τ,τ,τ,τ,τ,τ,τ,τ,φ,φ,τ,φ,φ,φ,φ,φ] rfl rfl (by kernel_rfl) (fun _ _ _ h=>h) (Or.inl ⟨by rfl,?_⟩) ?_ ?_
      rotate_left
      · intro w';go_simp;with_reducible rfl
      rotate_left
      · simp only [ζl,δa,δb,δc,i64_w,i32_w];rfl
      refine ζk (i:=17) (N:=some 32) (v:=?_) (a':=?_) #[τ,τ,τ,τ,τ,τ,τ,τ,τ,τ,τ,τ,τ,τ,φ,φ,τ,τ,φ,φ,φ,φ] rfl rfl (by kernel_rfl) (fun _ _ _ h=>h) (Or.inl ⟨by rfl,?_⟩) ?_ ?_
      rotate_left
      · intro w';go_simp;with_reducible rfl
      rotate_left
      · simp only [ζl,δa,δb,δc,i64_w,i32_w];rfl
      refine ζk (i:=18) (N:=some 33) (v:=?_) (a':=?_) #[τ,τ,τ,τ,τ,τ,τ,τ,τ,τ,τ,τ,τ,τ,φ,φ,τ,τ,τ,φ,φ,φ] rfl rfl (by kernel_rfl) (fun _ _ _ h=>h) (Or.inl ⟨by rfl,?_⟩) ?_ ?_
      rotate_left
      · intro w';go_simp;with_reducible rfl
      rotate_left
      · simp only [ζl,δa,δb,δc,i64_w,i32_w];rfl
      refine take_ (i:=19) (N:=some 34) (v:=?_) (a':=?_) #[τ,τ,τ,τ,τ,τ,τ,τ,τ,τ,τ,τ,τ,τ,φ,φ,τ,τ,τ,τ,φ,φ] rfl rfl (by kernel_rfl) (fun _ _ _ h=>h) (Or.inl ⟨by rfl,?_⟩) hHeld ?_ ?_
      rotate_left
      ·
       intro w' s0
       go_simp
       with_reducible rfl
      rotate_left
      · simp only [ζl,δa,δb,δc,i64_w,i32_w];rfl
      have e1:IntKind.u8.wrap (ζm ((t.size:Int) / 256))=(t.size:Int) / 256 % 256:=by rw [IntWalk.wrap64_in _ (by omega)];simp [IntKind.wrap,IntKind.bits,IntKind.signed]
      have e2:IntKind.u8.wrap (t.size:Int)=(t.size:Int) % 256:=by simp [IntKind.wrap,IntKind.bits,IntKind.signed]
      rw [e1,e2]
      generalize (t.size:Int) / 256 % 256=pa at *
      generalize (t.size:Int) % 256=pb at *
      refine one_ (i:=14) (N:=some 29) #[τ,τ,τ,τ,τ,τ,τ,τ,τ,τ,τ,τ,τ,τ,τ,φ,τ,τ,τ,τ,φ,φ] rfl rfl (by kernel_rfl) (by decide) (fun K hK => ?_)
      refine Kd.R_lit_step (Kd.int .u8) _ 5 ?hg (N:=29) ?hd (xs:=([pa,pb]:List Int)) (inner:=[.int .u8 pa,.int .u8 pb]) (ok:=fun _=>True) (okp:=fun _=>False) ?hr ?hp (fun _ hk=>trivial) trivial (Below.refl _ _) (Nat.le_refl _) (by simp) ?_
      case hd=>rfl
      case hg=>rfl
      case hr=>first|(go_simp;done)|(go_simp;rfl)
      case hp=>exact Reps.one (show Kd.M (Kd.int .u8) _ _ _ pa [.int .u8 pa] from rfl) (Reps.one (show Kd.M (Kd.int .u8) _ _ _ pb [.int .u8 pb] from rfl) (Reps.none _ _))
      intro v29 w29 ho29 hb29 hg29 _
      obtain ⟨A2,c29,rfl,_,HR2⟩:=Kd.R_reads ho29
      have HO2:=ζa (ζh HO1.out hb29)
      have HB2:=ζa (δr HB1.out hb29)
      have hs2:w29.cell? (ad.add i.toNat)=some (.string t):=(hb29.cell (World.block_lt_of_cell? w13 _ hHeld)).trans hHeld
      clear HO1 HB1 hHeld hg29
      refine hK.out _ _ hs2 (fun hHeld => ?_)
      clear hK K hs2
      refine norm_ (a':=?_) ?_ ?_
      rotate_left
      ·
       show ζl _ (some 29) _=_
       simp only [ζl,δa,δb,δc,i64_w,i32_w];rfl
      refine one_ (i:=15) (N:=some 30) #[τ,τ,τ,τ,τ,τ,τ,τ,τ,τ,τ,τ,τ,τ,τ,τ,τ,τ,τ,τ,φ,φ] rfl rfl (by kernel_rfl) (by decide) (fun K hK => ?_)
      refine Kd.R_append_rows_step (Kd.int .u8) (w0:=w) w.heap.size (by rfl) (.tmp 15) (.tmp 29) 82 5 (.int .u8 0) 1 rfl Tryz.underlying82 (by kernel_rfl) rfl (by decide) (by decide) u3 out [pa,pb] A2 2 c29 (fun _=>True) (fun _=>False) rfl rfl HO2.out HR2 (fun _ _ h=>h) (fun _ h=>h.elim) (fun _ _=>trivial) HB2.out HB2.out.size (by omega) ?_
      intro v30 w30 ho30 hb30 hg30 _
      have hs3:w30.cell? (ad.add i.toNat)=some (.string t):=(hb30.cell (World.block_lt_of_cell? w _ hxw)).trans hxw
      clear HO2 HB2 hHeld HR2
      refine hK.out _ _ hs3 (fun hHeld => ?_)
      clear hK K hs3
      refine norm_ (a':=?_) ?_ ?_
      rotate_left
      ·
       show ζl _ (some 30) _=_
       simp only [ζl,δa,δb,δc,i64_w,i32_w];rfl
      refine one_ (i:=20) (N:=some 35) #[τ,τ,τ,τ,τ,τ,τ,τ,τ,τ,τ,τ,τ,τ,τ,τ,τ,τ,τ,τ,τ,φ] rfl rfl (by kernel_rfl) (by decide) (fun K hK => ?_)
      have hl3:(out ++ [pa,pb]).length+t.size≤140737488355328:=by rw [List.length_append];exact c4
      refine spec_l02Fields.str_step (w0:=w) w.heap.size (by rfl) (.tmp 30) (.tmp 34) 82 9 5 rfl Tryz.underlying82 Tryz.underlying9 (by kernel_rfl) v30 (out ++ [pa,pb]) t rfl rfl (Kd.own_of_R ho30) hb30 hb30.size hl3 ?_
      intro v35 w35 ho35 hb35 hg35
      have hs4:w35.cell? (ad.add i.toNat)=some (.string t):=(hb35.cell (World.block_lt_of_cell? w _ hxw)).trans hxw
      clear ho30 hb30 hHeld hg35
      refine hK.out _ _ hs4 (fun hHeld => ?_)
      clear hK K hs4
      refine norm_ (a':=?_) ?_ ?_
      rotate_left
      ·
       show ζl _ (some 35) _=_
       simp only [ζl,δa,δb,δc,i64_w,i32_w];rfl
      refine ζk (i:=21) (N:=some 3) (v:=?_) (a':=?_) #[τ,τ,τ,τ,τ,τ,τ,τ,τ,τ,τ,τ,τ,τ,τ,τ,τ,τ,τ,τ,τ,τ] rfl rfl (by kernel_rfl) (fun _ _ _ h=>h) (Or.inl ⟨by rfl,?_⟩) ?_ ?_
      rotate_left
      · intro w';go_simp;with_reducible rfl
      rotate_left
      · simp only [ζl,δa,δb,δc,i64_w,i32_w];rfl
      refine done_ (by kernel_rfl) ?_
      try go_wp2
      go_roundg k1
      case measure=>omega
      case rel=>exact ⟨_,_,rfl,HN,⟨by have:=HK1.out;omega⟩,⟨Kd.R_of_own ho35 (fun _ _=>trivial)⟩,⟨hb35⟩⟩
     · rw [if_neg c4] at H;cases H
    ·
     rw [if_neg c3] at H;cases H
   ·
    rw [if_neg c2] at H
    have c2b0:decide (i<(l0.length:Int))=φ:=decide_eq_false c2
    clear c2
    obtain rfl:=Option.some.inj H
    go_wp2
    go_ret
    exact ⟨_,rfl,HO.out,HB.out⟩


open Go.Proofs.YtabmfhnhmoiljaaGreatDoorW.PrintWords renaming gate_callee → δv, below_step → δr, below_alloc → δk, pw_below_drewN → δi, below_drew1 → δj, gate_dst → δx, below_size → δs
open List renaming map_toArray → δd, map_cons → δe, map_nil → δf, length_drop → δg, length_take → δh
open Go.Proofs.YtabmfhnhmoiljaaGreatDoorW.PrintWords.Kd renaming R_reads' → ζg, R_below → ζh, R_alloc → ζd, R_drewN → ζc, R_drew → ζe

/-! ### spec_l09Data: function 79 -/
def spec_l09Data.f (k:Nat) (a0:ByteArray) (a1:ByteArray) (a2:ByteArray) (a3:Int):Option (ByteArray):=(spec_l00Digits.f k a3).bind fun t135=>((spec_l02Fields.f k (([(⟨#[107]⟩:ByteArray),a0,a1,a2,t135]:List ByteArray))).bind fun t139=>(some (strOfNums t139)))
set_option maxHeartbeats 8000000 in
set_option maxRecDepth 100000 in
theorem spec_l09Data.calls (k:Nat) (a0:ByteArray) (a1:ByteArray) (a2:ByteArray) (a3:Int) (r:ByteArray) (w:World) (h:spec_l09Data.f k a0 a1 a2 a3=some r) :
  Calls Tryz.prog 79 #[.string a0,.string a1,.string a2,.int .i64 a3] w fun e w'=>e = .returned (.string r)∧Below w.heap.size w w':=by
 have HB:=ζa (Below.refl w.heap.size w)
 have H:((spec_l00Digits.f k a3).bind fun t135=>((spec_l02Fields.f k (([(⟨#[107]⟩:ByteArray),a0,a1,a2,t135]:List ByteArray))).bind fun t139=>(some (strOfNums t139))))=some r:=h
 clear h
 replace H:=Option.bind_eq_some_iff.mp H
 obtain ⟨t135,A50,H⟩:=H
 replace H:((spec_l02Fields.f k (([(⟨#[107]⟩:ByteArray),a0,a1,a2,t135]:List ByteArray))).bind fun t139=>(some (strOfNums t139)))=some r:=H
 have A5:=ζa A50
 clear A50
 obtain ⟨y136,hy136⟩ : ∃ y_:List ByteArray,y_=(([(⟨#[107]⟩:ByteArray),a0,a1,a2,t135]:List ByteArray)):=⟨_,rfl⟩
 replace H:((spec_l02Fields.f k y136).bind fun t139=>(some (strOfNums t139)))=some r:=by first|(rw [hy136];with_reducible exact H)|(have H2_:=(Option.bind_some _ _).symm.trans H;rw [hy136];with_reducible exact H2_)|(have H2_:=(Option.bind_some _ _).symm.trans H;with_reducible exact H2_)|with_reducible exact H|(rw [hy136];exact H)|exact H
 have Ny136:=ζa hy136
 clear hy136
 replace H:=Option.bind_eq_some_iff.mp H
 obtain ⟨t139,A60,H⟩:=H
 replace H:(some (strOfNums t139))=some r:=H
 have A6:=ζa A60
 clear A60
 obtain rfl:=Option.some.inj H
 go_enter Tryz.func79,Tryz.ntmps79
 go_wp2_with (first|((with_reducible refine δv (f:=137) rfl ?_);refine goesL_ (some 13) rfl rfl Tryz.func137 (by kernel_rfl) rfl #[.int .i64 a3] rfl (by (try simp only [δd,δe,δf]);first|done|rfl|(simp only [δg,δh];rfl)) ?_;(with_reducible refine (spec_l00Digits.calls k a3 t135 _ A5.out).mono ?_);rintro e w7 ⟨rfl,hb⟩;refine ⟨_,rfl,?_⟩;have n0_:=ζa (δr (by repeat (first|(with_reducible first|exact HB.out|apply δk|apply δi|apply δj)|exact HB.out)) hb);clear HB;have HB:=n0_;clear n0_;(try clear hb);(try clear hb2);(try clear hk);(try clear hi))|((with_reducible refine δx (N:=14) rfl ?_);refine Kd.R_lit Kd.string _ 9 ?hg (N:=14) ?hd (xs:=([(⟨#[107]⟩:ByteArray),a0,a1,a2,t135]:List ByteArray)) (inner:=[.string (⟨#[107]⟩:ByteArray),.string a0,.string a1,.string a2,.string t135]) (ok:=fun _=>True) (okp:=fun _=>True) ?hr ?hp (fun _ hk=>hk) trivial (Below.refl _ _) (Nat.le_refl _) (by simp) ?_;(case hd=>rfl);(case hg=>rfl);(case hr=>first|(go_simp;done)|(go_simp;rfl));(case hp=>exact (Reps.one (show Kd.M Kd.string _ _ _ (⟨#[107]⟩:ByteArray) [.string (⟨#[107]⟩:ByteArray)] from rfl) (Reps.one (show Kd.M Kd.string _ _ _ a0 [.string a0] from rfl) (Reps.one (show Kd.M Kd.string _ _ _ a1 [.string a1] from rfl) (Reps.one (show Kd.M Kd.string _ _ _ a2 [.string a2] from rfl) (Reps.one (show Kd.M Kd.string _ _ _ t135 [.string t135] from rfl) (Reps.none _ _)))))));intro v137 w8 ho9 hb hg_ hnew_;clear hg_ hnew_;(first|rw [← Ny136.out] at ho9|(simp only [Int.reduceToNat] at ho9;rw [← Ny136.out] at ho9));have n0_:=ζa (Kd.R_lower ho9 (δs (by repeat (first|(with_reducible first|exact HB.out|apply δk|apply δi|apply δj)|exact HB.out))));have n1_:=ζa (δr (by repeat (first|(with_reducible first|exact HB.out|apply δk|apply δi|apply δj)|exact HB.out)) hb);clear HB;have HO138:=n0_;have HB:=n1_;clear n0_ n1_;clear hb ho9;obtain ⟨Ao10,co10,eo10⟩:=Kd.R_slice HO138.out;subst eo10)|((with_reducible refine δv (f:=136) rfl ?_);refine goesL_ (some 15) rfl rfl Tryz.func136 (by kernel_rfl) rfl #[.slice Ao10 y136.length co10] rfl (by (try simp only [δd,δe,δf]);first|done|rfl|(simp only [δg,δh];rfl)) ?_;(with_reducible refine (spec_l02Fields.calls k _ _ y136 t139 _ ?side1 ?side2 A6.out).mono ?_);(case side1=>repeat (first|exact (ζg HO138.out).2.2|(with_reducible refine Kd.C_alloc ?_ _)|(with_reducible refine Kd.C_drewN ?_ _)|(with_reducible refine Kd.C_drew ?_)));(case side2=>exact (ζg HO138.out).2.1);rintro e w11 ⟨v140,rfl,ho0,hb⟩;refine ⟨_,rfl,?_⟩;have n0_:=ζa (ζh (by (with_reducible repeat (first|apply ζd|apply ζc|apply ζe));exact HO138.out) hb);have n1_:=ζa (Kd.R_lower ho0 (δs (by repeat (first|(with_reducible first|exact HB.out|apply δk|apply δi|apply δj)|exact HB.out))));have n2_:=ζa (δr (by repeat (first|(with_reducible first|exact HB.out|apply δk|apply δi|apply δj)|exact HB.out)) hb);clear HO138;clear HB;have HO138:=n0_;have HO141:=n1_;have HB:=n2_;clear n0_ n1_ n2_;(try clear hb);(try clear hb2);(try clear hk);(try clear hi);(try clear ho0);have hcv12:=own_string (P:=Tryz.prog) Tryz.underlying82 Tryz.underlying5 Tryz.underlying9 (Kd.own_of_R HO141.out)))
 go_ret
 exact ⟨by first|rfl|(simp [errW_none,errW_some] <;> rfl)|(simp [*,errW_none,errW_some] <;> rfl),by repeat (first|(with_reducible first|exact HB.out|apply δk|apply δi|apply δj)|exact HB.out)⟩


open Go.Proofs.YtabmfhnhmoiljaaGreatDoorW.PrintWords renaming below_step → δr, below_alloc → δk, below_drew1 → δj, pw_below_drewN → δi

/-! ### spec_l09Send: function 43 -/
def spec_l09Send.f (k:Nat) (name:ByteArray) (list:List S51) (id:ByteArray) (maker:ByteArray) (taker:ByteArray) (pay:Int):Option (List S51 × ByteArray × Int) :=
 (spec_l05Name.f k id).bind fun q1=>if q1=τ then ((spec_l08Name.f k maker).bind fun q2=>if q2=τ then ((spec_l08Name.f k taker).bind fun q3=>if q3=τ then ((spec_l01In.f pay 1 1000000000000000000).bind fun q4=>if q4=τ then ((spec_l05Move.f k list taker ((⟨#[116,97,107,101,115]⟩:ByteArray)) name pay).bind fun q5=>if q5.2=0 then ((spec_l09Data.f k id maker taker pay).bind fun q6=>some (q5.1,q6,0)) else (some (list,(⟨#[]⟩:ByteArray),q5.2))) else (some (list,(⟨#[]⟩:ByteArray),4))) else (some (list,(⟨#[]⟩:ByteArray),4))) else (some (list,(⟨#[]⟩:ByteArray),4))) else (some (list,(⟨#[]⟩:ByteArray),4))
set_option maxHeartbeats 4000000 in
set_option maxRecDepth 100000 in
theorem spec_l09Send.calls (k:Nat) (name:ByteArray) (A_list:Option Addr) (c_list:Nat) (list:List S51) (id:ByteArray) (maker:ByteArray) (taker:ByteArray) (pay:Int) (r1:List S51) (r2:ByteArray) (r3:Int) (w:World) (hr0_list:Kd.C k51 w A_list list.length list) (hc0_list:list.length≤c_list) (h:spec_l09Send.f k name list id maker taker pay=some (r1,r2,r3)) :
  Calls Tryz.prog 43 #[.string name,.slice A_list list.length c_list,.string id,.string maker,.string taker,.int .i64 pay] w fun e w' => ∃ v0_:Value,e = .returned (.tuple #[v0_,.string r2,.int .i64 r3])∧RdRow w' v0_ r1∧Below w.heap.size w w':=by
 have HR0_list:=ζa hr0_list
 have HC0_list:=ζa hc0_list
 clear hr0_list hc0_list
 have HB0:=ζa (Below.refl w.heap.size w)
 unfold spec_l09Send.f at h
 have HH:=ζa h
 clear h
 go_enter Tryz.func43,Tryz.ntmps43
 have h:=HH.out
 clear HH
 obtain ⟨b1,h1_,h⟩:=Option.bind_eq_some_iff.mp h
 have HH:=ζa h
 have H1:=ζa h1_
 clear h h1_
 go_wp2_with fail
 refine (spec_l05Name.calls k id b1 _ H1.out).mono ?_
 rintro e w1 ⟨rfl,hd⟩
 have hb:=hd.below
 clear hd
 have m_:=ζa (δr (by repeat (first|exact HB0.out|apply δk|apply δj|apply δi)) hb)
 clear hb
 have HB1:=m_
 clear m_
 have h:=HH.out
 clear HH
 cases b1 with
 | true =>
  rw [if_pos rfl] at h
  have HH:=ζa h
  clear h
  have h:=HH.out
  clear HH
  obtain ⟨b2,h3_,h⟩:=Option.bind_eq_some_iff.mp h
  have HH:=ζa h
  have H3:=ζa h3_
  clear h h3_
  go_wp2_with fail
  refine (spec_l08Name.calls k maker b2 _ H3.out).mono ?_
  rintro e w3 ⟨rfl,hd⟩
  have hb:=hd.below
  clear hd
  have m_:=ζa (δr (by repeat (first|exact HB1.out|apply δk|apply δj|apply δi)) hb)
  clear hb
  have HB3:=m_
  clear m_
  have h:=HH.out
  clear HH
  cases b2 with
  | true =>
   rw [if_pos rfl] at h
   have HH:=ζa h
   clear h
   have h:=HH.out
   clear HH
   obtain ⟨b3,h5_,h⟩:=Option.bind_eq_some_iff.mp h
   have HH:=ζa h
   have H5:=ζa h5_
   clear h h5_
   go_wp2_with fail
   refine (spec_l08Name.calls k taker b3 _ H5.out).mono ?_
   rintro e w5 ⟨rfl,hd⟩
   have hb:=hd.below
   clear hd
   have m_:=ζa (δr (by repeat (first|exact HB3.out|apply δk|apply δj|apply δi)) hb)
   clear hb
   have HB5:=m_
   clear m_
   have h:=HH.out
   clear HH
   cases b3 with
   | true =>
    rw [if_pos rfl] at h
    have HH:=ζa h
    clear h
    have h:=HH.out
    clear HH
    obtain ⟨b4,h7_,h⟩:=Option.bind_eq_some_iff.mp h
    have HH:=ζa h
    have H7:=ζa h7_
    clear h h7_
    go_wp2_with fail
    refine (spec_l01In.calls pay 1 1000000000000000000 b4 _ H7.out).mono ?_
    rintro e w7 ⟨rfl,hd⟩
    have hb:=hd.below
    clear hd
    have m_:=ζa (δr (by repeat (first|exact HB5.out|apply δk|apply δj|apply δi)) hb)
    clear hb
    have HB7:=m_
    clear m_
    have h:=HH.out
    clear HH
    cases b4 with
    | true =>
     rw [if_pos rfl] at h
     have HH:=ζa h
     clear h
     have h:=HH.out
     clear HH
     obtain ⟨⟨o1,c1⟩,h9_,h⟩:=Option.bind_eq_some_iff.mp h
     have HH:=ζa h
     have H9:=ζa h9_
     clear h h9_
     go_wp2_with fail
     refine (spec_l05Move.calls k A_list c_list list taker ((⟨#[116,97,107,101,115]⟩:ByteArray)) name pay o1 c1 _ (by repeat (first|exact Kd.C_below HR0_list.out HB7.out|apply Kd.C_alloc|apply Kd.C_drew|apply Kd.C_drewN)) HC0_list.out H9.out).mono ?_
     rintro e w9 ⟨v9,rfl,ho,hb⟩
     obtain ⟨adr9,cap9,rfl,hl9,hq9⟩:=ho
     have HC9:=ζa hl9
     have HRn9:=ζa hq9
     clear hl9 hq9
     have m_:=ζa (δr (by repeat (first|exact HB7.out|apply δk|apply δj|apply δi)) hb)
     clear hb
     have HB9:=m_
     clear m_
     have h:=HH.out
     clear HH
     by_cases cc10:c1=0
     ·
      rw [if_pos cc10] at h
      have HH:=ζa h
      clear h
      have f10a:(c1 == 0)=τ:=beq_iff_eq.mpr cc10
      have f10b:(c1 != 0)=φ:=bne_eq_false_iff_eq.mpr cc10
      have C10:=ζa cc10
      clear cc10
      have h:=HH.out
      clear HH
      obtain ⟨d1,h11_,h⟩:=Option.bind_eq_some_iff.mp h
      have HH:=ζa h
      have H11:=ζa h11_
      clear h h11_
      go_wp2_with fail
      refine (spec_l09Data.calls k id maker taker pay d1 _ H11.out).mono ?_
      rintro e w11 ⟨rfl,hb⟩
      have m_:=ζa (Kd.C_below (by repeat (first|exact HRn9.out|apply Kd.C_alloc|apply Kd.C_drew|apply Kd.C_drewN)) hb)
      clear HRn9
      have HRn9:=m_
      clear m_
      have m_:=ζa (δr (by repeat (first|exact HB9.out|apply δk|apply δj|apply δi)) hb)
      clear hb
      have HB11:=m_
      clear m_
      have h:=HH.out
      clear HH
      simp only [Option.some.injEq,Prod.mk.injEq] at h
      obtain ⟨rfl,rfl,rfl⟩:=h
      go_wp2
      go_ret3
      exact ⟨_,rfl,⟨_,_,rfl,HC9.out,by repeat (first|exact HRn9.out|apply Kd.C_alloc|apply Kd.C_drew|apply Kd.C_drewN)⟩,(by repeat (first|exact HB11.out|apply δk|apply δj|apply δi))⟩
     ·
      rw [if_neg cc10] at h
      have HH:=ζa h
      clear h
      have f10a:(c1 == 0)=φ:=beq_eq_false_iff_ne.mpr cc10
      have f10b:(c1 != 0)=τ:=bne_iff_ne.mpr cc10
      have C10:=ζa cc10
      clear cc10
      have h:=HH.out
      clear HH
      simp only [Option.some.injEq,Prod.mk.injEq] at h
      obtain ⟨rfl,rfl,rfl⟩:=h
      go_wp2
      go_ret3
      exact ⟨_,rfl,⟨_,_,rfl,HC0_list.out,by repeat (first|exact Kd.C_below HR0_list.out HB9.out|apply Kd.C_alloc|apply Kd.C_drew|apply Kd.C_drewN)⟩,(by repeat (first|exact HB9.out|apply δk|apply δj|apply δi))⟩
    | false =>
     rw [if_neg (by decide)] at h
     have HH:=ζa h
     clear h
     have h:=HH.out
     clear HH
     simp only [Option.some.injEq,Prod.mk.injEq] at h
     obtain ⟨rfl,rfl,rfl⟩:=h
     go_wp2
     go_ret3
     exact ⟨_,rfl,⟨_,_,rfl,HC0_list.out,by repeat (first|exact Kd.C_below HR0_list.out HB7.out|apply Kd.C_alloc|apply Kd.C_drew|apply Kd.C_drewN)⟩,(by repeat (first|exact HB7.out|apply δk|apply δj|apply δi))⟩
   | false =>
    rw [if_neg (by decide)] at h
    have HH:=ζa h
    clear h
    have h:=HH.out
    clear HH
    simp only [Option.some.injEq,Prod.mk.injEq] at h
    obtain ⟨rfl,rfl,rfl⟩:=h
    go_wp2
    go_ret3
    exact ⟨_,rfl,⟨_,_,rfl,HC0_list.out,by repeat (first|exact Kd.C_below HR0_list.out HB5.out|apply Kd.C_alloc|apply Kd.C_drew|apply Kd.C_drewN)⟩,(by repeat (first|exact HB5.out|apply δk|apply δj|apply δi))⟩
  | false =>
   rw [if_neg (by decide)] at h
   have HH:=ζa h
   clear h
   have h:=HH.out
   clear HH
   simp only [Option.some.injEq,Prod.mk.injEq] at h
   obtain ⟨rfl,rfl,rfl⟩:=h
   go_wp2
   go_ret3
   exact ⟨_,rfl,⟨_,_,rfl,HC0_list.out,by repeat (first|exact Kd.C_below HR0_list.out HB3.out|apply Kd.C_alloc|apply Kd.C_drew|apply Kd.C_drewN)⟩,(by repeat (first|exact HB3.out|apply δk|apply δj|apply δi))⟩
 | false =>
  rw [if_neg (by decide)] at h
  have HH:=ζa h
  clear h
  have h:=HH.out
  clear HH
  simp only [Option.some.injEq,Prod.mk.injEq] at h
  obtain ⟨rfl,rfl,rfl⟩:=h
  go_wp2
  go_ret3
  exact ⟨_,rfl,⟨_,_,rfl,HC0_list.out,by repeat (first|exact Kd.C_below HR0_list.out HB1.out|apply Kd.C_alloc|apply Kd.C_drew|apply Kd.C_drewN)⟩,(by repeat (first|exact HB1.out|apply δk|apply δj|apply δi))⟩


open Go.Proofs.YtabmfhnhmoiljaaGreatDoorW.PrintWords renaming gate_dst → δx, below_alloc → δk, below_drew1 → δj, pw_below_drewN → δi, below_step → δr
open Go.Proofs.YtabmfhnhmoiljaaGreatDoorW.PrintWords.Kd renaming R_alloc → ζd, R_drew → ζe, R_drewN → ζc

/-! ### spec_SendTake: function 15 -/
def spec_SendTake.f (k:Nat) (name:ByteArray) (list:List S51) (id:ByteArray) (maker:ByteArray) (taker:ByteArray) (pay:Int):Option (List S51 × ByteArray × Int) :=
 if (65536:Int)<(name.size:Int) then (some (([]:List S51),(⟨#[]⟩:ByteArray),2)) else (if (4096:Int)<(list.length:Int) then (some (([]:List S51),(⟨#[]⟩:ByteArray),2)) else (if (65536:Int)<(id.size:Int) then (some (([]:List S51),(⟨#[]⟩:ByteArray),2)) else (if (65536:Int)<(maker.size:Int) then (some (([]:List S51),(⟨#[]⟩:ByteArray),2)) else (if (65536:Int)<(taker.size:Int) then (some (([]:List S51),(⟨#[]⟩:ByteArray),2)) else ((spec_l08Code.f k name list).bind fun q1=>if q1=0 then ((spec_l09Send.f k name list id maker taker pay).bind fun q2=>if q2.1.length≤1000000 then (some (q2.1,q2.2.1,q2.2.2)) else (none)) else (some (([]:List S51),(⟨#[]⟩:ByteArray),q1)))))))
set_option maxHeartbeats 4000000 in
set_option maxRecDepth 100000 in
theorem spec_SendTake.calls (k:Nat) (name:ByteArray) (A_list:Option Addr) (c_list:Nat) (list:List S51) (id:ByteArray) (maker:ByteArray) (taker:ByteArray) (pay:Int) (r1:List S51) (r2:ByteArray) (r3:Int) (w:World) (hr0_list:Kd.C k51 w A_list list.length list) (hc0_list:list.length≤c_list) (h:spec_SendTake.f k name list id maker taker pay=some (r1,r2,r3)) :
  Calls Tryz.prog 15 #[.string name,.slice A_list list.length c_list,.string id,.string maker,.string taker,.int .i64 pay] w fun e w' => ∃ v0_:Value,e = .returned (.tuple #[v0_,.string r2,.int .i64 r3])∧Kd.R k51 51 w' w.heap.size (fun _=>True) v0_ r1∧Below w.heap.size w w':=by
 have HR0_list:=ζa hr0_list
 have HC0_list:=ζa hc0_list
 clear hr0_list hc0_list
 have HB0:=ζa (Below.refl w.heap.size w)
 unfold spec_SendTake.f at h
 have HH:=ζa h
 clear h
 go_enter Tryz.func15,Tryz.ntmps15
 have h:=HH.out
 clear HH
 by_cases cc1:(65536:Int)<(name.size:Int)
 ·
  rw [if_pos cc1] at h
  have HH:=ζa h
  clear h
  have f1a:decide ((65536:Int)<(name.size:Int))=τ:=decide_eq_true cc1
  have f1b:decide (65536<name.size)=τ:=decide_eq_true (by omega)
  have C1:=ζa cc1
  clear cc1
  have h:=HH.out
  clear HH
  simp only [Option.some.injEq,Prod.mk.injEq] at h
  obtain ⟨rfl,rfl,rfl⟩:=h
  go_wp2_with (first|((with_reducible refine δx (N:=27) rfl ?_);refine Kd.R_lit k51 w.heap.size 51 ?hg (N:=27) ?hd (w0:=w) (xs:=([]:List S51)) (inner:=[]) (ok:=fun _=>True) (okp:=fun _=>True) ?hr ?hp (fun _ hk=>hk) trivial (by repeat (first|exact Below.refl _ _|apply δk|apply δj|apply δi)) (Below.size (show Below w.heap.size w _ from by repeat (first|exact Below.refl _ _|apply δk|apply δj|apply δi))) (by simp) ?_;(case hd=>rfl);(case hg=>rfl);(case hr=>first|(go_simp;done)|(go_simp;rfl));(case hp=>exact (Reps.none _ _));intro vL wL hoL hbL hg_ hnew_;clear hg_ hnew_;have HOL:=ζa hoL;have HBL:=ζa hbL;clear hoL hbL))
  have HBF:=ζa (δr HB0.out HBL.out)
  go_ret3
  exact ⟨_,rfl,(by have:=Kd.R_lower HOL.out HB0.out.size;repeat (first|exact this|apply ζd|apply ζe|apply ζc)),(by repeat (first|exact HBF.out|apply δk|apply δj|apply δi))⟩
 ·
  rw [if_neg cc1] at h
  have HH:=ζa h
  clear h
  have f1a:decide ((65536:Int)<(name.size:Int))=φ:=decide_eq_false cc1
  have f1b:decide (65536<name.size)=φ:=decide_eq_false (by omega)
  have C1:=ζa cc1
  clear cc1
  have h:=HH.out
  clear HH
  by_cases cc2:(4096:Int)<(list.length:Int)
  ·
   rw [if_pos cc2] at h
   have HH:=ζa h
   clear h
   have f2a:decide ((4096:Int)<(list.length:Int))=τ:=decide_eq_true cc2
   have f2b:decide (4096<list.length)=τ:=decide_eq_true (by omega)
   have C2:=ζa cc2
   clear cc2
   have h:=HH.out
   clear HH
   simp only [Option.some.injEq,Prod.mk.injEq] at h
   obtain ⟨rfl,rfl,rfl⟩:=h
   go_wp2_with (first|((with_reducible refine δx (N:=27) rfl ?_);refine Kd.R_lit k51 w.heap.size 51 ?hg (N:=27) ?hd (w0:=w) (xs:=([]:List S51)) (inner:=[]) (ok:=fun _=>True) (okp:=fun _=>True) ?hr ?hp (fun _ hk=>hk) trivial (by repeat (first|exact Below.refl _ _|apply δk|apply δj|apply δi)) (Below.size (show Below w.heap.size w _ from by repeat (first|exact Below.refl _ _|apply δk|apply δj|apply δi))) (by simp) ?_;(case hd=>rfl);(case hg=>rfl);(case hr=>first|(go_simp;done)|(go_simp;rfl));(case hp=>exact (Reps.none _ _));intro vL wL hoL hbL hg_ hnew_;clear hg_ hnew_;have HOL:=ζa hoL;have HBL:=ζa hbL;clear hoL hbL))
   have HBF:=ζa (δr HB0.out HBL.out)
   go_ret3
   exact ⟨_,rfl,(by have:=Kd.R_lower HOL.out HB0.out.size;repeat (first|exact this|apply ζd|apply ζe|apply ζc)),(by repeat (first|exact HBF.out|apply δk|apply δj|apply δi))⟩
  ·
   rw [if_neg cc2] at h
   have HH:=ζa h
   clear h
   have f2a:decide ((4096:Int)<(list.length:Int))=φ:=decide_eq_false cc2
   have f2b:decide (4096<list.length)=φ:=decide_eq_false (by omega)
   have C2:=ζa cc2
   clear cc2
   have h:=HH.out
   clear HH
   by_cases cc3:(65536:Int)<(id.size:Int)
   ·
    rw [if_pos cc3] at h
    have HH:=ζa h
    clear h
    have f3a:decide ((65536:Int)<(id.size:Int))=τ:=decide_eq_true cc3
    have f3b:decide (65536<id.size)=τ:=decide_eq_true (by omega)
    have C3:=ζa cc3
    clear cc3
    have h:=HH.out
    clear HH
    simp only [Option.some.injEq,Prod.mk.injEq] at h
    obtain ⟨rfl,rfl,rfl⟩:=h
    go_wp2_with (first|((with_reducible refine δx (N:=41) rfl ?_);refine Kd.R_lit k51 w.heap.size 51 ?hg (N:=41) ?hd (w0:=w) (xs:=([]:List S51)) (inner:=[]) (ok:=fun _=>True) (okp:=fun _=>True) ?hr ?hp (fun _ hk=>hk) trivial (by repeat (first|exact Below.refl _ _|apply δk|apply δj|apply δi)) (Below.size (show Below w.heap.size w _ from by repeat (first|exact Below.refl _ _|apply δk|apply δj|apply δi))) (by simp) ?_;(case hd=>rfl);(case hg=>rfl);(case hr=>first|(go_simp;done)|(go_simp;rfl));(case hp=>exact (Reps.none _ _));intro vL wL hoL hbL hg_ hnew_;clear hg_ hnew_;have HOL:=ζa hoL;have HBL:=ζa hbL;clear hoL hbL))
    have HBF:=ζa (δr HB0.out HBL.out)
    go_ret3
    exact ⟨_,rfl,(by have:=Kd.R_lower HOL.out HB0.out.size;repeat (first|exact this|apply ζd|apply ζe|apply ζc)),(by repeat (first|exact HBF.out|apply δk|apply δj|apply δi))⟩
   ·
    rw [if_neg cc3] at h
    have HH:=ζa h
    clear h
    have f3a:decide ((65536:Int)<(id.size:Int))=φ:=decide_eq_false cc3
    have f3b:decide (65536<id.size)=φ:=decide_eq_false (by omega)
    have C3:=ζa cc3
    clear cc3
    have h:=HH.out
    clear HH
    by_cases cc4:(65536:Int)<(maker.size:Int)
    ·
     rw [if_pos cc4] at h
     have HH:=ζa h
     clear h
     have f4a:decide ((65536:Int)<(maker.size:Int))=τ:=decide_eq_true cc4
     have f4b:decide (65536<maker.size)=τ:=decide_eq_true (by omega)
     have C4:=ζa cc4
     clear cc4
     have h:=HH.out
     clear HH
     simp only [Option.some.injEq,Prod.mk.injEq] at h
     obtain ⟨rfl,rfl,rfl⟩:=h
     go_wp2_with (first|((with_reducible refine δx (N:=41) rfl ?_);refine Kd.R_lit k51 w.heap.size 51 ?hg (N:=41) ?hd (w0:=w) (xs:=([]:List S51)) (inner:=[]) (ok:=fun _=>True) (okp:=fun _=>True) ?hr ?hp (fun _ hk=>hk) trivial (by repeat (first|exact Below.refl _ _|apply δk|apply δj|apply δi)) (Below.size (show Below w.heap.size w _ from by repeat (first|exact Below.refl _ _|apply δk|apply δj|apply δi))) (by simp) ?_;(case hd=>rfl);(case hg=>rfl);(case hr=>first|(go_simp;done)|(go_simp;rfl));(case hp=>exact (Reps.none _ _));intro vL wL hoL hbL hg_ hnew_;clear hg_ hnew_;have HOL:=ζa hoL;have HBL:=ζa hbL;clear hoL hbL))
     have HBF:=ζa (δr HB0.out HBL.out)
     go_ret3
     exact ⟨_,rfl,(by have:=Kd.R_lower HOL.out HB0.out.size;repeat (first|exact this|apply ζd|apply ζe|apply ζc)),(by repeat (first|exact HBF.out|apply δk|apply δj|apply δi))⟩
    ·
     rw [if_neg cc4] at h
     have HH:=ζa h
     clear h
     have f4a:decide ((65536:Int)<(maker.size:Int))=φ:=decide_eq_false cc4
     have f4b:decide (65536<maker.size)=φ:=decide_eq_false (by omega)
     have C4:=ζa cc4
     clear cc4
     have h:=HH.out
     clear HH
     by_cases cc5:(65536:Int)<(taker.size:Int)
     ·
      rw [if_pos cc5] at h
      have HH:=ζa h
      clear h
      have f5a:decide ((65536:Int)<(taker.size:Int))=τ:=decide_eq_true cc5
      have f5b:decide (65536<taker.size)=τ:=decide_eq_true (by omega)
      have C5:=ζa cc5
      clear cc5
      have h:=HH.out
      clear HH
      simp only [Option.some.injEq,Prod.mk.injEq] at h
      obtain ⟨rfl,rfl,rfl⟩:=h
      go_wp2_with (first|((with_reducible refine δx (N:=41) rfl ?_);refine Kd.R_lit k51 w.heap.size 51 ?hg (N:=41) ?hd (w0:=w) (xs:=([]:List S51)) (inner:=[]) (ok:=fun _=>True) (okp:=fun _=>True) ?hr ?hp (fun _ hk=>hk) trivial (by repeat (first|exact Below.refl _ _|apply δk|apply δj|apply δi)) (Below.size (show Below w.heap.size w _ from by repeat (first|exact Below.refl _ _|apply δk|apply δj|apply δi))) (by simp) ?_;(case hd=>rfl);(case hg=>rfl);(case hr=>first|(go_simp;done)|(go_simp;rfl));(case hp=>exact (Reps.none _ _));intro vL wL hoL hbL hg_ hnew_;clear hg_ hnew_;have HOL:=ζa hoL;have HBL:=ζa hbL;clear hoL hbL))
      have HBF:=ζa (δr HB0.out HBL.out)
      go_ret3
      exact ⟨_,rfl,(by have:=Kd.R_lower HOL.out HB0.out.size;repeat (first|exact this|apply ζd|apply ζe|apply ζc)),(by repeat (first|exact HBF.out|apply δk|apply δj|apply δi))⟩
     ·
      rw [if_neg cc5] at h
      have HH:=ζa h
      clear h
      have f5a:decide ((65536:Int)<(taker.size:Int))=φ:=decide_eq_false cc5
      have f5b:decide (65536<taker.size)=φ:=decide_eq_false (by omega)
      have C5:=ζa cc5
      clear cc5
      have h:=HH.out
      clear HH
      obtain ⟨c8,h6_,h⟩:=Option.bind_eq_some_iff.mp h
      have HH:=ζa h
      have H6:=ζa h6_
      clear h h6_
      go_wp2_with fail
      refine (spec_l08Code.calls k name A_list c_list list c8 _ (by repeat (first|exact Kd.C_below HR0_list.out HB0.out|apply Kd.C_alloc|apply Kd.C_drew|apply Kd.C_drewN)) HC0_list.out H6.out).mono ?_
      rintro e w6 ⟨rfl,hb⟩
      have m_:=ζa (δr (by repeat (first|exact HB0.out|apply δk|apply δj|apply δi)) hb)
      clear hb
      have HB6:=m_
      clear m_
      have h:=HH.out
      clear HH
      by_cases cc7:c8=0
      ·
       rw [if_pos cc7] at h
       have HH:=ζa h
       clear h
       have f7a:(c8 == 0)=τ:=beq_iff_eq.mpr cc7
       have f7b:(c8 != 0)=φ:=bne_eq_false_iff_eq.mpr cc7
       have C7:=ζa cc7
       clear cc7
       have h:=HH.out
       clear HH
       obtain ⟨⟨o9,x1_,x2_⟩,h8_,h⟩:=Option.bind_eq_some_iff.mp h
       have HH:=ζa h
       have H8:=ζa h8_
       clear h h8_
       go_wp2_with fail
       refine (spec_l09Send.calls k name A_list c_list list id maker taker pay o9 x1_ x2_ _ (by repeat (first|exact Kd.C_below HR0_list.out HB6.out|apply Kd.C_alloc|apply Kd.C_drew|apply Kd.C_drewN)) HC0_list.out H8.out).mono ?_
       rintro e w8 ⟨v8,rfl,ho,hb⟩
       obtain ⟨adr8,cap8,rfl,hl8,hq8⟩:=ho
       have HC8:=ζa hl8
       have HRn8:=ζa hq8
       clear hl8 hq8
       have m_:=ζa (δr (by repeat (first|exact HB6.out|apply δk|apply δj|apply δi)) hb)
       clear hb
       have HB8:=m_
       clear m_
       have h:=HH.out
       clear HH
       by_cases cc9:o9.length≤1000000
       ·
        rw [if_pos cc9] at h
        have HH:=ζa h
        clear h
        have f9a:decide (o9.length≤1000000)=τ:=decide_eq_true cc9
        have C9:=ζa cc9
        clear cc9
        have h:=HH.out
        clear HH
        simp only [Option.some.injEq,Prod.mk.injEq] at h
        obtain ⟨rfl,rfl,rfl⟩:=h
        go_wp2_with (first|((with_reducible refine δx (N:=60) rfl ?_);refine Kd.R_lit k51 w8.heap.size 51 ?hg (N:=60) ?hd (w0:=w8) (xs:=([]:List S51)) (inner:=[]) (ok:=fun _=>True) (okp:=fun _=>True) ?hr ?hp (fun _ hk=>hk) trivial (by repeat (first|exact Below.refl _ _|apply δk|apply δj|apply δi)) (Below.size (show Below w8.heap.size w8 _ from by repeat (first|exact Below.refl _ _|apply δk|apply δj|apply δi))) (by simp) ?_;(case hd=>rfl);(case hg=>rfl);(case hr=>first|(go_simp;done)|(go_simp;rfl));(case hp=>exact (Reps.none _ _));intro vL wL hoL hbL hg_ hnew_;clear hg_ hnew_;have HOL:=ζa hoL;have HBL:=ζa hbL;clear hoL hbL)|((with_reducible refine δx (N:=62) rfl ?_);refine Kd.R_append_rows (w0:=w8) (Rr:=k51.K wL) k51 w8.heap.size ?hg (.tmp 60) (.tmp 61) 24 51 (.agg #[(.string ⟨#[]⟩),(.string ⟨#[]⟩)]) 32 rfl Tryz.underlying24 info51 rfl (by decide) (by decide) vL [] o9 adr8 _ cap8 (fun _=>True) (fun _=>False) rfl rfl HOL.out (Kd.C_below HRn8.out HBL.out) (fun x cs h=>by rw [k51_open h];exact k51_mkM _ _ _ x) (fun _ h=>h.elim) (fun _ _=>trivial) HBL.out HBL.out.size (by have:=C9.out;simp only [List.length_nil];omega) ?_;(case hg=>rfl);intro vM wM hoM hbM hg_ hnew_;clear hg_ hnew_;have HOM:=ζa hoM;have HBM:=ζa hbM;clear hoM hbM))
        have HBF:=ζa (δr HB8.out HBM.out)
        go_ret3
        exact ⟨_,rfl,(by have:=Kd.R_lower HOM.out HB8.out.size;repeat (first|exact this|apply ζd|apply ζe|apply ζc)),(by repeat (first|exact HBF.out|apply δk|apply δj|apply δi))⟩
       ·
        rw [if_neg cc9] at h
        have HH:=ζa h
        clear h
        have f9a:decide (o9.length≤1000000)=φ:=decide_eq_false cc9
        have C9:=ζa cc9
        clear cc9
        exact absurd HH.out (by simp)
      ·
       rw [if_neg cc7] at h
       have HH:=ζa h
       clear h
       have f7a:(c8 == 0)=φ:=beq_eq_false_iff_ne.mpr cc7
       have f7b:(c8 != 0)=τ:=bne_iff_ne.mpr cc7
       have C7:=ζa cc7
       clear cc7
       have h:=HH.out
       clear HH
       simp only [Option.some.injEq,Prod.mk.injEq] at h
       obtain ⟨rfl,rfl,rfl⟩:=h
       go_wp2_with (first|((with_reducible refine δx (N:=47) rfl ?_);refine Kd.R_lit k51 w6.heap.size 51 ?hg (N:=47) ?hd (w0:=w6) (xs:=([]:List S51)) (inner:=[]) (ok:=fun _=>True) (okp:=fun _=>True) ?hr ?hp (fun _ hk=>hk) trivial (by repeat (first|exact Below.refl _ _|apply δk|apply δj|apply δi)) (Below.size (show Below w6.heap.size w6 _ from by repeat (first|exact Below.refl _ _|apply δk|apply δj|apply δi))) (by simp) ?_;(case hd=>rfl);(case hg=>rfl);(case hr=>first|(go_simp;done)|(go_simp;rfl));(case hp=>exact (Reps.none _ _));intro vL wL hoL hbL hg_ hnew_;clear hg_ hnew_;have HOL:=ζa hoL;have HBL:=ζa hbL;clear hoL hbL))
       have HBF:=ζa (δr HB6.out HBL.out)
       go_ret3
       exact ⟨_,rfl,(by have:=Kd.R_lower HOL.out HB6.out.size;repeat (first|exact this|apply ζd|apply ζe|apply ζc)),(by repeat (first|exact HBF.out|apply δk|apply δj|apply δi))⟩


open Go.Proofs.YtabmfhnhmoiljaaGreatDoorW.PrintWords renaming gate_dst → δx, box_event → δz, below_step → δr, below_alloc → δk, pw_below_drewN → δi, below_drew1 → δj, below_size → δs, blk_drewN → δn, blk_drew → δp, blk_alloc → δo, below_set → δq, blk_cell → δl, blk_frozen → δm, blk_put → δw

/-! ### laws_toPair: function 44 -/
def laws_toPair.f (a0_0:ByteArray) (a0_1:ByteArray):Option (ByteArray × ByteArray):=some (a0_0,a0_1)
set_option maxHeartbeats 8000000 in
set_option maxRecDepth 100000 in
theorem laws_toPair.calls (a0_0:ByteArray) (a0_1:ByteArray) (r1:ByteArray) (r2:ByteArray) (w:World) (h:laws_toPair.f a0_0 a0_1=some (r1,r2)) :
  Calls Tryz.prog 44 #[.agg #[.string a0_0,.string a0_1]] w fun e w'=>e = .returned (.agg #[.string r1,.string r2])∧Below w.heap.size w w':=by
 have hu49:=Tryz.underlying49
 have hu51:=Tryz.underlying51
 have HB:=ζa (Below.refl w.heap.size w)
 have H:(some (a0_0,a0_1))=some (r1,r2):=h
 clear h
 simp only [Option.some.injEq,Prod.mk.injEq] at H
 obtain ⟨rfl,rfl⟩:=H
 go_enter Tryz.func44,Tryz.ntmps44
 go_wp2_with (first|((with_reducible refine δx (N:=1) rfl ?_);refine δz ?hg (N:=1) ?hd (cs:=#[.string a0_0,.string a0_1]) (t:=49) ?hr ?_;(case hd=>rfl);(case hg=>rfl);(case hr=>first|(go_simp;done)|(go_simp;rfl));intro gb142 hg w2 hbox hb;have n0_:=ζa (δr (by repeat (first|(with_reducible first|exact HB.out|apply δk|apply δi|apply δj)|exact HB.out)) hb);have n1_:=ζa (hbox);have n2_:=ζa ((by rw [hg];exact (δs (by repeat (first|(with_reducible first|exact HB.out|apply δk|apply δi|apply δj)|exact HB.out))):w.heap.size≤gb142));have n3_:=ζa ((by rw [hg];exact (δs (by repeat (first|(with_reducible first|exact HB.out|apply δk|apply δi|apply δj)|exact HB.out))):w.heap.size≤gb142));clear HB;have HB:=n0_;have BK142:=n1_;have GW142:=n2_;have GE142:=n3_;clear n0_ n1_ n2_ n3_;clear hb hbox hg)|((with_reducible refine δx (N:=2) rfl ?_);refine δz ?hg (N:=2) ?hd (cs:=#[.string (⟨#[]⟩:ByteArray),.string (⟨#[]⟩:ByteArray)]) (t:=51) ?hr ?_;(case hd=>rfl);(case hg=>rfl);(case hr=>first|(go_simp;done)|(go_simp;rfl));intro gb143 hg w3 hbox hb;have n0_:=ζa (blk_below (g:=gb142) (o:=.cells #[.string a0_0,.string a0_1] 49 (0,0)) (by (with_reducible repeat (first|refine δn ?_ _|refine δp ?_|refine δo ?_ _));exact BK142.out) hb);have n1_:=ζa (δr (by repeat (first|(with_reducible first|exact HB.out|apply δk|apply δi|apply δj|refine δq ?_ GE142.out)|exact HB.out)) hb);have n2_:=ζa (hbox);have n3_:=ζa ((by rw [hg];exact (δs (by repeat (first|(with_reducible first|exact HB.out|apply δk|apply δi|apply δj|refine δq ?_ GE142.out)|exact HB.out))):w.heap.size≤gb143));have n4_:=ζa ((by rw [hg];exact (δs (by repeat (first|(with_reducible first|exact HB.out|apply δk|apply δi|apply δj|refine δq ?_ GE142.out)|exact HB.out))):w.heap.size≤gb143));have n5_:=ζa ((by rw [hg];exact Nat.ne_of_lt (blk_lt (g:=gb142) (o:=.cells #[.string a0_0,.string a0_1] 49 (0,0)) (by (with_reducible repeat (first|refine δn ?_ _|refine δp ?_|refine δo ?_ _));exact BK142.out)):gb142≠gb143));have n6_:=ζa ((by rw [hg];exact Nat.ne_of_gt (blk_lt (g:=gb142) (o:=.cells #[.string a0_0,.string a0_1] 49 (0,0)) (by (with_reducible repeat (first|refine δn ?_ _|refine δp ?_|refine δo ?_ _));exact BK142.out)):gb143≠gb142));clear BK142;clear HB;have BK142:=n0_;have HB:=n1_;have BK143:=n2_;have GW143:=n3_;have GE143:=n4_;have NB142_143:=n5_;have NB143_142:=n6_;clear n0_ n1_ n2_ n3_ n4_ n5_ n6_;clear hb hbox hg)|((with_reducible refine δx (N:=3) rfl ?_);refine δz ?hg (N:=3) ?hd (cs:=#[.string (⟨#[]⟩:ByteArray),.string (⟨#[]⟩:ByteArray)]) (t:=51) ?hr ?_;(case hd=>rfl);(case hg=>rfl);(case hr=>first|(go_simp;done)|(go_simp;rfl));intro gb144 hg w4 hbox hb;have n0_:=ζa (blk_below (g:=gb142) (o:=.cells #[.string a0_0,.string a0_1] 49 (0,0)) (by (with_reducible repeat (first|refine δn ?_ _|refine δp ?_|refine δo ?_ _));exact BK142.out) hb);have n1_:=ζa (blk_below (g:=gb143) (o:=.cells #[.string (⟨#[]⟩:ByteArray),.string (⟨#[]⟩:ByteArray)] 51 (0,0)) (by (with_reducible repeat (first|refine δn ?_ _|refine δp ?_|refine δo ?_ _));exact BK143.out) hb);have n2_:=ζa (δr (by repeat (first|(with_reducible first|exact HB.out|apply δk|apply δi|apply δj|refine δq ?_ GE142.out|refine δq ?_ GE143.out)|exact HB.out)) hb);have n3_:=ζa (hbox);have n4_:=ζa ((by rw [hg];exact (δs (by repeat (first|(with_reducible first|exact HB.out|apply δk|apply δi|apply δj|refine δq ?_ GE142.out|refine δq ?_ GE143.out)|exact HB.out))):w.heap.size≤gb144));have n5_:=ζa ((by rw [hg];exact (δs (by repeat (first|(with_reducible first|exact HB.out|apply δk|apply δi|apply δj|refine δq ?_ GE142.out|refine δq ?_ GE143.out)|exact HB.out))):w.heap.size≤gb144));have n6_:=ζa ((by rw [hg];exact Nat.ne_of_lt (blk_lt (g:=gb142) (o:=.cells #[.string a0_0,.string a0_1] 49 (0,0)) (by (with_reducible repeat (first|refine δn ?_ _|refine δp ?_|refine δo ?_ _));exact BK142.out)):gb142≠gb144));have n7_:=ζa ((by rw [hg];exact Nat.ne_of_gt (blk_lt (g:=gb142) (o:=.cells #[.string a0_0,.string a0_1] 49 (0,0)) (by (with_reducible repeat (first|refine δn ?_ _|refine δp ?_|refine δo ?_ _));exact BK142.out)):gb144≠gb142));have n8_:=ζa ((by rw [hg];exact Nat.ne_of_lt (blk_lt (g:=gb143) (o:=.cells #[.string (⟨#[]⟩:ByteArray),.string (⟨#[]⟩:ByteArray)] 51 (0,0)) (by (with_reducible repeat (first|refine δn ?_ _|refine δp ?_|refine δo ?_ _));exact BK143.out)):gb143≠gb144));have n9_:=ζa ((by rw [hg];exact Nat.ne_of_gt (blk_lt (g:=gb143) (o:=.cells #[.string (⟨#[]⟩:ByteArray),.string (⟨#[]⟩:ByteArray)] 51 (0,0)) (by (with_reducible repeat (first|refine δn ?_ _|refine δp ?_|refine δo ?_ _));exact BK143.out)):gb144≠gb143));clear BK142;clear BK143;clear HB;have BK142:=n0_;have BK143:=n1_;have HB:=n2_;have BK144:=n3_;have GW144:=n4_;have GE144:=n5_;have NB142_144:=n6_;have NB144_142:=n7_;have NB143_144:=n8_;have NB144_143:=n9_;clear n0_ n1_ n2_ n3_ n4_ n5_ n6_ n7_ n8_ n9_;clear hb hbox hg;have hnb5:=NB142_143.out;have hnc5:=NB143_142.out;have hnb6:=NB142_144.out;have hnc6:=NB144_142.out;have hcz7_0:w4.cell? ⟨gb142,0,none⟩=some (.string a0_0):=(δl BK142.out 0).trans rfl;have hcz7_1:w4.cell? ⟨gb142,1,none⟩=some (.string a0_1):=(δl BK142.out 1).trans rfl;have hfz7_0:=δm BK142.out 0;have hfz7_1:=δm BK142.out 1;have hnb8:=NB144_143.out;have hnc8:=NB143_144.out;have hcz9_0:w4.cell? ⟨gb144,0,none⟩=some (.string (⟨#[]⟩:ByteArray)):=(δl BK144.out 0).trans rfl;have hcz9_1:w4.cell? ⟨gb144,1,none⟩=some (.string (⟨#[]⟩:ByteArray)):=(δl BK144.out 1).trans rfl;have hfz9_0:=δm BK144.out 0;have hfz9_1:=δm BK144.out 1;have hcz10_0:w4.cell? ⟨gb143,0,none⟩=some (.string (⟨#[]⟩:ByteArray)):=(δl BK143.out 0).trans rfl;have hcz10_1:w4.cell? ⟨gb143,1,none⟩=some (.string (⟨#[]⟩:ByteArray)):=(δl BK143.out 1).trans rfl;have hfz10_0:=δm BK143.out 0;have hfz10_1:=δm BK143.out 1))
 refine bodyPost_ret (results_cell_row rfl _ _ gb143 51 #[.string a0_0,.string a0_1] (0,0) _ rfl (by (with_reducible repeat (first|refine δn ?_ _|refine δp ?_|refine δo ?_ _));refine δw (cs:=#[.string a0_0,.string (⟨#[]⟩:ByteArray)]) ?_ 1 _ rfl;(with_reducible repeat (first|refine δn ?_ _|refine δp ?_|refine δo ?_ _));refine δw (cs:=#[.string (⟨#[]⟩:ByteArray),.string (⟨#[]⟩:ByteArray)]) ?_ 0 _ rfl;(with_reducible repeat (first|refine δn ?_ _|refine δp ?_|refine δo ?_ _));refine blk_far ?_ NB143_144.out _;(with_reducible repeat (first|refine δn ?_ _|refine δp ?_|refine δo ?_ _));refine blk_far ?_ NB143_144.out _;(with_reducible repeat (first|refine δn ?_ _|refine δp ?_|refine δo ?_ _));exact BK143.out) Tryz.underlying51 rfl (by kernel_rfl)) rfl ?_
 exact ⟨by first|rfl|(simp [errW_none,errW_some] <;> rfl)|(simp [*,errW_none,errW_some] <;> rfl),by repeat (first|(with_reducible first|exact HB.out|apply δk|apply δi|apply δj|refine δq ?_ GE142.out|refine δq ?_ GE143.out|refine δq ?_ GE144.out)|exact HB.out)⟩


open Go.Proofs.YtabmfhnhmoiljaaGreatDoorW.PrintWords renaming gate_dst → δx, below_size → δs, below_alloc → δk, pw_below_drewN → δi, below_drew1 → δj, below_step → δr, gate_callee → δv, below_set → δq
open Go.Proofs.YtabmfhnhmoiljaaGreatDoorW.PrintWords.Kd renaming R_alloc → ζd, R_drewN → ζc, R_drew → ζe, R_below → ζh, R_reads' → ζg

/-! ### laws_toPairS: function 16 -/
def laws_toPairS.l0:Nat→List (S49)→List (S51)→Int→Option ((List (S51)))
 | 0,_,_,_=>none
 | k+1,x0,x3,x4=>if x4<(x0.length:Int) then (if 0≤x4 then ((laws_toPair.f ((rd_T49 x0 x4).f0) ((rd_T49 x0 x4).f1)).bind fun bt149=>(if x4<(x3.length:Int) then (laws_toPairS.l0 k x0 (x3.set (x4:Int).toNat (⟨bt149.1,bt149.2⟩:S51)) (ζm (x4+1))) else (none))) else (none)) else (some x3)
def laws_toPairS.f (k:Nat) (l0:List (S49)):Option ((List (S51))):=if 0≤(l0.length:Int) then (if ((l0.length:Int):Int).toNat≤8796093022208 then (laws_toPairS.l0 k l0 (List.replicate ((l0.length:Int):Int).toNat z51) 0) else (none)) else (none)
set_option maxHeartbeats 8000000 in
set_option maxRecDepth 100000 in
theorem laws_toPairS.calls (k:Nat) (A0:Option Addr) (c0:Nat) (l0:List (S49)) (r:List (S51)) (w:World) (hr0:Kd.C k49 w A0 l0.length l0) (hc0:l0.length≤c0) (h:laws_toPairS.f k l0=some r) :
  Calls Tryz.prog 16 #[.slice A0 l0.length c0] w fun e w' => ∃ v0_:Value,e = .returned (v0_)∧Kd.R k51 51 w' w.heap.size (fun _=>True) v0_ r∧Below w.heap.size w w':=by
 have hu49:=Tryz.underlying49
 have hu51:=Tryz.underlying51
 have HR0:=ζa hr0
 have HC0:=ζa hc0
 clear hr0 hc0
 have HB:=ζa (Below.refl w.heap.size w)
 have H:(if 0≤(l0.length:Int) then (if ((l0.length:Int):Int).toNat≤8796093022208 then (laws_toPairS.l0 k l0 (List.replicate ((l0.length:Int):Int).toNat z51) 0) else (none)) else (none))=some r:=h
 clear h
 by_cases c2:0≤(l0.length:Int)
 ·
  rw [if_pos c2] at H
  have c2b0:=eq_true c2
  have c2b1:decide (0≤(l0.length:Int))=τ:=decide_eq_true c2
  clear c2
  by_cases c3:((l0.length:Int):Int).toNat≤8796093022208
  ·
   rw [if_pos c3] at H
   have c3b0:=eq_true c3
   have c3b1:decide (((l0.length:Int):Int).toNat≤8796093022208)=τ:=decide_eq_true c3
   clear c3
   obtain ⟨y145,hy145⟩ : ∃ y_:List (S51),y_=(List.replicate ((l0.length:Int):Int).toNat z51):=⟨_,rfl⟩
   replace H:(laws_toPairS.l0 k l0 y145 0)=some r:=by first|(rw [hy145];with_reducible exact H)|(have H2_:=(Option.bind_some _ _).symm.trans H;rw [hy145];with_reducible exact H2_)|(have H2_:=(Option.bind_some _ _).symm.trans H;with_reducible exact H2_)|with_reducible exact H|(rw [hy145];exact H)|exact H
   have Ny145:=ζa hy145
   clear hy145
   have H':=ζa H
   clear H
   go_enter Tryz.func16,Tryz.ntmps16
   go_wp2_with (first|((with_reducible refine δx (N:=7) rfl ?_);refine Kd.R_make k51 _ 51 rfl (N:=7) rfl 24 _ _ rfl (l0.length:Int) rfl rfl Tryz.underlying24 (.agg #[(.string ⟨#[]⟩),(.string ⟨#[]⟩)]) 32 info51 rfl (by decide) (by omega) z51 (ok:=fun _=>True) (okp:=fun _=>True) (k51_mkM _ _ _ z51 ) (fun _ hk=>hk) trivial (of_decide_eq_true (by first|(with_reducible assumption)|assumption)) (Nat.le_trans (Nat.mul_le_mul_right _ (of_decide_eq_true (by first|(with_reducible assumption)|assumption):(l0.length:Int).toNat≤8796093022208)) (by omega)) (Below.refl _ _) (Nat.le_refl _) ?_;intro v146 w4 ho5 hb hg_ hnew_;clear hg_ hnew_;(first|rw [← Ny145.out] at ho5|(simp only [Int.reduceToNat] at ho5;rw [← Ny145.out] at ho5));have n0_:=ζa (Kd.R_lower ho5 (δs (by repeat (first|(with_reducible first|exact HB.out|apply δk|apply δi|apply δj)|exact HB.out))));have n1_:=ζa (δr (by repeat (first|(with_reducible first|exact HB.out|apply δk|apply δi|apply δj)|exact HB.out)) hb);clear HB;have HO147:=n0_;have HB:=n1_;clear n0_ n1_;clear hb ho5))
   go_loopg [4] k (fun kq v4 w' => ∃ (x3_1:List (S51)) (x4_1:Int),v4 = .int .i64 x4_1∧Aside0 (laws_toPairS.l0 kq l0 x3_1 x4_1=some r)∧Aside0 (kq≤k)∧Aside0 (Kd.R k51 51 w' w.heap.size (fun _=>True) v146 x3_1)∧Aside0 (Below w.heap.size w w'))
   case atStart=>exact ⟨(y145),(0),(by first|rfl|(simp;done)|(simp [*];done)),H',⟨Nat.le_refl _⟩,⟨by (with_reducible repeat (first|apply ζd|apply ζc|apply ζe));exact HO147.out⟩,⟨by repeat (first|(with_reducible first|exact HB.out|apply δk|apply δi|apply δj)|exact HB.out)⟩⟩
   case round =>
    clear H'
    try clear c1
    try clear c2
    try clear c2b0
    try clear c2b1
    try clear p2
    try clear c3
    try clear c3b0
    try clear c3b1
    obtain ⟨x3_1,x4_1,rfl,HA,HK1,HO_3,HB⟩:=hrel
    cases gk with
    | zero=>exact absurd HA.out (by simp [laws_toPairS.l0])
    | succ k1 =>
     have H:=HA.out
     clear HA
     simp only [laws_toPairS.l0] at H
     by_cases c6:x4_1<(l0.length:Int)
     ·
      rw [if_pos c6] at H
      have c6b0:decide (x4_1<(l0.length:Int))=τ:=decide_eq_true c6
      clear c6
      by_cases c7:0≤x4_1
      ·
       rw [if_pos c7] at H
       have c7b0:decide (0≤x4_1)=τ:=decide_eq_true c7
       clear c7
       replace H:=Option.bind_eq_some_iff.mp H
       obtain ⟨⟨t149,t150⟩,A80,H⟩:=H
       replace H:(if x4_1<(x3_1.length:Int) then (laws_toPairS.l0 k1 l0 (x3_1.set (x4_1:Int).toNat (⟨t149,t150⟩:S51)) (ζm (x4_1+1))) else (none))=some r:=H
       have A8:=ζa A80
       clear A80
       by_cases c9:x4_1<(x3_1.length:Int)
       ·
        rw [if_pos c9] at H
        have c9b0:decide (x4_1<(x3_1.length:Int))=τ:=decide_eq_true c9
        clear c9
        obtain ⟨y151,hy151⟩ : ∃ y_:List (S51),y_=(x3_1.set (x4_1:Int).toNat (⟨t149,t150⟩:S51)):=⟨_,rfl⟩
        replace H:(laws_toPairS.l0 k1 l0 y151 (ζm (x4_1+1)))=some r:=by first|(rw [hy151];with_reducible exact H)|(have H2_:=(Option.bind_some _ _).symm.trans H;rw [hy151];with_reducible exact H2_)|(have H2_:=(Option.bind_some _ _).symm.trans H;with_reducible exact H2_)|with_reducible exact H|(rw [hy151];exact H)|exact H
        have Ny151:=ζa hy151
        clear hy151
        have H':=ζa H
        clear H
        have p148:0≤(x4_1:Int):=of_decide_eq_true (by first|(with_reducible assumption)|assumption)
        have q148:x4_1<(l0.length:Int):=of_decide_eq_true (by first|(with_reducible assumption)|assumption)
        obtain ⟨ad148,e148,hx148_0,hx148_1⟩:=at_T49 HR0.out x4_1 p148 q148
        cases e148
        replace hx148_0:=(HB.out.cell (World.block_lt_of_cell? w _ hx148_0)).trans hx148_0
        replace hx148_1:=(HB.out.cell (World.block_lt_of_cell? w _ hx148_1)).trans hx148_1
        replace p148:=eq_true p148
        replace q148:=eq_true q148
        go_wp2_with (first|((with_reducible refine δv (f:=44) rfl ?_);refine goesL_ (some 20) rfl rfl Tryz.func44 (by kernel_rfl) rfl #[.agg #[.string ((rd_T49 l0 x4_1).f0),.string ((rd_T49 l0 x4_1).f1)]] rfl (by (try simp only [δd,δe,δf]);first|done|rfl|(simp only [δg,δh];rfl)) ?_;(with_reducible refine (laws_toPair.calls ((rd_T49 l0 x4_1).f0) ((rd_T49 l0 x4_1).f1) t149 t150 _ A8.out).mono ?_);rintro e w11 ⟨rfl,hb⟩;refine ⟨_,rfl,?_⟩;have n0_:=ζa (ζh (by (with_reducible repeat (first|apply ζd|apply ζc|apply ζe));exact HO_3.out) hb);have n1_:=ζa (δr (by repeat (first|(with_reducible first|exact HB.out|apply δk|apply δi|apply δj)|exact HB.out)) hb);clear HO_3;clear HB;have HO_3:=n0_;have HB:=n1_;clear n0_ n1_;(try clear hb);(try clear hb2);(try clear hk);(try clear hi);have p10:0≤(x4_1:Int):=of_decide_eq_true (by first|(with_reducible assumption)|assumption);have q10:(x4_1:Int)<((x3_1.length:Int):Int):=of_decide_eq_true (by first|(with_reducible assumption)|assumption);obtain ⟨go10,co10,eo10,gb10,gl10,cl10,HG10⟩:=Kd.R_form HO_3.out (by omega);(first|cases eo10|(injection eo10 with ea_ en_ ec_;(first|subst ea_|(injection ea_ with ea_;subst ea_));subst ec_;clear en_));have GB10:=ζa gb10;have GG10:=ζa HG10;clear gb10 gl10 HG10;obtain ⟨ce10,hcl10,hM10,hcc10,hfr10⟩:=Kd.R_elem HO_3.out z51 (x4_1:Int) p10 q10;obtain rfl:=k51_openM hM10;have hx10_0:w11.cell? ⟨go10,(x4_1:Int).toNat * 2,none⟩=some (.string ((rd_T51 x3_1 x4_1).f0)):=hcc10 0 _ rfl;have hx10_1:w11.cell? ⟨go10,(x4_1:Int).toNat * 2+1,none⟩=some (.string ((rd_T51 x3_1 x4_1).f1)):=hcc10 1 _ rfl;have hf10_0:w11.frozen? ⟨go10,(x4_1:Int).toNat * 2,none⟩=φ:=hfr10 0;have hf10_1:w11.frozen? ⟨go10,(x4_1:Int).toNat * 2+1,none⟩=φ:=hfr10 1;clear hcl10 hcc10 hfr10 hM10;replace p10:=eq_true p10;replace q10:=eq_true q10;have HX12:=ζa (show Kd.R k51 51 w11 w.heap.size (fun _=>True) (.slice (some ⟨go10,0,none⟩) x3_1.length co10) x3_1 from (by (with_reducible repeat (first|apply ζd|apply ζc|apply ζe));exact HO_3.out));obtain ⟨ce12,hcl12,hM12,hcc12,hfr12⟩:=Kd.R_elem HX12.out z51 (x4_1:Int) (of_decide_eq_true (by first|(with_reducible assumption)|assumption)) (by have h_:(x4_1:Int)<((x3_1.length:Int):Int):=of_decide_eq_true (by first|(with_reducible assumption)|assumption);first|exact h_|(have e_:=(ζg HO_3.out).1;omega)|simpa using h_);obtain rfl:=k51_openM hM12;have HP12:=Kd.R_seg HX12.out (x4_1:Int) (of_decide_eq_true (by first|(with_reducible assumption)|assumption)) (by have h_:(x4_1:Int)<((x3_1.length:Int):Int):=of_decide_eq_true (by first|(with_reducible assumption)|assumption);first|exact h_|(have e_:=(ζg HO_3.out).1;omega)|simpa using h_) (seg:=[.string t149,.string t150]) (j:=0) hcl12 hcc12 (show 2≤2 from by decide) (x':=(⟨t149,t150⟩:S51)) (k51_mkM _ _ _ (⟨t149,t150⟩:S51) ) (fun _ hk=>hk);have hx12_0:=hcc12 0 _ rfl;(try simp only [show (k51).sz=2 from rfl,Nat.mul_one,Nat.add_zero] at hx12_0);have hf12_0:=hfr12 0;(try simp only [show (k51).sz=2 from rfl,Nat.mul_one,Nat.add_zero] at hf12_0);have hx12_1:=hcc12 1 _ rfl;(try simp only [show (k51).sz=2 from rfl,Nat.mul_one,Nat.add_zero] at hx12_1);have hf12_1:=hfr12 1;(try simp only [show (k51).sz=2 from rfl,Nat.mul_one,Nat.add_zero] at hf12_1);clear hcl12 hcc12 hfr12 hM12)|((with_reducible refine gate_store (t:=51) (p:=21) rfl ?_);refine store_event (t:=51) (p:=21) (v:=?vo_w13) (w1:=((w11.setCell ⟨go10,(x4_1:Int).toNat * 2,none⟩ (.string t149)).setCell ⟨go10,(x4_1:Int).toNat * 2+1,none⟩ (.string t150))) ?hg ?ho ?hn ?hr ?_;(case ho=>rfl);(case hg=>rfl);(case hn=>rfl);(case hr=>first|(go_simp;done)|(go_simp;rfl));intro w13 hw;have hg:w11.grownBy w13 (some go10):=(by rw [hw];exact HP12.2);have hp_:Kd.R k51 51 w13 w.heap.size (fun _=>True) (.slice (some ⟨go10,0,none⟩) x3_1.length co10) y151:=(by rw [hw,Ny151.out];exact HP12.1);clear HP12;have n0_:=ζa (hp_);have n1_:=ζa ((by rw [hw];exact δq (δq (HB.out) GB10.out) GB10.out:Below w.heap.size w w13));clear HO_3;clear HB;have HO_3:=n0_;have HB:=n1_;clear n0_ n1_;clear hg hw hp_))
        go_roundg k1
        case measure=>have:=HK1.out;omega
        case rel=>exact ⟨(y151),(ζm (x4_1+1)),(by first|rfl|(simp;done)|(simp [*];done)),H',⟨by have:=HK1.out;omega⟩,⟨by (with_reducible repeat (first|apply ζd|apply ζc|apply ζe));exact HO_3.out⟩,⟨by repeat (first|(with_reducible first|exact HB.out|apply δk|apply δi|apply δj)|exact HB.out)⟩⟩
       ·
        rw [if_neg c9] at H
        exact absurd H (by simp)
      ·
       rw [if_neg c7] at H
       exact absurd H (by simp)
     ·
      rw [if_neg c6] at H
      have c6b0:decide (x4_1<(l0.length:Int))=φ:=decide_eq_false c6
      clear c6
      obtain rfl:=Option.some.inj H
      go_wp2
      go_ret
      exact ⟨_,by first|rfl|(simp [errW_none,errW_some] <;> rfl)|(simp [*,errW_none,errW_some] <;> rfl),by (with_reducible repeat (first|apply ζd|apply ζc|apply ζe));exact HO_3.out,by repeat (first|(with_reducible first|exact HB.out|apply δk|apply δi|apply δj)|exact HB.out)⟩
  ·
   rw [if_neg c3] at H
   exact absurd H (by simp)
 ·
  rw [if_neg c2] at H
  exact absurd H (by simp)



/-! ### strconv_Itoa: function 190 -/
/-- The table of powers of ten, and the two errors of reading, lie in memory, and go on lying there. -/
def ErrBelow (w : World) (name : String) : Prop := ∃ tp p, ∀ w', Below w.heap.size w w' → w'.var? Tryz.prog name = some #[.iface tp p]
def TabsOK (w : World) : Prop := Lib.TabBelow Tryz.prog w.heap.size w "internal/strconv.uint64pow10" .u64 Lib.pow10Tab ∧ ErrBelow w "strconv.ErrSyntax" ∧ ErrBelow w "strconv.ErrRange"
theorem ErrBelow.below {w w' : World} {name : String} (h : ErrBelow w name) (hb : Below w.heap.size w w') : ErrBelow w' name := by
  obtain ⟨tp, p, h⟩ := h
  exact ⟨tp, p, fun w2 hb2 => h w2 (below_step hb hb2)⟩
theorem ErrBelow.of_var {w : World} {name : String} {tp : TypeId} {p : Value} (h : w.var? Tryz.prog name = some #[.iface tp p]) : ErrBelow w name := ⟨tp, p, fun w' hb => by
  unfold World.var? at *
  cases hg : Tryz.prog.globalNamed name with
  | none => simp [hg] at h
  | some g =>
    simp only [hg, Option.bind_some] at h ⊢
    have hlt : g < w.heap.size := by
      rcases Nat.lt_or_ge g w.heap.size with h' | h'
      · exact h'
      · rw [Array.getElem?_eq_none h'] at h; simp at h
    rw [hb.block g hlt]
    exact h⟩
theorem TabsOK.below {w w' : World} (h : TabsOK w) (hb : Below w.heap.size w w') : TabsOK w' := ⟨fun w2 hb2 => h.1 w2 (below_step hb hb2), h.2.1.below hb, h.2.2.below hb⟩
def strconv_Itoa.f (a0 : Int) : Option ByteArray := if -9223372036854775808 ≤ a0 then (if a0 ≤ 9223372036854775807 then some ⟨(Lib.itoa a0).toArray⟩ else none) else none
theorem strconv_Itoa.calls (a0 : Int) (r : ByteArray) (w : World) (hT0 : TabsOK w) (h : strconv_Itoa.f a0 = some r) :
    Calls Tryz.prog 190 #[.int .i64 a0] w fun e w' => e = .returned (.string r) ∧ Below w.heap.size w w' := by
  unfold strconv_Itoa.f at h
  by_cases h1 : -9223372036854775808 ≤ a0
  · rw [if_pos h1] at h
    by_cases h2 : a0 ≤ 9223372036854775807
    · rw [if_pos h2] at h
      obtain rfl := Option.some.inj h
      refine (Tryz.strconv_Itoa a0 h1 h2 w hT0.1.here).mono ?_
      rintro e w' ⟨rfl, k, os, rfl⟩
      exact ⟨rfl, Lib.below_grow w.heap.size w (Nat.le_refl _) k os⟩
    · rw [if_neg h2] at h; cases h
  · rw [if_neg h1] at h; cases h



/-! ### slices_IndexFunc_string_string: function 168 -/
/-- slices.IndexFunc over texts,at a plain predicate that captures nothing. -/
theorem slices_IndexFunc_string_string.at_ (g:Nat) (eg : ∀ args w,(callFunc g args).run Tryz.prog w = .ok (.enter g args) w) (p:ByteArray→Bool)
  (hp : ∀ x W,Calls Tryz.prog g #[.string x] W fun e W'=>e = .returned (.bool (p x))∧Drawn0 W W')
  (A0:Option Addr) (c0:Nat) (l0:List ByteArray) (w:World) (hr0:Kd.C Kd.string w A0 l0.length l0) :
  Calls Tryz.prog 168 #[.slice A0 l0.length c0,.func (.func g) #[] #[]] w fun e w'=>(∃ r:Int,e = .returned (.int .i64 r)∧Aside0 (decide (0≤r)=l0.any p))∧Drawn0 w w':=by
 have HR0:=ζa hr0
 have hmax:l0.length≤9223372036854775807:=hr0.2.1
 clear hr0
 go_enter Tryz.func168,Tryz.ntmps168
 go_wp2
 go_loopg [5,8] l0.length (fun gg _ s8 wr => ∃ kk:Nat,kk≤l0.length∧l0.length - kk≤gg∧s8 = .int .i64 kk∧Aside0 ((l0.take kk).any p=φ)∧Drawn0 w wr)
 case atStart=>exact ⟨0,Nat.zero_le _,by omega,rfl,⟨rfl⟩,by repeat (first|exact Drawn0.refl _|apply Drawn0.step)⟩
 case round =>
  obtain ⟨kk,hkk,hg,rfl,A,⟨m1,rfl⟩⟩:=hrel
  by_cases hlt:kk<l0.length
  ·
   have hltz:(kk:Int)<(l0.length:Int):=by omega
   have p145:0≤(kk:Int):=by omega
   obtain ⟨ad145,e145,hx145_0⟩:=Kd.at_string HR0.out kk p145 hltz
   cases e145
   rw [Int.toNat_natCast] at hx145_0
   have hT:Aside0 ((l0.take (kk+1)).any p=p (rdOf ByteArray.empty l0 kk)):=⟨by
    have hx:l0[kk]? = some (rdOf ByteArray.empty l0 kk):=by
     simp only [rdOf,Int.toNat_natCast,List.getD_eq_getElem?_getD]
     rw [List.getElem?_eq_getElem hlt];rfl
    rw [List.take_add_one,hx,List.any_append,A.out];simp⟩
   generalize rdOf ByteArray.empty l0 kk=x at *
   have hcall:=hp x
   clear hp
   cases hq:p x with
   | true =>
    rw [hq] at hcall hT
    clear hq
    go_wp2_with (go_at_fn g;refine (hcall _).mono ?_;rintro e w' ⟨rfl,⟨q',rfl⟩⟩)
    go_ret
    refine ⟨⟨_,rfl,⟨?_⟩⟩,by repeat (first|exact Drawn0.refl _|apply Drawn0.step)⟩
    have h2:l0.any p=τ:=by
     have:=hT.out
     rw [← List.take_append_drop (kk+1) l0,List.any_append,this];rfl
    rw [h2];simp
   | false =>
    rw [hq] at hcall hT
    clear hq
    go_wp2_with (go_at_fn g;refine (hcall _).mono ?_;rintro e w' ⟨rfl,⟨q',rfl⟩⟩)
    go_roundg (l0.length - (kk+1))
    case measure=>omega
    case rel=>exact ⟨kk+1,by omega,by omega,by go_num,hT,by repeat (first|exact Drawn0.refl _|apply Drawn0.step)⟩
  ·
   have hltz : ¬ (kk:Int)<(l0.length:Int):=by omega
   have hkl:Aside0 (kk=l0.length):=⟨by omega⟩
   go_wp2
   go_ret
   refine ⟨⟨_,rfl,⟨?_⟩⟩,by repeat (first|exact Drawn0.refl _|apply Drawn0.step)⟩
   have:=A.out
   rw [hkl.out,List.take_length] at this
   rw [this];rfl



/-! ### slices_ContainsFunc_string_string: function 112 -/
theorem slices_ContainsFunc_string_string.at_ (g:Nat) (eg : ∀ args w,(callFunc g args).run Tryz.prog w = .ok (.enter g args) w) (p:ByteArray→Bool)
  (hp : ∀ x W,Calls Tryz.prog g #[.string x] W fun e W'=>e = .returned (.bool (p x))∧Drawn0 W W')
  (A0:Option Addr) (c0:Nat) (l0:List ByteArray) (w:World) (hr0:Kd.C Kd.string w A0 l0.length l0) :
  Calls Tryz.prog 112 #[.slice A0 l0.length c0,.func (.func g) #[] #[]] w fun e w'=>e = .returned (.bool (l0.any p))∧Drawn0 w w':=by
 go_enter Tryz.func112,Tryz.ntmps112
 go_wp2_with (go_at_call 168;refine (slices_IndexFunc_string_string.at_ g eg p hp A0 c0 l0 _ hr0).mono ?_;rintro e w' ⟨⟨r,rfl,hr⟩,⟨q',rfl⟩⟩)
 go_ret
 exact ⟨by rw [← hr.out];first|rfl|(simp;done),by repeat (first|exact Drawn0.refl _|apply Drawn0.step)⟩



/-! ### impl_isText: function 61 -/
def impl_isText.f (l0:List ByteArray):Option Bool:=some (!(l0.any fun t=>decide ((t.size:Int) > 65536)))
theorem impl_isText.lit (a0:ByteArray) (w:World) :
  Calls Tryz.prog 113 #[.string a0] w fun e w'=>e = .returned (.bool (decide ((a0.size:Int) > 65536)))∧Drawn0 w w':=by
 go_enter Tryz.func113,Tryz.ntmps113
 go_wp2
 go_ret
 exact ⟨by first|rfl|(simp;done),by repeat (first|exact Drawn0.refl _|apply Drawn0.step)⟩
theorem impl_isText.calls (A0:Option Addr) (c0:Nat) (l0:List ByteArray) (r:Bool) (w:World) (hr0:Kd.C Kd.string w A0 l0.length l0) (hc0:l0.length≤c0) (h:impl_isText.f l0=some r) :
  Calls Tryz.prog 61 #[.slice A0 l0.length c0] w fun e w'=>e = .returned (.bool r)∧Drawn0 w w':=by
 obtain rfl:=Option.some.inj h
 go_enter Tryz.func61,Tryz.ntmps61
 go_wp2_with (go_at_call 112;refine (slices_ContainsFunc_string_string.at_ 113 (enters_of Tryz.func113 (by kernel_rfl) rfl) _ impl_isText.lit A0 c0 l0 _ hr0).mono ?_;rintro e w' ⟨rfl,⟨q',rfl⟩⟩)
 go_ret
 exact ⟨rfl,by repeat (first|exact Drawn0.refl _|apply Drawn0.step)⟩



/-! ### impl_isChain: function 64 -/
def impl_isChain.f (a0:ByteArray):Option (Bool):=if a0.toList=([120]:List UInt8) then (some τ) else (some (a0.toList == ([121]:List UInt8)))
set_option maxHeartbeats 8000000 in
set_option maxRecDepth 100000 in
theorem impl_isChain.calls (a0:ByteArray) (r:Bool) (w:World) (h:impl_isChain.f a0=some r) :
  Calls Tryz.prog 64 #[.string a0] w fun e w'=>e = .returned (.bool r)∧Drawn0 w w':=by
 have H:(if a0.toList=([120]:List UInt8) then (some τ) else (some (a0.toList == ([121]:List UInt8))))=some r:=h
 clear h
 by_cases c2:a0.toList=([120]:List UInt8)
 ·
  rw [if_pos c2] at H
  have c2b0:(a0.toList == ([120]:List UInt8))=τ:=beq_iff_eq.mpr c2
  have c2b1:(a0.toList != ([120]:List UInt8))=φ:=bne_eq_false_iff_eq.mpr c2
  clear c2
  obtain rfl:=Option.some.inj H
  go_enter Tryz.func64,Tryz.ntmps64
  go_wp2
  go_ret
  exact ⟨by first|rfl|(simp;done)|(simp [*];done),by repeat (first|exact Drawn0.refl _|apply Drawn0.step)⟩
 ·
  rw [if_neg c2] at H
  have c2b0:(a0.toList == ([120]:List UInt8))=φ:=beq_eq_false_iff_ne.mpr c2
  have c2b1:(a0.toList != ([120]:List UInt8))=τ:=bne_iff_ne.mpr c2
  obtain rfl:=Option.some.inj H
  go_enter Tryz.func64,Tryz.ntmps64
  go_wp2
  go_ret
  exact ⟨by first|rfl|(simp;done)|(simp [*];done),by repeat (first|exact Drawn0.refl _|apply Drawn0.step)⟩



/-! ### impl_isList_impl_Pair: function 80 -/
def impl_isList_impl_Pair.f (l0:List (S51)):Option (Bool):=some (decide ((l0.length:Int)≤4096))
set_option maxHeartbeats 8000000 in
set_option maxRecDepth 100000 in
theorem impl_isList_impl_Pair.calls (A0:Option Addr) (c0:Nat) (l0:List (S51)) (r:Bool) (w:World) (hr0:Kd.C k51 w A0 l0.length l0) (hc0:l0.length≤c0) (h:impl_isList_impl_Pair.f l0=some r) :
  Calls Tryz.prog 80 #[.slice A0 l0.length c0] w fun e w'=>e = .returned (.bool r)∧Drawn0 w w':=by
 have HR0:=ζa hr0
 have HC0:=ζa hc0
 clear hr0 hc0
 have H:(some (decide ((l0.length:Int)≤4096)))=some r:=h
 clear h
 obtain rfl:=Option.some.inj H
 go_enter Tryz.func80,Tryz.ntmps80
 go_wp2
 go_ret
 exact ⟨by first|rfl|(simp;done)|(simp [*];done),by repeat (first|exact Drawn0.refl _|apply Drawn0.step)⟩



/-! ### impl_within: function 161 -/
def impl_within.f (a0:Int) (a1:Int) (a2:Int):Option (Bool):=if a0 ≥ a1 then (some (decide (a0≤a2))) else (some φ)
set_option maxHeartbeats 8000000 in
set_option maxRecDepth 100000 in
theorem impl_within.calls (a0:Int) (a1:Int) (a2:Int) (r:Bool) (w:World) (h:impl_within.f a0 a1 a2=some r) :
  Calls Tryz.prog 161 #[.int .i64 a0,.int .i64 a1,.int .i64 a2] w fun e w'=>e = .returned (.bool r)∧Drawn0 w w':=by
 have H:(if a0 ≥ a1 then (some (decide (a0≤a2))) else (some φ))=some r:=h
 clear h
 by_cases c4:a0 ≥ a1
 ·
  rw [if_pos c4] at H
  have c4b0:decide (a1≤a0)=τ:=decide_eq_true c4
  clear c4
  obtain rfl:=Option.some.inj H
  go_enter Tryz.func161,Tryz.ntmps161
  go_wp2
  go_ret
  exact ⟨by first|rfl|(simp;done)|(simp [*];done),by repeat (first|exact Drawn0.refl _|apply Drawn0.step)⟩
 ·
  rw [if_neg c4] at H
  have c4b0:decide (a1≤a0)=φ:=decide_eq_false c4
  clear c4
  obtain rfl:=Option.some.inj H
  go_enter Tryz.func161,Tryz.ntmps161
  go_wp2
  go_ret
  exact ⟨by first|rfl|(simp;done)|(simp [*];done),by repeat (first|exact Drawn0.refl _|apply Drawn0.step)⟩


open Go.Proofs.YtabmfhnhmoiljaaGreatDoorW.PrintWords renaming gate_callee → δv

/-! ### impl_isKey: function 138 -/
def impl_isKey.f (a0:ByteArray):Option (Bool):=(impl_within.f (a0.size:Int) 1 60).bind fun t152=>(some t152)
set_option maxHeartbeats 8000000 in
set_option maxRecDepth 100000 in
theorem impl_isKey.calls (a0:ByteArray) (r:Bool) (w:World) (h:impl_isKey.f a0=some r) :
  Calls Tryz.prog 138 #[.string a0] w fun e w'=>e = .returned (.bool r)∧Drawn0 w w':=by
 have H:((impl_within.f (a0.size:Int) 1 60).bind fun t152=>(some t152))=some r:=h
 clear h
 replace H:=Option.bind_eq_some_iff.mp H
 obtain ⟨t152,A20,H⟩:=H
 replace H:(some t152)=some r:=H
 have A2:=ζa A20
 clear A20
 obtain rfl:=Option.some.inj H
 go_enter Tryz.func138,Tryz.ntmps138
 go_wp2_with (first|((with_reducible refine δv (f:=161) rfl ?_);refine goesL_ (some 5) rfl rfl Tryz.func161 (by kernel_rfl) rfl #[.int .i64 (a0.size:Int),.int .i64 1,.int .i64 60] rfl (by (try simp only [δd,δe,δf]);first|done|rfl|(simp only [δg,δh];rfl)) ?_;(with_reducible refine (impl_within.calls (a0.size:Int) 1 60 t152 _ A2.out).mono ?_);rintro e w' ⟨rfl,⟨nd,rfl⟩⟩;refine ⟨_,rfl,?_⟩))
 go_ret
 exact ⟨by first|rfl|(simp;done)|(simp [*];done),by repeat (first|exact Drawn0.refl _|apply Drawn0.step)⟩



/-! ### impl_isValue: function 139 -/
def impl_isValue.f (a0:ByteArray):Option (Bool):=some (decide ((a0.size:Int)≤1000))
set_option maxHeartbeats 8000000 in
set_option maxRecDepth 100000 in
theorem impl_isValue.calls (a0:ByteArray) (r:Bool) (w:World) (h:impl_isValue.f a0=some r) :
  Calls Tryz.prog 139 #[.string a0] w fun e w'=>e = .returned (.bool r)∧Drawn0 w w':=by
 have H:(some (decide ((a0.size:Int)≤1000)))=some r:=h
 clear h
 obtain rfl:=Option.some.inj H
 go_enter Tryz.func139,Tryz.ntmps139
 go_wp2
 go_ret
 exact ⟨by first|rfl|(simp;done)|(simp [*];done),by repeat (first|exact Drawn0.refl _|apply Drawn0.step)⟩


open Go.Proofs.YtabmfhnhmoiljaaGreatDoorW.PrintWords renaming below_alloc → δk, pw_below_drewN → δi, below_drew1 → δj

/-! ### impl_StoreOK: function 81 -/
def impl_StoreOK.l0:Nat→List (S51)→List (S51)→Int→Int→Option (Bool)
 | 0,_,_,_,_=>none
 | k+1,x0,x5,x6,x7=>if x7<x6 then (if 0≤x7 then (if x7<(x5.length:Int) then ((impl_isKey.f ((rd_T51 x5 x7).f0)).bind fun t137=>(if t137=τ then ((impl_isValue.f ((rd_T51 x5 x7).f1)).bind fun t138=>(if t138=τ then (if x7 > 0 then (if 0≤(ζm (x7 - 1)) then (if (ζm (x7 - 1))<(x0.length:Int) then (if ((Op.bytesLess (((rd_T51 x0 (ζm (x7 - 1))).f0).toList) (((rd_T51 x5 x7).f0).toList))=τ) then (impl_StoreOK.l0 k x0 x5 x6 (ζm (x7+1))) else (some φ)) else (none)) else (none)) else (impl_StoreOK.l0 k x0 x5 x6 (ζm (x7+1)))) else (some φ))) else (some φ))) else (none)) else (none)) else (some (decide ((x0.length:Int)≤400)))
def impl_StoreOK.f (k:Nat) (l0:List (S51)):Option (Bool):=impl_StoreOK.l0 k l0 l0 (l0.length:Int) 0
theorem impl_StoreOK.geq (t:TypeId) (a b:ByteArray):binOp .geq t (.string a) (.string b)=pure (.bool !(Op.bytesLess a.toList b.toList)):=by simp [binOp,Op.stringOp]
attribute [local go_sem] impl_StoreOK.geq
set_option maxHeartbeats 8000000 in
set_option maxRecDepth 100000 in
theorem impl_StoreOK.calls (k:Nat) (A0:Option Addr) (c0:Nat) (l0:List (S51)) (r:Bool) (w:World) (hr0:Kd.C k51 w A0 l0.length l0) (hc0:l0.length≤c0) (h:impl_StoreOK.f k l0=some r) :
  Calls Tryz.prog 81 #[.slice A0 l0.length c0] w fun e w'=>e = .returned (.bool r)∧Below w.heap.size w w':=by
 have hu78:=Tryz.underlying51
 have HR0:=ζa hr0
 clear hr0 hc0
 have HB:=ζa (Below.refl w.heap.size w)
 have H':=ζa (show impl_StoreOK.l0 k l0 l0 (l0.length:Int) 0=some r from h)
 clear h
 go_enter Tryz.func81,Tryz.ntmps81
 go_wp2
 go_loopg [7] k (fun kq v7 w' => ∃ i:Int,v7 = .int .i64 i∧Aside0 (impl_StoreOK.l0 kq l0 l0 (l0.length:Int) i=some r)∧Aside0 (kq≤k)∧Aside0 (Below w.heap.size w w'))
 case atStart=>exact ⟨0,(by first|rfl|(simp;done)),H',⟨Nat.le_refl _⟩,HB⟩
 case round =>
  clear H' HB
  obtain ⟨i,rfl,HA,HK1,HB⟩:=hrel
  cases gk with
  | zero=>exact absurd HA.out (by simp [impl_StoreOK.l0])
  | succ k1 =>
   have H:=HA.out
   clear HA
   simp only [impl_StoreOK.l0] at H
   by_cases c2:i<(l0.length:Int)
   ·
    rw [if_pos c2] at H
    have c2b0:decide (i<(l0.length:Int))=τ:=decide_eq_true c2
    by_cases c3:0≤i
    ·
     rw [if_pos c3,if_pos c2] at H
     obtain ⟨ad,e1,hx0,hx1⟩:=at_T51 HR0.out i c3 c2
     cases e1
     replace hx0:=(HB.out.cell (World.block_lt_of_cell? w _ hx0)).trans hx0
     replace hx1:=(HB.out.cell (World.block_lt_of_cell? w _ hx1)).trans hx1
     obtain ⟨b1,h1,H⟩:=Option.bind_eq_some_iff.mp H
     have A5:=ζa h1
     clear h1
     have prev:0<i → ∃ s t:ByteArray,s=(rd_T51 l0 (i - 1)).f0∧w.cell? (ad.add ((i - 1).toNat * 2))=some (.string s)∧t=s:=fun hp=>by
      obtain ⟨ad2,e2,hy0,_⟩:=at_T51 HR0.out (i - 1) (by omega) (by omega)
      obtain rfl:ad=ad2:=by injection e2
      exact ⟨_,_,rfl,hy0,rfl⟩
     have PV:=ζa prev
     clear prev
     have c3b:decide (0≤i)=τ:=decide_eq_true c3
     go_upto_region 4 with (fail)
     have hcz0:(wr.alloc (.cells #[.string (rd_T51 l0 i).f0,.string (rd_T51 l0 i).f1] 51 (0,0))).cell? ⟨wr.heap.size,0,none⟩=some (.string (rd_T51 l0 i).f0):=(World.cell?_alloc_mark wr _ 51 (0,0) 0).trans rfl
     have hcz1:(wr.alloc (.cells #[.string (rd_T51 l0 i).f0,.string (rd_T51 l0 i).f1] 51 (0,0))).cell? ⟨wr.heap.size,1,none⟩=some (.string (rd_T51 l0 i).f1):=(World.cell?_alloc_mark wr _ 51 (0,0) 1).trans rfl
     have PV2:Aside0 (0<i → ∃ s:ByteArray,s=(rd_T51 l0 (i - 1)).f0∧(wr.alloc (.cells #[.string (rd_T51 l0 i).f0,.string (rd_T51 l0 i).f1] 51 (0,0))).cell? (ad.add ((i - 1).toNat * 2))=some (.string s)):=⟨fun hp=>by
      obtain ⟨s,_,hs,hy,_⟩:=PV.out hp
      exact ⟨s,hs,((HB.out.alloc (HB.out.size) _).cell (World.block_lt_of_cell? w _ hy)).trans hy⟩⟩
     have HB2:=ζa (HB.out.alloc (HB.out.size) (.cells #[.string (rd_T51 l0 i).f0,.string (rd_T51 l0 i).f1] 51 (0,0)))
     clear HB PV hx0 hx1
     generalize wr.alloc (.cells #[.string (rd_T51 l0 i).f0,.string (rd_T51 l0 i).f1] 51 (0,0))=W4 at *
     generalize wr.heap.size=gb at *
     clear c3
     cases b1 with
     | false =>
      obtain rfl:=Option.some.inj H
      go_quiet (first|(go_at_call 138;(with_reducible refine (impl_isKey.calls _ _ _ A5.out).mono ?_);rintro e w' ⟨rfl,⟨nd,rfl⟩⟩;(try first|exact ⟨rfl,_,World.drewN_drewN _ _ _⟩|exact ⟨rfl,_,Eq.trans (World.drewN_drewN _ _ _) (congrArg (World.drewN _) (Nat.add_assoc _ _ _))⟩)))
      go_wp2
      go_ret
      exact ⟨rfl,by repeat (first|(with_reducible first|exact HB2.out|apply δk|apply δi|apply δj)|exact HB2.out)⟩
     | true =>
      rw [if_pos rfl] at H
      obtain ⟨b2,h2,H⟩:=Option.bind_eq_some_iff.mp H
      have A6:=ζa h2
      clear h2
      cases b2 with
      | false =>
       obtain rfl:=Option.some.inj H
       go_quiet (first|(go_at_call 138;(with_reducible refine (impl_isKey.calls _ _ _ A5.out).mono ?_);rintro e w' ⟨rfl,⟨nd,rfl⟩⟩;(try first|exact ⟨rfl,_,World.drewN_drewN _ _ _⟩|exact ⟨rfl,_,Eq.trans (World.drewN_drewN _ _ _) (congrArg (World.drewN _) (Nat.add_assoc _ _ _))⟩))|(go_at_call 139;(with_reducible refine (impl_isValue.calls _ _ _ A6.out).mono ?_);rintro e w' ⟨rfl,⟨nd,rfl⟩⟩;(try first|exact ⟨rfl,_,World.drewN_drewN _ _ _⟩|exact ⟨rfl,_,Eq.trans (World.drewN_drewN _ _ _) (congrArg (World.drewN _) (Nat.add_assoc _ _ _))⟩)))
       go_wp2
       go_ret
       exact ⟨rfl,by repeat (first|(with_reducible first|exact HB2.out|apply δk|apply δi|apply δj)|exact HB2.out)⟩
      | true =>
       rw [if_pos rfl] at H
       have hmax:(l0.length:Int)≤9223372036854775807:=by have:=Kd.C_max HR0.out;omega
       have hmx:=ζa hmax
       clear hmax
       by_cases c4:i > 0
       ·
        have hw1:IntKind.i64.wrap (i - 1)=i - 1:=IntWalk.i64_in _ (by have:=hmx.out;omega)
        have hw2:ζm (i - 1)=i - 1:=IntWalk.wrap64_in _ (by have:=hmx.out;omega)
        rw [if_pos c4,hw2,if_pos (by omega),if_pos (by omega)] at H
        obtain ⟨s,hs,hy⟩:=PV2.out c4
        rw [← hs] at H
        have c4b0:decide (i > 0)=τ:=decide_eq_true c4
        have c4b1:decide (0<i)=τ:=decide_eq_true c4
        have c5:0≤i - 1:=by omega
        have c6:i - 1<(l0.length:Int):=by omega
        clear c4 PV2 hs c2 hw2
        obtain ⟨j,hj⟩ : ∃ j,j=i - 1:=⟨_,rfl⟩
        rw [← hj] at hy c5 c6
        replace hw1:=hw1.trans hj.symm
        clear hj
        have c5b:decide (0≤j)=τ:=decide_eq_true c5
        have c6b:decide (j<(l0.length:Int))=τ:=decide_eq_true c6
        cases hb:Op.bytesLess s.toList ((rd_T51 l0 i).f0).toList with
        | false =>
         rw [hb] at H
         obtain rfl:=Option.some.inj H
         go_quiet (first|(go_at_call 138;(with_reducible refine (impl_isKey.calls _ _ _ A5.out).mono ?_);rintro e w' ⟨rfl,⟨nd,rfl⟩⟩;(try first|exact ⟨rfl,_,World.drewN_drewN _ _ _⟩|exact ⟨rfl,_,Eq.trans (World.drewN_drewN _ _ _) (congrArg (World.drewN _) (Nat.add_assoc _ _ _))⟩))|(go_at_call 139;(with_reducible refine (impl_isValue.calls _ _ _ A6.out).mono ?_);rintro e w' ⟨rfl,⟨nd,rfl⟩⟩;(try first|exact ⟨rfl,_,World.drewN_drewN _ _ _⟩|exact ⟨rfl,_,Eq.trans (World.drewN_drewN _ _ _) (congrArg (World.drewN _) (Nat.add_assoc _ _ _))⟩)))
         go_wp2
         go_ret
         exact ⟨rfl,by repeat (first|(with_reducible first|exact HB2.out|apply δk|apply δi|apply δj)|exact HB2.out)⟩
        | true =>
         rw [hb,if_pos rfl] at H
         have HN:=ζa H
         clear H
         go_quiet (first|(go_at_call 138;(with_reducible refine (impl_isKey.calls _ _ _ A5.out).mono ?_);rintro e w' ⟨rfl,⟨nd,rfl⟩⟩;(try first|exact ⟨rfl,_,World.drewN_drewN _ _ _⟩|exact ⟨rfl,_,Eq.trans (World.drewN_drewN _ _ _) (congrArg (World.drewN _) (Nat.add_assoc _ _ _))⟩))|(go_at_call 139;(with_reducible refine (impl_isValue.calls _ _ _ A6.out).mono ?_);rintro e w' ⟨rfl,⟨nd,rfl⟩⟩;(try first|exact ⟨rfl,_,World.drewN_drewN _ _ _⟩|exact ⟨rfl,_,Eq.trans (World.drewN_drewN _ _ _) (congrArg (World.drewN _) (Nat.add_assoc _ _ _))⟩)))
         go_wp2
         go_roundg k1
         case measure=>omega
         case rel=>exact ⟨_,rfl,HN,⟨by have:=HK1.out;omega⟩,⟨by repeat (first|(with_reducible first|exact HB2.out|apply δk|apply δi|apply δj)|exact HB2.out)⟩⟩
       ·
        rw [if_neg c4] at H
        have c4b0:decide (i > 0)=φ:=decide_eq_false c4
        have c4b1:decide (0<i)=φ:=decide_eq_false c4
        clear c4 c2 PV2
        have HN:=ζa H
        clear H
        go_quiet (first|(go_at_call 138;(with_reducible refine (impl_isKey.calls _ _ _ A5.out).mono ?_);rintro e w' ⟨rfl,⟨nd,rfl⟩⟩;(try first|exact ⟨rfl,_,World.drewN_drewN _ _ _⟩|exact ⟨rfl,_,Eq.trans (World.drewN_drewN _ _ _) (congrArg (World.drewN _) (Nat.add_assoc _ _ _))⟩))|(go_at_call 139;(with_reducible refine (impl_isValue.calls _ _ _ A6.out).mono ?_);rintro e w' ⟨rfl,⟨nd,rfl⟩⟩;(try first|exact ⟨rfl,_,World.drewN_drewN _ _ _⟩|exact ⟨rfl,_,Eq.trans (World.drewN_drewN _ _ _) (congrArg (World.drewN _) (Nat.add_assoc _ _ _))⟩)))
        go_wp2
        go_roundg k1
        case measure=>omega
        case rel=>exact ⟨_,rfl,HN,⟨by have:=HK1.out;omega⟩,⟨by repeat (first|(with_reducible first|exact HB2.out|apply δk|apply δi|apply δj)|exact HB2.out)⟩⟩
    ·
     rw [if_neg c3] at H
     exact absurd H (by simp)
   ·
    rw [if_neg c2] at H
    have c2b0:decide (i<(l0.length:Int))=φ:=decide_eq_false c2
    clear c2
    obtain rfl:=Option.some.inj H
    go_wp2
    go_ret
    exact ⟨by first|rfl|(simp;done)|(simp [*];done),HB.out⟩


open Go.Proofs.YtabmfhnhmoiljaaGreatDoorW.PrintWords renaming gate_dst → δx, below_size → δs, below_alloc → δk, pw_below_drewN → δi, below_drew1 → δj, below_step → δr, gate_callee → δv
open Go.Proofs.YtabmfhnhmoiljaaGreatDoorW.PrintWords.Kd renaming R_reads' → ζg

/-! ### impl_nameCode: function 45 -/
def impl_nameCode.j0:Nat→ByteArray→List (S51)→Bool→Option (Int)
 | 0,_,_,_=>none
 | k+1,x0,x1,x7=>if x7=τ then (some 2) else ((impl_isChain.f x0).bind fun t159=>(if t159=τ then ((impl_StoreOK.f k x1).bind fun t160=>(if t160=τ then (some 0) else (some 1))) else (some 1)))
def impl_nameCode.f (k:Nat) (a0:ByteArray) (l1:List (S51)) (l2:List ByteArray):Option (Int):=(impl_isText.f (([a0]:List ByteArray))).bind fun t156=>(if t156=τ then ((impl_isList_impl_Pair.f l1).bind fun t157=>(if t157=τ then ((impl_isText.f l2).bind fun t158=>(impl_nameCode.j0 k a0 l1 (!t158))) else (impl_nameCode.j0 k a0 l1 τ))) else (impl_nameCode.j0 k a0 l1 τ))
set_option maxHeartbeats 8000000 in
set_option maxRecDepth 100000 in
theorem impl_nameCode.calls (k:Nat) (a0:ByteArray) (A1:Option Addr) (c1:Nat) (l1:List (S51)) (A2:Option Addr) (c2:Nat) (l2:List ByteArray) (r:Int) (w:World) (hr1:Kd.C k51 w A1 l1.length l1) (hc1:l1.length≤c1) (hr2:Kd.C Kd.string w A2 l2.length l2) (hc2:l2.length≤c2) (h:impl_nameCode.f k a0 l1 l2=some r) :
  Calls Tryz.prog 45 #[.string a0,.slice A1 l1.length c1,.slice A2 l2.length c2] w fun e w'=>e = .returned (.int .i64 r)∧Below w.heap.size w w':=by
 have HR1:=ζa hr1
 have HC1:=ζa hc1
 clear hr1 hc1
 have HR2:=ζa hr2
 have HC2:=ζa hc2
 clear hr2 hc2
 have HB:=ζa (Below.refl w.heap.size w)
 have H:((impl_isText.f (([a0]:List ByteArray))).bind fun t156=>(if t156=τ then ((impl_isList_impl_Pair.f l1).bind fun t157=>(if t157=τ then ((impl_isText.f l2).bind fun t158=>(impl_nameCode.j0 k a0 l1 (!t158))) else (impl_nameCode.j0 k a0 l1 τ))) else (impl_nameCode.j0 k a0 l1 τ)))=some r:=h
 clear h
 have HC4:=ζa H
 clear H
 go_enter Tryz.func45,Tryz.ntmps45
 go_upto_region 1 with (fail)
 go_cut [7] (fun v7 wc => ∃ (kq:Nat) (x7_3:Bool),v7 = .bool x7_3∧Aside0 (impl_nameCode.j0 kq a0 l1 x7_3=some r)∧Aside0 (kq≤k)∧Aside0 (Below w.heap.size w wc))
 case first =>
  have H:=HC4.out
  clear HC4
  obtain ⟨y153,hy153⟩ : ∃ y_:List ByteArray,y_=(([a0]:List ByteArray)):=⟨_,rfl⟩
  replace H:((impl_isText.f y153).bind fun t156=>(if t156=τ then ((impl_isList_impl_Pair.f l1).bind fun t157=>(if t157=τ then ((impl_isText.f l2).bind fun t158=>(impl_nameCode.j0 k a0 l1 (!t158))) else (impl_nameCode.j0 k a0 l1 τ))) else (impl_nameCode.j0 k a0 l1 τ)))=some r:=by first|(rw [hy153];with_reducible exact H)|(have H2_:=(Option.bind_some _ _).symm.trans H;rw [hy153];with_reducible exact H2_)|(have H2_:=(Option.bind_some _ _).symm.trans H;with_reducible exact H2_)|with_reducible exact H|(rw [hy153];exact H)|exact H
  have Ny153:=ζa hy153
  clear hy153
  replace H:=Option.bind_eq_some_iff.mp H
  obtain ⟨t156,A50,H⟩:=H
  replace H:(if t156=τ then ((impl_isList_impl_Pair.f l1).bind fun t157=>(if t157=τ then ((impl_isText.f l2).bind fun t158=>(impl_nameCode.j0 k a0 l1 (!t158))) else (impl_nameCode.j0 k a0 l1 τ))) else (impl_nameCode.j0 k a0 l1 τ))=some r:=H
  have A5:=ζa A50
  clear A50
  by_cases c6:t156=τ
  ·
   subst c6
   have H1:((impl_isList_impl_Pair.f l1).bind fun t157=>(if t157=τ then ((impl_isText.f l2).bind fun t158=>(impl_nameCode.j0 k a0 l1 (!t158))) else (impl_nameCode.j0 k a0 l1 τ)))=some r:=by rw [if_pos rfl] at H;exact H
   clear H
   have H:=H1
   clear H1
   replace H:=Option.bind_eq_some_iff.mp H
   obtain ⟨t157,A70,H⟩:=H
   replace H:(if t157=τ then ((impl_isText.f l2).bind fun t158=>(impl_nameCode.j0 k a0 l1 (!t158))) else (impl_nameCode.j0 k a0 l1 τ))=some r:=H
   have A7:=ζa A70
   clear A70
   by_cases c8:t157=τ
   ·
    subst c8
    have H1:((impl_isText.f l2).bind fun t158=>(impl_nameCode.j0 k a0 l1 (!t158)))=some r:=by rw [if_pos rfl] at H;exact H
    clear H
    have H:=H1
    clear H1
    replace H:=Option.bind_eq_some_iff.mp H
    obtain ⟨t158,A90,H⟩:=H
    replace H:(impl_nameCode.j0 k a0 l1 (!t158))=some r:=H
    have A9:=ζa A90
    clear A90
    have H':=ζa H
    clear H
    go_wp2_with (first|((with_reducible refine δx (N:=9) rfl ?_);refine Kd.R_lit Kd.string _ 9 ?hg (N:=9) ?hd (xs:=([a0]:List ByteArray)) (inner:=[.string a0]) (ok:=fun _=>True) (okp:=fun _=>True) ?hr ?hp (fun _ hk=>hk) trivial (Below.refl _ _) (Nat.le_refl _) (by simp) ?_;(case hd=>rfl);(case hg=>rfl);(case hr=>first|(go_simp;done)|(go_simp;rfl));(case hp=>exact (Reps.one (show Kd.M Kd.string _ _ _ a0 [.string a0] from rfl) (Reps.none _ _)));intro v154 w10 ho11 hb hg_ hnew_;clear hg_ hnew_;(first|rw [← Ny153.out] at ho11|(simp only [Int.reduceToNat] at ho11;rw [← Ny153.out] at ho11));have n0_:=ζa (Kd.R_lower ho11 (δs (by repeat (first|(with_reducible first|exact HB.out|apply δk|apply δi|apply δj)|exact HB.out))));have n1_:=ζa (δr (by repeat (first|(with_reducible first|exact HB.out|apply δk|apply δi|apply δj)|exact HB.out)) hb);clear HB;have HO155:=n0_;have HB:=n1_;clear n0_ n1_;clear hb ho11;obtain ⟨Ao12,co12,eo12⟩:=Kd.R_slice HO155.out;subst eo12)|((with_reducible refine δv (f:=61) rfl ?_);refine goesL_ (some 10) rfl rfl Tryz.func61 (by kernel_rfl) rfl #[.slice Ao12 y153.length co12] rfl (by (try simp only [δd,δe,δf]);first|done|rfl|(simp only [δg,δh];rfl)) ?_;(with_reducible refine (impl_isText.calls _ _ y153 τ _ ?side1 ?side2 A5.out).mono ?_);(case side1=>repeat (first|exact (ζg HO155.out).2.2|(with_reducible refine Kd.C_alloc ?_ _)|(with_reducible refine Kd.C_drewN ?_ _)|(with_reducible refine Kd.C_drew ?_)));(case side2=>exact (ζg HO155.out).2.1);rintro e w' ⟨rfl,⟨nd,rfl⟩⟩;refine ⟨_,rfl,?_⟩)|(go_at_call 80;(with_reducible refine (impl_isList_impl_Pair.calls _ _ l1 τ _ ?side1 ?side2 A7.out).mono ?_);(case side1=>repeat (first|exact (Kd.C_below HR1.out (by repeat (first|(with_reducible first|exact HB.out|apply δk|apply δi|apply δj)|exact HB.out)))|(with_reducible refine Kd.C_alloc ?_ _)|(with_reducible refine Kd.C_drewN ?_ _)|(with_reducible refine Kd.C_drew ?_)));(case side2=>exact HC1.out);rintro e w' ⟨rfl,⟨nd,rfl⟩⟩)|(go_at_call 61;(with_reducible refine (impl_isText.calls _ _ l2 t158 _ ?side1 ?side2 A9.out).mono ?_);(case side1=>repeat (first|exact (Kd.C_below HR2.out (by repeat (first|(with_reducible first|exact HB.out|apply δk|apply δi|apply δj)|exact HB.out)))|(with_reducible refine Kd.C_alloc ?_ _)|(with_reducible refine Kd.C_drewN ?_ _)|(with_reducible refine Kd.C_drew ?_)));(case side2=>exact HC2.out);rintro e w' ⟨rfl,⟨nd,rfl⟩⟩))
    go_meet
    case rel=>exact ⟨_,(!t158),(by first|rfl|(simp;done)|(simp [*];done)),H',⟨by first|omega|exact Nat.le_refl _⟩,⟨by repeat (first|(with_reducible first|exact HB.out|apply δk|apply δi|apply δj)|exact HB.out)⟩⟩
   ·
    replace c8:=Bool.eq_false_iff.mpr c8
    subst c8
    have H1:(impl_nameCode.j0 k a0 l1 τ)=some r:=by rw [if_neg (show ¬ (φ=τ) by decide)] at H;exact H
    clear H
    have H:=H1
    clear H1
    have H':=ζa H
    clear H
    go_wp2_with (first|((with_reducible refine δx (N:=9) rfl ?_);refine Kd.R_lit Kd.string _ 9 ?hg (N:=9) ?hd (xs:=([a0]:List ByteArray)) (inner:=[.string a0]) (ok:=fun _=>True) (okp:=fun _=>True) ?hr ?hp (fun _ hk=>hk) trivial (Below.refl _ _) (Nat.le_refl _) (by simp) ?_;(case hd=>rfl);(case hg=>rfl);(case hr=>first|(go_simp;done)|(go_simp;rfl));(case hp=>exact (Reps.one (show Kd.M Kd.string _ _ _ a0 [.string a0] from rfl) (Reps.none _ _)));intro v154 w13 ho14 hb hg_ hnew_;clear hg_ hnew_;(first|rw [← Ny153.out] at ho14|(simp only [Int.reduceToNat] at ho14;rw [← Ny153.out] at ho14));have n0_:=ζa (Kd.R_lower ho14 (δs (by repeat (first|(with_reducible first|exact HB.out|apply δk|apply δi|apply δj)|exact HB.out))));have n1_:=ζa (δr (by repeat (first|(with_reducible first|exact HB.out|apply δk|apply δi|apply δj)|exact HB.out)) hb);clear HB;have HO155:=n0_;have HB:=n1_;clear n0_ n1_;clear hb ho14;obtain ⟨Ao15,co15,eo15⟩:=Kd.R_slice HO155.out;subst eo15)|((with_reducible refine δv (f:=61) rfl ?_);refine goesL_ (some 10) rfl rfl Tryz.func61 (by kernel_rfl) rfl #[.slice Ao15 y153.length co15] rfl (by (try simp only [δd,δe,δf]);first|done|rfl|(simp only [δg,δh];rfl)) ?_;(with_reducible refine (impl_isText.calls _ _ y153 τ _ ?side1 ?side2 A5.out).mono ?_);(case side1=>repeat (first|exact (ζg HO155.out).2.2|(with_reducible refine Kd.C_alloc ?_ _)|(with_reducible refine Kd.C_drewN ?_ _)|(with_reducible refine Kd.C_drew ?_)));(case side2=>exact (ζg HO155.out).2.1);rintro e w' ⟨rfl,⟨nd,rfl⟩⟩;refine ⟨_,rfl,?_⟩)|(go_at_call 80;(with_reducible refine (impl_isList_impl_Pair.calls _ _ l1 φ _ ?side1 ?side2 A7.out).mono ?_);(case side1=>repeat (first|exact (Kd.C_below HR1.out (by repeat (first|(with_reducible first|exact HB.out|apply δk|apply δi|apply δj)|exact HB.out)))|(with_reducible refine Kd.C_alloc ?_ _)|(with_reducible refine Kd.C_drewN ?_ _)|(with_reducible refine Kd.C_drew ?_)));(case side2=>exact HC1.out);rintro e w' ⟨rfl,⟨nd,rfl⟩⟩))
    go_meet
    case rel=>exact ⟨_,(τ),(by first|rfl|(simp;done)|(simp [*];done)),H',⟨by first|omega|exact Nat.le_refl _⟩,⟨by repeat (first|(with_reducible first|exact HB.out|apply δk|apply δi|apply δj)|exact HB.out)⟩⟩
  ·
   replace c6:=Bool.eq_false_iff.mpr c6
   subst c6
   have H1:(impl_nameCode.j0 k a0 l1 τ)=some r:=by rw [if_neg (show ¬ (φ=τ) by decide)] at H;exact H
   clear H
   have H:=H1
   clear H1
   have H':=ζa H
   clear H
   go_wp2_with (first|((with_reducible refine δx (N:=9) rfl ?_);refine Kd.R_lit Kd.string _ 9 ?hg (N:=9) ?hd (xs:=([a0]:List ByteArray)) (inner:=[.string a0]) (ok:=fun _=>True) (okp:=fun _=>True) ?hr ?hp (fun _ hk=>hk) trivial (Below.refl _ _) (Nat.le_refl _) (by simp) ?_;(case hd=>rfl);(case hg=>rfl);(case hr=>first|(go_simp;done)|(go_simp;rfl));(case hp=>exact (Reps.one (show Kd.M Kd.string _ _ _ a0 [.string a0] from rfl) (Reps.none _ _)));intro v154 w16 ho17 hb hg_ hnew_;clear hg_ hnew_;(first|rw [← Ny153.out] at ho17|(simp only [Int.reduceToNat] at ho17;rw [← Ny153.out] at ho17));have n0_:=ζa (Kd.R_lower ho17 (δs (by repeat (first|(with_reducible first|exact HB.out|apply δk|apply δi|apply δj)|exact HB.out))));have n1_:=ζa (δr (by repeat (first|(with_reducible first|exact HB.out|apply δk|apply δi|apply δj)|exact HB.out)) hb);clear HB;have HO155:=n0_;have HB:=n1_;clear n0_ n1_;clear hb ho17;obtain ⟨Ao18,co18,eo18⟩:=Kd.R_slice HO155.out;subst eo18)|((with_reducible refine δv (f:=61) rfl ?_);refine goesL_ (some 10) rfl rfl Tryz.func61 (by kernel_rfl) rfl #[.slice Ao18 y153.length co18] rfl (by (try simp only [δd,δe,δf]);first|done|rfl|(simp only [δg,δh];rfl)) ?_;(with_reducible refine (impl_isText.calls _ _ y153 φ _ ?side1 ?side2 A5.out).mono ?_);(case side1=>repeat (first|exact (ζg HO155.out).2.2|(with_reducible refine Kd.C_alloc ?_ _)|(with_reducible refine Kd.C_drewN ?_ _)|(with_reducible refine Kd.C_drew ?_)));(case side2=>exact (ζg HO155.out).2.1);rintro e w' ⟨rfl,⟨nd,rfl⟩⟩;refine ⟨_,rfl,?_⟩))
   go_meet
   case rel=>exact ⟨_,(τ),(by first|rfl|(simp;done)|(simp [*];done)),H',⟨by first|omega|exact Nat.le_refl _⟩,⟨by repeat (first|(with_reducible first|exact HB.out|apply δk|apply δi|apply δj)|exact HB.out)⟩⟩
 case rest =>
  clear HC4
  try clear c1
  try clear c2
  try clear p2
  try clear c4
  try clear c6
  try clear c8
  obtain ⟨kq,x7_3,rfl,HA,HJ3,HB⟩:=hcut
  cases kq with
  | zero=>exact absurd HA.out (by simp [impl_nameCode.j0])
  | succ kj3 =>
   have H:=HA.out
   clear HA
   simp only [impl_nameCode.j0] at H
   by_cases c19:x7_3=τ
   ·
    subst c19
    have H1:(some 2)=some r:=by rw [if_pos rfl] at H;exact H
    clear H
    have H:=H1
    clear H1
    obtain rfl:=Option.some.inj H
    go_wp2
    go_ret
    exact ⟨by first|rfl|(simp [errW_none,errW_some] <;> rfl)|(simp [*,errW_none,errW_some] <;> rfl),by repeat (first|(with_reducible first|exact HB.out|apply δk|apply δi|apply δj)|exact HB.out)⟩
   ·
    replace c19:=Bool.eq_false_iff.mpr c19
    subst c19
    have H1:((impl_isChain.f a0).bind fun t159=>(if t159=τ then ((impl_StoreOK.f kj3 l1).bind fun t160=>(if t160=τ then (some 0) else (some 1))) else (some 1)))=some r:=by rw [if_neg (show ¬ (φ=τ) by decide)] at H;exact H
    clear H
    have H:=H1
    clear H1
    replace H:=Option.bind_eq_some_iff.mp H
    obtain ⟨t159,A200,H⟩:=H
    replace H:(if t159=τ then ((impl_StoreOK.f kj3 l1).bind fun t160=>(if t160=τ then (some 0) else (some 1))) else (some 1))=some r:=H
    have A20:=ζa A200
    clear A200
    by_cases c21:t159=τ
    ·
     subst c21
     have H1:((impl_StoreOK.f kj3 l1).bind fun t160=>(if t160=τ then (some 0) else (some 1)))=some r:=by rw [if_pos rfl] at H;exact H
     clear H
     have H:=H1
     clear H1
     replace H:=Option.bind_eq_some_iff.mp H
     obtain ⟨t160,A220,H⟩:=H
     replace H:(if t160=τ then (some 0) else (some 1))=some r:=H
     have A22:=ζa A220
     clear A220
     by_cases c23:t160=τ
     ·
      subst c23
      have H1:(some 0)=some r:=by rw [if_pos rfl] at H;exact H
      clear H
      have H:=H1
      clear H1
      obtain rfl:=Option.some.inj H
      go_wp2_with (first|((with_reducible refine δv (f:=64) rfl ?_);refine goesL_ (some 24) rfl rfl Tryz.func64 (by kernel_rfl) rfl #[.string a0] rfl (by (try simp only [δd,δe,δf]);first|done|rfl|(simp only [δg,δh];rfl)) ?_;(with_reducible refine (impl_isChain.calls a0 τ _ A20.out).mono ?_);rintro e w' ⟨rfl,⟨nd,rfl⟩⟩;refine ⟨_,rfl,?_⟩)|(go_at_call 81;(with_reducible refine (impl_StoreOK.calls kj3 _ _ l1 τ _ ?side1 ?side2 A22.out).mono ?_);(case side1=>repeat (first|exact (Kd.C_below HR1.out (by repeat (first|(with_reducible first|exact HB.out|apply δk|apply δi|apply δj)|exact HB.out)))|(with_reducible refine Kd.C_alloc ?_ _)|(with_reducible refine Kd.C_drewN ?_ _)|(with_reducible refine Kd.C_drew ?_)));(case side2=>exact HC1.out);rintro e w24 ⟨rfl,hb⟩;have n0_:=ζa (δr (by repeat (first|(with_reducible first|exact HB.out|apply δk|apply δi|apply δj)|exact HB.out)) hb);clear HB;have HB:=n0_;clear n0_;(try clear hb);(try clear hb2);(try clear hk);(try clear hi)))
      go_ret
      exact ⟨by first|rfl|(simp [errW_none,errW_some] <;> rfl)|(simp [*,errW_none,errW_some] <;> rfl),by repeat (first|(with_reducible first|exact HB.out|apply δk|apply δi|apply δj)|exact HB.out)⟩
     ·
      replace c23:=Bool.eq_false_iff.mpr c23
      subst c23
      have H1:(some 1)=some r:=by rw [if_neg (show ¬ (φ=τ) by decide)] at H;exact H
      clear H
      have H:=H1
      clear H1
      obtain rfl:=Option.some.inj H
      go_wp2_with (first|((with_reducible refine δv (f:=64) rfl ?_);refine goesL_ (some 24) rfl rfl Tryz.func64 (by kernel_rfl) rfl #[.string a0] rfl (by (try simp only [δd,δe,δf]);first|done|rfl|(simp only [δg,δh];rfl)) ?_;(with_reducible refine (impl_isChain.calls a0 τ _ A20.out).mono ?_);rintro e w' ⟨rfl,⟨nd,rfl⟩⟩;refine ⟨_,rfl,?_⟩)|(go_at_call 81;(with_reducible refine (impl_StoreOK.calls kj3 _ _ l1 φ _ ?side1 ?side2 A22.out).mono ?_);(case side1=>repeat (first|exact (Kd.C_below HR1.out (by repeat (first|(with_reducible first|exact HB.out|apply δk|apply δi|apply δj)|exact HB.out)))|(with_reducible refine Kd.C_alloc ?_ _)|(with_reducible refine Kd.C_drewN ?_ _)|(with_reducible refine Kd.C_drew ?_)));(case side2=>exact HC1.out);rintro e w25 ⟨rfl,hb⟩;have n0_:=ζa (δr (by repeat (first|(with_reducible first|exact HB.out|apply δk|apply δi|apply δj)|exact HB.out)) hb);clear HB;have HB:=n0_;clear n0_;(try clear hb);(try clear hb2);(try clear hk);(try clear hi)))
      go_ret
      exact ⟨by first|rfl|(simp [errW_none,errW_some] <;> rfl)|(simp [*,errW_none,errW_some] <;> rfl),by repeat (first|(with_reducible first|exact HB.out|apply δk|apply δi|apply δj)|exact HB.out)⟩
    ·
     replace c21:=Bool.eq_false_iff.mpr c21
     subst c21
     have H1:(some 1)=some r:=by rw [if_neg (show ¬ (φ=τ) by decide)] at H;exact H
     clear H
     have H:=H1
     clear H1
     obtain rfl:=Option.some.inj H
     go_wp2_with (first|((with_reducible refine δv (f:=64) rfl ?_);refine goesL_ (some 24) rfl rfl Tryz.func64 (by kernel_rfl) rfl #[.string a0] rfl (by (try simp only [δd,δe,δf]);first|done|rfl|(simp only [δg,δh];rfl)) ?_;(with_reducible refine (impl_isChain.calls a0 φ _ A20.out).mono ?_);rintro e w' ⟨rfl,⟨nd,rfl⟩⟩;refine ⟨_,rfl,?_⟩))
     go_ret
     exact ⟨by first|rfl|(simp [errW_none,errW_some] <;> rfl)|(simp [*,errW_none,errW_some] <;> rfl),by repeat (first|(with_reducible first|exact HB.out|apply δk|apply δi|apply δj)|exact HB.out)⟩



/-! ### impl_NameOK: function 169 -/
def impl_NameOK.l0:Nat→ByteArray→Int→Int→Option (Bool)
 | 0,_,_,_=>none
 | k+1,x0,x7,x8=>if x8<x7 then (if 0≤x8 then (if x8<(x0.size:Int) then (if (bt x0 x8) ≥ 97 then (if (bt x0 x8)≤122 then (impl_NameOK.l0 k x0 x7 (ζm (x8+1))) else (if (bt x0 x8) ≥ 65 then (if (bt x0 x8)≤90 then (impl_NameOK.l0 k x0 x7 (ζm (x8+1))) else (if ((bt x0 x8)=95) then (impl_NameOK.l0 k x0 x7 (ζm (x8+1))) else (if x8=0 then (some φ) else (if (bt x0 x8)<48 then (some φ) else (if (bt x0 x8) > 57 then (some φ) else (impl_NameOK.l0 k x0 x7 (ζm (x8+1)))))))) else (if ((bt x0 x8)=95) then (impl_NameOK.l0 k x0 x7 (ζm (x8+1))) else (if x8=0 then (some φ) else (if (bt x0 x8)<48 then (some φ) else (if (bt x0 x8) > 57 then (some φ) else (impl_NameOK.l0 k x0 x7 (ζm (x8+1))))))))) else (if (bt x0 x8) ≥ 65 then (if (bt x0 x8)≤90 then (impl_NameOK.l0 k x0 x7 (ζm (x8+1))) else (if ((bt x0 x8)=95) then (impl_NameOK.l0 k x0 x7 (ζm (x8+1))) else (if x8=0 then (some φ) else (if (bt x0 x8)<48 then (some φ) else (if (bt x0 x8) > 57 then (some φ) else (impl_NameOK.l0 k x0 x7 (ζm (x8+1)))))))) else (if ((bt x0 x8)=95) then (impl_NameOK.l0 k x0 x7 (ζm (x8+1))) else (if x8=0 then (some φ) else (if (bt x0 x8)<48 then (some φ) else (if (bt x0 x8) > 57 then (some φ) else (impl_NameOK.l0 k x0 x7 (ζm (x8+1))))))))) else (none)) else (none)) else ((impl_within.f (x0.size:Int) 1 40).bind fun t161=>(some t161))
def impl_NameOK.f (k:Nat) (a0:ByteArray):Option (Bool):=impl_NameOK.l0 k a0 (a0.size:Int) 0
set_option maxHeartbeats 8000000 in
set_option maxRecDepth 100000 in
theorem impl_NameOK.calls (k:Nat) (a0:ByteArray) (r:Bool) (w:World) (h:impl_NameOK.f k a0=some r) :
  Calls Tryz.prog 169 #[.string a0] w fun e w'=>e = .returned (.bool r)∧Drawn0 w w':=by
 have H:(impl_NameOK.l0 k a0 (a0.size:Int) 0)=some r:=h
 clear h
 have H':=ζa H
 clear H
 go_enter Tryz.func169,Tryz.ntmps169
 go_wp2
 go_loopg [8] k (fun kq v8 w' => ∃ (x8_1:Int),v8 = .int .i64 x8_1∧Aside0 (impl_NameOK.l0 kq a0 (a0.size:Int) x8_1=some r)∧Aside0 (kq≤k)∧Drawn0 w w')
 case atStart=>exact ⟨(0),(by first|rfl|(simp;done)|(simp [*];done)),H',⟨Nat.le_refl _⟩,by repeat (first|exact Drawn0.refl _|apply Drawn0.step)⟩
 case round =>
  clear H'
  try clear c1
  obtain ⟨x8_1,rfl,HA,HK1,⟨m1,rfl⟩⟩:=hrel
  cases gk with
  | zero=>exact absurd HA.out (by simp [impl_NameOK.l0])
  | succ k1 =>
   have H:=HA.out
   clear HA
   simp only [impl_NameOK.l0] at H
   by_cases c2:x8_1<(a0.size:Int)
   ·
    rw [if_pos c2] at H
    have c2b0:decide (x8_1<(a0.size:Int))=τ:=decide_eq_true c2
    clear c2
    by_cases c3:0≤x8_1
    ·
     rw [if_pos c3] at H
     have c3b0:decide (0≤x8_1)=τ:=decide_eq_true c3
     clear c3
     by_cases c4:x8_1<(a0.size:Int)
     ·
      rw [if_pos c4] at H
      have c4b0:decide (x8_1<(a0.size:Int))=τ:=decide_eq_true c4
      clear c4
      by_cases c6:(bt a0 x8_1) ≥ 97
      ·
       rw [if_pos c6] at H
       have c6b0:decide (97≤(bt a0 x8_1))=τ:=decide_eq_true c6
       clear c6
       by_cases c7:(bt a0 x8_1)≤122
       ·
        rw [if_pos c7] at H
        have c7b0:decide ((bt a0 x8_1)≤122)=τ:=decide_eq_true c7
        clear c7
        have H':=ζa H
        clear H
        have p5:0≤(x8_1:Int):=of_decide_eq_true (by first|(with_reducible assumption)|assumption)
        have q5:x8_1<(a0.size:Int):=of_decide_eq_true (by first|(with_reducible assumption)|assumption)
        have hx5:=bt_at a0 x8_1
        replace p5:=eq_true p5
        replace q5:=eq_true q5
        go_wp2
        go_roundg k1
        case measure=>have:=HK1.out;omega
        case rel=>exact ⟨(ζm (x8_1+1)),(by first|rfl|(simp;done)|(simp [*];done)),H',⟨by have:=HK1.out;omega⟩,by repeat (first|exact Drawn0.refl _|apply Drawn0.step)⟩
       ·
        rw [if_neg c7] at H
        have c7b0:decide ((bt a0 x8_1)≤122)=φ:=decide_eq_false c7
        clear c7
        by_cases c8:(bt a0 x8_1) ≥ 65
        ·
         rw [if_pos c8] at H
         have c8b0:decide (65≤(bt a0 x8_1))=τ:=decide_eq_true c8
         clear c8
         by_cases c9:(bt a0 x8_1)≤90
         ·
          rw [if_pos c9] at H
          have c9b0:decide ((bt a0 x8_1)≤90)=τ:=decide_eq_true c9
          clear c9
          have H':=ζa H
          clear H
          have p5:0≤(x8_1:Int):=of_decide_eq_true (by first|(with_reducible assumption)|assumption)
          have q5:x8_1<(a0.size:Int):=of_decide_eq_true (by first|(with_reducible assumption)|assumption)
          have hx5:=bt_at a0 x8_1
          replace p5:=eq_true p5
          replace q5:=eq_true q5
          go_wp2
          go_roundg k1
          case measure=>have:=HK1.out;omega
          case rel=>exact ⟨(ζm (x8_1+1)),(by first|rfl|(simp;done)|(simp [*];done)),H',⟨by have:=HK1.out;omega⟩,by repeat (first|exact Drawn0.refl _|apply Drawn0.step)⟩
         ·
          rw [if_neg c9] at H
          have c9b0:decide ((bt a0 x8_1)≤90)=φ:=decide_eq_false c9
          clear c9
          by_cases c10:((bt a0 x8_1)=95)
          ·
           rw [if_pos c10] at H
           have c10b0:((bt a0 x8_1) == 95)=τ:=beq_iff_eq.mpr c10
           have c10b1:((bt a0 x8_1) != 95)=φ:=bne_eq_false_iff_eq.mpr c10
           clear c10
           have H':=ζa H
           clear H
           have p5:0≤(x8_1:Int):=of_decide_eq_true (by first|(with_reducible assumption)|assumption)
           have q5:x8_1<(a0.size:Int):=of_decide_eq_true (by first|(with_reducible assumption)|assumption)
           have hx5:=bt_at a0 x8_1
           replace p5:=eq_true p5
           replace q5:=eq_true q5
           go_wp2
           go_roundg k1
           case measure=>have:=HK1.out;omega
           case rel=>exact ⟨(ζm (x8_1+1)),(by first|rfl|(simp;done)|(simp [*];done)),H',⟨by have:=HK1.out;omega⟩,by repeat (first|exact Drawn0.refl _|apply Drawn0.step)⟩
          ·
           rw [if_neg c10] at H
           have c10b0:((bt a0 x8_1) == 95)=φ:=beq_eq_false_iff_ne.mpr c10
           have c10b1:((bt a0 x8_1) != 95)=τ:=bne_iff_ne.mpr c10
           by_cases c11:x8_1=0
           ·
            rw [if_pos c11] at H
            have c11b0:(x8_1 == 0)=τ:=beq_iff_eq.mpr c11
            have c11b1:(x8_1 != 0)=φ:=bne_eq_false_iff_eq.mpr c11
            clear c11
            obtain rfl:=Option.some.inj H
            have p5:0≤(x8_1:Int):=of_decide_eq_true (by first|(with_reducible assumption)|assumption)
            have q5:x8_1<(a0.size:Int):=of_decide_eq_true (by first|(with_reducible assumption)|assumption)
            have hx5:=bt_at a0 x8_1
            replace p5:=eq_true p5
            replace q5:=eq_true q5
            go_wp2
            go_ret
            exact ⟨by first|rfl|(simp;done)|(simp [*];done),by repeat (first|exact Drawn0.refl _|apply Drawn0.step)⟩
           ·
            rw [if_neg c11] at H
            have c11b0:(x8_1 == 0)=φ:=beq_eq_false_iff_ne.mpr c11
            have c11b1:(x8_1 != 0)=τ:=bne_iff_ne.mpr c11
            by_cases c12:(bt a0 x8_1)<48
            ·
             rw [if_pos c12] at H
             have c12b0:decide ((bt a0 x8_1)<48)=τ:=decide_eq_true c12
             clear c12
             obtain rfl:=Option.some.inj H
             have p5:0≤(x8_1:Int):=of_decide_eq_true (by first|(with_reducible assumption)|assumption)
             have q5:x8_1<(a0.size:Int):=of_decide_eq_true (by first|(with_reducible assumption)|assumption)
             have hx5:=bt_at a0 x8_1
             replace p5:=eq_true p5
             replace q5:=eq_true q5
             go_wp2
             go_ret
             exact ⟨by first|rfl|(simp;done)|(simp [*];done),by repeat (first|exact Drawn0.refl _|apply Drawn0.step)⟩
            ·
             rw [if_neg c12] at H
             have c12b0:decide ((bt a0 x8_1)<48)=φ:=decide_eq_false c12
             clear c12
             by_cases c13:(bt a0 x8_1) > 57
             ·
              rw [if_pos c13] at H
              have c13b0:decide (57<(bt a0 x8_1))=τ:=decide_eq_true c13
              clear c13
              obtain rfl:=Option.some.inj H
              have p5:0≤(x8_1:Int):=of_decide_eq_true (by first|(with_reducible assumption)|assumption)
              have q5:x8_1<(a0.size:Int):=of_decide_eq_true (by first|(with_reducible assumption)|assumption)
              have hx5:=bt_at a0 x8_1
              replace p5:=eq_true p5
              replace q5:=eq_true q5
              go_wp2
              go_ret
              exact ⟨by first|rfl|(simp;done)|(simp [*];done),by repeat (first|exact Drawn0.refl _|apply Drawn0.step)⟩
             ·
              rw [if_neg c13] at H
              have c13b0:decide (57<(bt a0 x8_1))=φ:=decide_eq_false c13
              clear c13
              have H':=ζa H
              clear H
              have p5:0≤(x8_1:Int):=of_decide_eq_true (by first|(with_reducible assumption)|assumption)
              have q5:x8_1<(a0.size:Int):=of_decide_eq_true (by first|(with_reducible assumption)|assumption)
              have hx5:=bt_at a0 x8_1
              replace p5:=eq_true p5
              replace q5:=eq_true q5
              go_wp2
              go_roundg k1
              case measure=>have:=HK1.out;omega
              case rel=>exact ⟨(ζm (x8_1+1)),(by first|rfl|(simp;done)|(simp [*];done)),H',⟨by have:=HK1.out;omega⟩,by repeat (first|exact Drawn0.refl _|apply Drawn0.step)⟩
        ·
         rw [if_neg c8] at H
         have c8b0:decide (65≤(bt a0 x8_1))=φ:=decide_eq_false c8
         clear c8
         by_cases c14:((bt a0 x8_1)=95)
         ·
          rw [if_pos c14] at H
          have c14b0:((bt a0 x8_1) == 95)=τ:=beq_iff_eq.mpr c14
          have c14b1:((bt a0 x8_1) != 95)=φ:=bne_eq_false_iff_eq.mpr c14
          clear c14
          have H':=ζa H
          clear H
          have p5:0≤(x8_1:Int):=of_decide_eq_true (by first|(with_reducible assumption)|assumption)
          have q5:x8_1<(a0.size:Int):=of_decide_eq_true (by first|(with_reducible assumption)|assumption)
          have hx5:=bt_at a0 x8_1
          replace p5:=eq_true p5
          replace q5:=eq_true q5
          go_wp2
          go_roundg k1
          case measure=>have:=HK1.out;omega
          case rel=>exact ⟨(ζm (x8_1+1)),(by first|rfl|(simp;done)|(simp [*];done)),H',⟨by have:=HK1.out;omega⟩,by repeat (first|exact Drawn0.refl _|apply Drawn0.step)⟩
         ·
          rw [if_neg c14] at H
          have c14b0:((bt a0 x8_1) == 95)=φ:=beq_eq_false_iff_ne.mpr c14
          have c14b1:((bt a0 x8_1) != 95)=τ:=bne_iff_ne.mpr c14
          by_cases c15:x8_1=0
          ·
           rw [if_pos c15] at H
           have c15b0:(x8_1 == 0)=τ:=beq_iff_eq.mpr c15
           have c15b1:(x8_1 != 0)=φ:=bne_eq_false_iff_eq.mpr c15
           clear c15
           obtain rfl:=Option.some.inj H
           have p5:0≤(x8_1:Int):=of_decide_eq_true (by first|(with_reducible assumption)|assumption)
           have q5:x8_1<(a0.size:Int):=of_decide_eq_true (by first|(with_reducible assumption)|assumption)
           have hx5:=bt_at a0 x8_1
           replace p5:=eq_true p5
           replace q5:=eq_true q5
           go_wp2
           go_ret
           exact ⟨by first|rfl|(simp;done)|(simp [*];done),by repeat (first|exact Drawn0.refl _|apply Drawn0.step)⟩
          ·
           rw [if_neg c15] at H
           have c15b0:(x8_1 == 0)=φ:=beq_eq_false_iff_ne.mpr c15
           have c15b1:(x8_1 != 0)=τ:=bne_iff_ne.mpr c15
           by_cases c16:(bt a0 x8_1)<48
           ·
            rw [if_pos c16] at H
            have c16b0:decide ((bt a0 x8_1)<48)=τ:=decide_eq_true c16
            clear c16
            obtain rfl:=Option.some.inj H
            have p5:0≤(x8_1:Int):=of_decide_eq_true (by first|(with_reducible assumption)|assumption)
            have q5:x8_1<(a0.size:Int):=of_decide_eq_true (by first|(with_reducible assumption)|assumption)
            have hx5:=bt_at a0 x8_1
            replace p5:=eq_true p5
            replace q5:=eq_true q5
            go_wp2
            go_ret
            exact ⟨by first|rfl|(simp;done)|(simp [*];done),by repeat (first|exact Drawn0.refl _|apply Drawn0.step)⟩
           ·
            rw [if_neg c16] at H
            have c16b0:decide ((bt a0 x8_1)<48)=φ:=decide_eq_false c16
            clear c16
            by_cases c17:(bt a0 x8_1) > 57
            ·
             rw [if_pos c17] at H
             have c17b0:decide (57<(bt a0 x8_1))=τ:=decide_eq_true c17
             clear c17
             obtain rfl:=Option.some.inj H
             have p5:0≤(x8_1:Int):=of_decide_eq_true (by first|(with_reducible assumption)|assumption)
             have q5:x8_1<(a0.size:Int):=of_decide_eq_true (by first|(with_reducible assumption)|assumption)
             have hx5:=bt_at a0 x8_1
             replace p5:=eq_true p5
             replace q5:=eq_true q5
             go_wp2
             go_ret
             exact ⟨by first|rfl|(simp;done)|(simp [*];done),by repeat (first|exact Drawn0.refl _|apply Drawn0.step)⟩
            ·
             rw [if_neg c17] at H
             have c17b0:decide (57<(bt a0 x8_1))=φ:=decide_eq_false c17
             clear c17
             have H':=ζa H
             clear H
             have p5:0≤(x8_1:Int):=of_decide_eq_true (by first|(with_reducible assumption)|assumption)
             have q5:x8_1<(a0.size:Int):=of_decide_eq_true (by first|(with_reducible assumption)|assumption)
             have hx5:=bt_at a0 x8_1
             replace p5:=eq_true p5
             replace q5:=eq_true q5
             go_wp2
             go_roundg k1
             case measure=>have:=HK1.out;omega
             case rel=>exact ⟨(ζm (x8_1+1)),(by first|rfl|(simp;done)|(simp [*];done)),H',⟨by have:=HK1.out;omega⟩,by repeat (first|exact Drawn0.refl _|apply Drawn0.step)⟩
      ·
       rw [if_neg c6] at H
       have c6b0:decide (97≤(bt a0 x8_1))=φ:=decide_eq_false c6
       clear c6
       by_cases c18:(bt a0 x8_1) ≥ 65
       ·
        rw [if_pos c18] at H
        have c18b0:decide (65≤(bt a0 x8_1))=τ:=decide_eq_true c18
        clear c18
        by_cases c19:(bt a0 x8_1)≤90
        ·
         rw [if_pos c19] at H
         have c19b0:decide ((bt a0 x8_1)≤90)=τ:=decide_eq_true c19
         clear c19
         have H':=ζa H
         clear H
         have p5:0≤(x8_1:Int):=of_decide_eq_true (by first|(with_reducible assumption)|assumption)
         have q5:x8_1<(a0.size:Int):=of_decide_eq_true (by first|(with_reducible assumption)|assumption)
         have hx5:=bt_at a0 x8_1
         replace p5:=eq_true p5
         replace q5:=eq_true q5
         go_wp2
         go_roundg k1
         case measure=>have:=HK1.out;omega
         case rel=>exact ⟨(ζm (x8_1+1)),(by first|rfl|(simp;done)|(simp [*];done)),H',⟨by have:=HK1.out;omega⟩,by repeat (first|exact Drawn0.refl _|apply Drawn0.step)⟩
        ·
         rw [if_neg c19] at H
         have c19b0:decide ((bt a0 x8_1)≤90)=φ:=decide_eq_false c19
         clear c19
         by_cases c20:((bt a0 x8_1)=95)
         ·
          rw [if_pos c20] at H
          have c20b0:((bt a0 x8_1) == 95)=τ:=beq_iff_eq.mpr c20
          have c20b1:((bt a0 x8_1) != 95)=φ:=bne_eq_false_iff_eq.mpr c20
          clear c20
          have H':=ζa H
          clear H
          have p5:0≤(x8_1:Int):=of_decide_eq_true (by first|(with_reducible assumption)|assumption)
          have q5:x8_1<(a0.size:Int):=of_decide_eq_true (by first|(with_reducible assumption)|assumption)
          have hx5:=bt_at a0 x8_1
          replace p5:=eq_true p5
          replace q5:=eq_true q5
          go_wp2
          go_roundg k1
          case measure=>have:=HK1.out;omega
          case rel=>exact ⟨(ζm (x8_1+1)),(by first|rfl|(simp;done)|(simp [*];done)),H',⟨by have:=HK1.out;omega⟩,by repeat (first|exact Drawn0.refl _|apply Drawn0.step)⟩
         ·
          rw [if_neg c20] at H
          have c20b0:((bt a0 x8_1) == 95)=φ:=beq_eq_false_iff_ne.mpr c20
          have c20b1:((bt a0 x8_1) != 95)=τ:=bne_iff_ne.mpr c20
          by_cases c21:x8_1=0
          ·
           rw [if_pos c21] at H
           have c21b0:(x8_1 == 0)=τ:=beq_iff_eq.mpr c21
           have c21b1:(x8_1 != 0)=φ:=bne_eq_false_iff_eq.mpr c21
           clear c21
           obtain rfl:=Option.some.inj H
           have p5:0≤(x8_1:Int):=of_decide_eq_true (by first|(with_reducible assumption)|assumption)
           have q5:x8_1<(a0.size:Int):=of_decide_eq_true (by first|(with_reducible assumption)|assumption)
           have hx5:=bt_at a0 x8_1
           replace p5:=eq_true p5
           replace q5:=eq_true q5
           go_wp2
           go_ret
           exact ⟨by first|rfl|(simp;done)|(simp [*];done),by repeat (first|exact Drawn0.refl _|apply Drawn0.step)⟩
          ·
           rw [if_neg c21] at H
           have c21b0:(x8_1 == 0)=φ:=beq_eq_false_iff_ne.mpr c21
           have c21b1:(x8_1 != 0)=τ:=bne_iff_ne.mpr c21
           by_cases c22:(bt a0 x8_1)<48
           ·
            rw [if_pos c22] at H
            have c22b0:decide ((bt a0 x8_1)<48)=τ:=decide_eq_true c22
            clear c22
            obtain rfl:=Option.some.inj H
            have p5:0≤(x8_1:Int):=of_decide_eq_true (by first|(with_reducible assumption)|assumption)
            have q5:x8_1<(a0.size:Int):=of_decide_eq_true (by first|(with_reducible assumption)|assumption)
            have hx5:=bt_at a0 x8_1
            replace p5:=eq_true p5
            replace q5:=eq_true q5
            go_wp2
            go_ret
            exact ⟨by first|rfl|(simp;done)|(simp [*];done),by repeat (first|exact Drawn0.refl _|apply Drawn0.step)⟩
           ·
            rw [if_neg c22] at H
            have c22b0:decide ((bt a0 x8_1)<48)=φ:=decide_eq_false c22
            clear c22
            by_cases c23:(bt a0 x8_1) > 57
            ·
             rw [if_pos c23] at H
             have c23b0:decide (57<(bt a0 x8_1))=τ:=decide_eq_true c23
             clear c23
             obtain rfl:=Option.some.inj H
             have p5:0≤(x8_1:Int):=of_decide_eq_true (by first|(with_reducible assumption)|assumption)
             have q5:x8_1<(a0.size:Int):=of_decide_eq_true (by first|(with_reducible assumption)|assumption)
             have hx5:=bt_at a0 x8_1
             replace p5:=eq_true p5
             replace q5:=eq_true q5
             go_wp2
             go_ret
             exact ⟨by first|rfl|(simp;done)|(simp [*];done),by repeat (first|exact Drawn0.refl _|apply Drawn0.step)⟩
            ·
             rw [if_neg c23] at H
             have c23b0:decide (57<(bt a0 x8_1))=φ:=decide_eq_false c23
             clear c23
             have H':=ζa H
             clear H
             have p5:0≤(x8_1:Int):=of_decide_eq_true (by first|(with_reducible assumption)|assumption)
             have q5:x8_1<(a0.size:Int):=of_decide_eq_true (by first|(with_reducible assumption)|assumption)
             have hx5:=bt_at a0 x8_1
             replace p5:=eq_true p5
             replace q5:=eq_true q5
             go_wp2
             go_roundg k1
             case measure=>have:=HK1.out;omega
             case rel=>exact ⟨(ζm (x8_1+1)),(by first|rfl|(simp;done)|(simp [*];done)),H',⟨by have:=HK1.out;omega⟩,by repeat (first|exact Drawn0.refl _|apply Drawn0.step)⟩
       ·
        rw [if_neg c18] at H
        have c18b0:decide (65≤(bt a0 x8_1))=φ:=decide_eq_false c18
        clear c18
        by_cases c24:((bt a0 x8_1)=95)
        ·
         rw [if_pos c24] at H
         have c24b0:((bt a0 x8_1) == 95)=τ:=beq_iff_eq.mpr c24
         have c24b1:((bt a0 x8_1) != 95)=φ:=bne_eq_false_iff_eq.mpr c24
         clear c24
         have H':=ζa H
         clear H
         have p5:0≤(x8_1:Int):=of_decide_eq_true (by first|(with_reducible assumption)|assumption)
         have q5:x8_1<(a0.size:Int):=of_decide_eq_true (by first|(with_reducible assumption)|assumption)
         have hx5:=bt_at a0 x8_1
         replace p5:=eq_true p5
         replace q5:=eq_true q5
         go_wp2
         go_roundg k1
         case measure=>have:=HK1.out;omega
         case rel=>exact ⟨(ζm (x8_1+1)),(by first|rfl|(simp;done)|(simp [*];done)),H',⟨by have:=HK1.out;omega⟩,by repeat (first|exact Drawn0.refl _|apply Drawn0.step)⟩
        ·
         rw [if_neg c24] at H
         have c24b0:((bt a0 x8_1) == 95)=φ:=beq_eq_false_iff_ne.mpr c24
         have c24b1:((bt a0 x8_1) != 95)=τ:=bne_iff_ne.mpr c24
         by_cases c25:x8_1=0
         ·
          rw [if_pos c25] at H
          have c25b0:(x8_1 == 0)=τ:=beq_iff_eq.mpr c25
          have c25b1:(x8_1 != 0)=φ:=bne_eq_false_iff_eq.mpr c25
          clear c25
          obtain rfl:=Option.some.inj H
          have p5:0≤(x8_1:Int):=of_decide_eq_true (by first|(with_reducible assumption)|assumption)
          have q5:x8_1<(a0.size:Int):=of_decide_eq_true (by first|(with_reducible assumption)|assumption)
          have hx5:=bt_at a0 x8_1
          replace p5:=eq_true p5
          replace q5:=eq_true q5
          go_wp2
          go_ret
          exact ⟨by first|rfl|(simp;done)|(simp [*];done),by repeat (first|exact Drawn0.refl _|apply Drawn0.step)⟩
         ·
          rw [if_neg c25] at H
          have c25b0:(x8_1 == 0)=φ:=beq_eq_false_iff_ne.mpr c25
          have c25b1:(x8_1 != 0)=τ:=bne_iff_ne.mpr c25
          by_cases c26:(bt a0 x8_1)<48
          ·
           rw [if_pos c26] at H
           have c26b0:decide ((bt a0 x8_1)<48)=τ:=decide_eq_true c26
           clear c26
           obtain rfl:=Option.some.inj H
           have p5:0≤(x8_1:Int):=of_decide_eq_true (by first|(with_reducible assumption)|assumption)
           have q5:x8_1<(a0.size:Int):=of_decide_eq_true (by first|(with_reducible assumption)|assumption)
           have hx5:=bt_at a0 x8_1
           replace p5:=eq_true p5
           replace q5:=eq_true q5
           go_wp2
           go_ret
           exact ⟨by first|rfl|(simp;done)|(simp [*];done),by repeat (first|exact Drawn0.refl _|apply Drawn0.step)⟩
          ·
           rw [if_neg c26] at H
           have c26b0:decide ((bt a0 x8_1)<48)=φ:=decide_eq_false c26
           clear c26
           by_cases c27:(bt a0 x8_1) > 57
           ·
            rw [if_pos c27] at H
            have c27b0:decide (57<(bt a0 x8_1))=τ:=decide_eq_true c27
            clear c27
            obtain rfl:=Option.some.inj H
            have p5:0≤(x8_1:Int):=of_decide_eq_true (by first|(with_reducible assumption)|assumption)
            have q5:x8_1<(a0.size:Int):=of_decide_eq_true (by first|(with_reducible assumption)|assumption)
            have hx5:=bt_at a0 x8_1
            replace p5:=eq_true p5
            replace q5:=eq_true q5
            go_wp2
            go_ret
            exact ⟨by first|rfl|(simp;done)|(simp [*];done),by repeat (first|exact Drawn0.refl _|apply Drawn0.step)⟩
           ·
            rw [if_neg c27] at H
            have c27b0:decide (57<(bt a0 x8_1))=φ:=decide_eq_false c27
            clear c27
            have H':=ζa H
            clear H
            have p5:0≤(x8_1:Int):=of_decide_eq_true (by first|(with_reducible assumption)|assumption)
            have q5:x8_1<(a0.size:Int):=of_decide_eq_true (by first|(with_reducible assumption)|assumption)
            have hx5:=bt_at a0 x8_1
            replace p5:=eq_true p5
            replace q5:=eq_true q5
            go_wp2
            go_roundg k1
            case measure=>have:=HK1.out;omega
            case rel=>exact ⟨(ζm (x8_1+1)),(by first|rfl|(simp;done)|(simp [*];done)),H',⟨by have:=HK1.out;omega⟩,by repeat (first|exact Drawn0.refl _|apply Drawn0.step)⟩
     ·
      rw [if_neg c4] at H
      exact absurd H (by simp)
    ·
     rw [if_neg c3] at H
     exact absurd H (by simp)
   ·
    rw [if_neg c2] at H
    have c2b0:decide (x8_1<(a0.size:Int))=φ:=decide_eq_false c2
    clear c2
    replace H:=Option.bind_eq_some_iff.mp H
    obtain ⟨t161,A280,H⟩:=H
    replace H:(some t161)=some r:=H
    have A28:=ζa A280
    clear A280
    obtain rfl:=Option.some.inj H
    go_wp2_with (first|((with_reducible refine δv (f:=161) rfl ?_);refine goesL_ (some 49) rfl rfl Tryz.func161 (by kernel_rfl) rfl #[.int .i64 (a0.size:Int),.int .i64 1,.int .i64 40] rfl (by (try simp only [δd,δe,δf]);first|done|rfl|(simp only [δg,δh];rfl)) ?_;(with_reducible refine (impl_within.calls (a0.size:Int) 1 40 t161 _ A28.out).mono ?_);rintro e w' ⟨rfl,⟨nd,rfl⟩⟩;refine ⟨_,rfl,?_⟩))
    go_ret
    exact ⟨by first|rfl|(simp;done)|(simp [*];done),by repeat (first|exact Drawn0.refl _|apply Drawn0.step)⟩



/-! ### impl_DenomOK: function 114 -/
def impl_DenomOK.f (k:Nat) (a0:ByteArray):Option (Bool):=(impl_NameOK.f k a0).bind fun t162=>(if t162=τ then (some (decide ((a0.size:Int)≤12))) else (some φ))
set_option maxHeartbeats 8000000 in
set_option maxRecDepth 100000 in
theorem impl_DenomOK.calls (k:Nat) (a0:ByteArray) (r:Bool) (w:World) (h:impl_DenomOK.f k a0=some r) :
  Calls Tryz.prog 114 #[.string a0] w fun e w'=>e = .returned (.bool r)∧Drawn0 w w':=by
 have H:((impl_NameOK.f k a0).bind fun t162=>(if t162=τ then (some (decide ((a0.size:Int)≤12))) else (some φ)))=some r:=h
 clear h
 replace H:=Option.bind_eq_some_iff.mp H
 obtain ⟨t162,A20,H⟩:=H
 replace H:(if t162=τ then (some (decide ((a0.size:Int)≤12))) else (some φ))=some r:=H
 have A2:=ζa A20
 clear A20
 by_cases c3:t162=τ
 ·
  subst c3
  have H1:(some (decide ((a0.size:Int)≤12)))=some r:=by rw [if_pos rfl] at H;exact H
  clear H
  have H:=H1
  clear H1
  obtain rfl:=Option.some.inj H
  go_enter Tryz.func114,Tryz.ntmps114
  go_wp2_with (first|((with_reducible refine δv (f:=169) rfl ?_);refine goesL_ (some 4) rfl rfl Tryz.func169 (by kernel_rfl) rfl #[.string a0] rfl (by (try simp only [δd,δe,δf]);first|done|rfl|(simp only [δg,δh];rfl)) ?_;(with_reducible refine (impl_NameOK.calls k a0 τ _ A2.out).mono ?_);rintro e w' ⟨rfl,⟨nd,rfl⟩⟩;refine ⟨_,rfl,?_⟩))
  go_ret
  exact ⟨by first|rfl|(simp;done)|(simp [*];done),by repeat (first|exact Drawn0.refl _|apply Drawn0.step)⟩
 ·
  replace c3:=Bool.eq_false_iff.mpr c3
  subst c3
  have H1:(some φ)=some r:=by rw [if_neg (show ¬ (φ=τ) by decide)] at H;exact H
  clear H
  have H:=H1
  clear H1
  obtain rfl:=Option.some.inj H
  go_enter Tryz.func114,Tryz.ntmps114
  go_wp2_with (first|((with_reducible refine δv (f:=169) rfl ?_);refine goesL_ (some 4) rfl rfl Tryz.func169 (by kernel_rfl) rfl #[.string a0] rfl (by (try simp only [δd,δe,δf]);first|done|rfl|(simp only [δg,δh];rfl)) ?_;(with_reducible refine (impl_NameOK.calls k a0 φ _ A2.out).mono ?_);rintro e w' ⟨rfl,⟨nd,rfl⟩⟩;refine ⟨_,rfl,?_⟩))
  go_ret
  exact ⟨by first|rfl|(simp;done)|(simp [*];done),by repeat (first|exact Drawn0.refl _|apply Drawn0.step)⟩



/-! ### impl_areNames: function 63 -/
def impl_areNames.l0:Nat→List ByteArray→Int→Int→Option (Bool)
 | 0,_,_,_=>none
 | k+1,x5,x6,x7=>if x7<x6 then (if 0≤x7 then (if x7<(x5.length:Int) then ((impl_DenomOK.f k (rdOf ByteArray.empty x5 x7)).bind fun t164=>(if t164=τ then (impl_areNames.l0 k x5 x6 (ζm (x7+1))) else (some φ))) else (none)) else (none)) else (some τ)
def impl_areNames.f (k:Nat) (l0:List ByteArray):Option (Bool):=impl_areNames.l0 k l0 (l0.length:Int) 0
set_option maxHeartbeats 8000000 in
set_option maxRecDepth 100000 in
theorem impl_areNames.calls (k:Nat) (A0:Option Addr) (c0:Nat) (l0:List ByteArray) (r:Bool) (w:World) (hr0:Kd.C Kd.string w A0 l0.length l0) (hc0:l0.length≤c0) (h:impl_areNames.f k l0=some r) :
  Calls Tryz.prog 63 #[.slice A0 l0.length c0] w fun e w'=>e = .returned (.bool r)∧Drawn0 w w':=by
 have HR0:=ζa hr0
 have HC0:=ζa hc0
 clear hr0 hc0
 have H:(impl_areNames.l0 k l0 (l0.length:Int) 0)=some r:=h
 clear h
 have H':=ζa H
 clear H
 go_enter Tryz.func63,Tryz.ntmps63
 go_wp2
 go_loopg [7] k (fun kq v7 w' => ∃ (x7_1:Int),v7 = .int .i64 x7_1∧Aside0 (impl_areNames.l0 kq l0 (l0.length:Int) x7_1=some r)∧Aside0 (kq≤k)∧Drawn0 w w')
 case atStart=>exact ⟨(0),(by first|rfl|(simp;done)|(simp [*];done)),H',⟨Nat.le_refl _⟩,by repeat (first|exact Drawn0.refl _|apply Drawn0.step)⟩
 case round =>
  clear H'
  obtain ⟨x7_1,rfl,HA,HK1,⟨m1,rfl⟩⟩:=hrel
  cases gk with
  | zero=>exact absurd HA.out (by simp [impl_areNames.l0])
  | succ k1 =>
   have H:=HA.out
   clear HA
   simp only [impl_areNames.l0] at H
   by_cases c2:x7_1<(l0.length:Int)
   ·
    rw [if_pos c2] at H
    have c2b0:decide (x7_1<(l0.length:Int))=τ:=decide_eq_true c2
    clear c2
    by_cases c3:0≤x7_1
    ·
     rw [if_pos c3] at H
     have c3b0:decide (0≤x7_1)=τ:=decide_eq_true c3
     clear c3
     by_cases c4:x7_1<(l0.length:Int)
     ·
      rw [if_pos c4] at H
      have c4b0:decide (x7_1<(l0.length:Int))=τ:=decide_eq_true c4
      clear c4
      replace H:=Option.bind_eq_some_iff.mp H
      obtain ⟨t164,A50,H⟩:=H
      replace H:(if t164=τ then (impl_areNames.l0 k1 l0 (l0.length:Int) (ζm (x7_1+1))) else (some φ))=some r:=H
      have A5:=ζa A50
      clear A50
      by_cases c6:t164=τ
      ·
       subst c6
       have H1:(impl_areNames.l0 k1 l0 (l0.length:Int) (ζm (x7_1+1)))=some r:=by rw [if_pos rfl] at H;exact H
       clear H
       have H:=H1
       clear H1
       have H':=ζa H
       clear H
       have p163:0≤(x7_1:Int):=of_decide_eq_true (by first|(with_reducible assumption)|assumption)
       have q163:x7_1<(l0.length:Int):=of_decide_eq_true (by first|(with_reducible assumption)|assumption)
       obtain ⟨ad163,e163,hx163_0⟩:=Kd.at_string HR0.out x7_1 p163 q163
       cases e163
       replace p163:=eq_true p163
       replace q163:=eq_true q163
       go_wp2_with (first|((with_reducible refine δv (f:=114) rfl ?_);refine goesL_ (some 12) rfl rfl Tryz.func114 (by kernel_rfl) rfl #[.string (rdOf ByteArray.empty l0 x7_1)] rfl (by (try simp only [δd,δe,δf]);first|done|rfl|(simp only [δg,δh];rfl)) ?_;(with_reducible refine (impl_DenomOK.calls k1 (rdOf ByteArray.empty l0 x7_1) τ _ A5.out).mono ?_);rintro e w' ⟨rfl,⟨nd,rfl⟩⟩;refine ⟨_,rfl,?_⟩))
       go_roundg k1
       case measure=>have:=HK1.out;omega
       case rel=>exact ⟨(ζm (x7_1+1)),(by first|rfl|(simp;done)|(simp [*];done)),H',⟨by have:=HK1.out;omega⟩,by repeat (first|exact Drawn0.refl _|apply Drawn0.step)⟩
      ·
       replace c6:=Bool.eq_false_iff.mpr c6
       subst c6
       have H1:(some φ)=some r:=by rw [if_neg (show ¬ (φ=τ) by decide)] at H;exact H
       clear H
       have H:=H1
       clear H1
       obtain rfl:=Option.some.inj H
       have p163:0≤(x7_1:Int):=of_decide_eq_true (by first|(with_reducible assumption)|assumption)
       have q163:x7_1<(l0.length:Int):=of_decide_eq_true (by first|(with_reducible assumption)|assumption)
       obtain ⟨ad163,e163,hx163_0⟩:=Kd.at_string HR0.out x7_1 p163 q163
       cases e163
       replace p163:=eq_true p163
       replace q163:=eq_true q163
       go_wp2_with (first|((with_reducible refine δv (f:=114) rfl ?_);refine goesL_ (some 12) rfl rfl Tryz.func114 (by kernel_rfl) rfl #[.string (rdOf ByteArray.empty l0 x7_1)] rfl (by (try simp only [δd,δe,δf]);first|done|rfl|(simp only [δg,δh];rfl)) ?_;(with_reducible refine (impl_DenomOK.calls k1 (rdOf ByteArray.empty l0 x7_1) φ _ A5.out).mono ?_);rintro e w' ⟨rfl,⟨nd,rfl⟩⟩;refine ⟨_,rfl,?_⟩))
       go_ret
       exact ⟨by first|rfl|(simp;done)|(simp [*];done),by repeat (first|exact Drawn0.refl _|apply Drawn0.step)⟩
     ·
      rw [if_neg c4] at H
      exact absurd H (by simp)
    ·
     rw [if_neg c3] at H
     exact absurd H (by simp)
   ·
    rw [if_neg c2] at H
    have c2b0:decide (x7_1<(l0.length:Int))=φ:=decide_eq_false c2
    clear c2
    obtain rfl:=Option.some.inj H
    go_wp2
    go_ret
    exact ⟨by first|rfl|(simp;done)|(simp [*];done),by repeat (first|exact Drawn0.refl _|apply Drawn0.step)⟩



/-! ### impl_isPeople: function 121 -/
def impl_isPeople.bad (t:ByteArray):Bool:=t.toList == ([101,115,99,114,111,119]:List UInt8) || (t.toList == ([111,114,100,101,114,115]:List UInt8) || (t.toList == ([116,97,107,101,115]:List UInt8) || t.toList == ([112,111,111,108]:List UInt8)))
def impl_isPeople.f (k:Nat) (l0:List ByteArray):Option Bool:=(impl_areNames.f k l0).bind fun t=>if t=τ then some (!(l0.any impl_isPeople.bad)) else some φ
theorem impl_isPeople.lit (a0:ByteArray) (w:World) :
  Calls Tryz.prog 175 #[.string a0] w fun e w'=>e = .returned (.bool (impl_isPeople.bad a0))∧Drawn0 w w':=by
 unfold impl_isPeople.bad
 cases h1:(a0.toList == ([101,115,99,114,111,119]:List UInt8)) <;> cases h2:(a0.toList == ([111,114,100,101,114,115]:List UInt8)) <;> cases h3:(a0.toList == ([116,97,107,101,115]:List UInt8)) <;>
 ·
  go_enter Tryz.func175,Tryz.ntmps175
  go_wp2
  go_ret
  exact ⟨by first|rfl|(simp;done)|(simp [*];done),by repeat (first|exact Drawn0.refl _|apply Drawn0.step)⟩
theorem impl_isPeople.calls (k:Nat) (A0:Option Addr) (c0:Nat) (l0:List ByteArray) (r:Bool) (w:World) (hr0:Kd.C Kd.string w A0 l0.length l0) (hc0:l0.length≤c0) (h:impl_isPeople.f k l0=some r) :
  Calls Tryz.prog 121 #[.slice A0 l0.length c0] w fun e w'=>e = .returned (.bool r)∧Drawn0 w w':=by
 obtain ⟨t,ht,h⟩:=Option.bind_eq_some_iff.mp h
 have HA:=ζa ht
 clear ht
 cases t with
 | true =>
  rw [if_pos rfl] at h
  obtain rfl:=Option.some.inj h
  go_enter Tryz.func121,Tryz.ntmps121
  go_wp2_with (first
   | (go_at_call 63;refine (impl_areNames.calls k A0 c0 l0 _ _ hr0 hc0 HA.out).mono ?_;rintro e w' ⟨rfl,⟨q',rfl⟩⟩)
   | (go_at_call 112;refine (slices_ContainsFunc_string_string.at_ 175 (enters_of Tryz.func175 (by kernel_rfl) rfl) _ impl_isPeople.lit A0 c0 l0 _ (by exact Kd.C_drewN hr0 _)).mono ?_;rintro e w' ⟨rfl,⟨q',rfl⟩⟩))
  go_ret
  exact ⟨rfl,by repeat (first|exact Drawn0.refl _|apply Drawn0.step)⟩
 | false =>
  rw [if_neg (by decide)] at h
  obtain rfl:=Option.some.inj h
  go_enter Tryz.func121,Tryz.ntmps121
  go_wp2_with (first
   | (go_at_call 63;refine (impl_areNames.calls k A0 c0 l0 _ _ hr0 hc0 HA.out).mono ?_;rintro e w' ⟨rfl,⟨q',rfl⟩⟩))
  go_ret
  exact ⟨rfl,by repeat (first|exact Drawn0.refl _|apply Drawn0.step)⟩



/-! ### impl_isSome: function 122 -/
def impl_isSome.f (a0:Int):Option (Bool):=(impl_within.f a0 1 1000000000000000000).bind fun t165=>(some t165)
set_option maxHeartbeats 8000000 in
set_option maxRecDepth 100000 in
theorem impl_isSome.calls (a0:Int) (r:Bool) (w:World) (h:impl_isSome.f a0=some r) :
  Calls Tryz.prog 122 #[.int .i64 a0] w fun e w'=>e = .returned (.bool r)∧Drawn0 w w':=by
 have H:((impl_within.f a0 1 1000000000000000000).bind fun t165=>(some t165))=some r:=h
 clear h
 replace H:=Option.bind_eq_some_iff.mp H
 obtain ⟨t165,A20,H⟩:=H
 replace H:(some t165)=some r:=H
 have A2:=ζa A20
 clear A20
 obtain rfl:=Option.some.inj H
 go_enter Tryz.func122,Tryz.ntmps122
 go_wp2_with (first|((with_reducible refine δv (f:=161) rfl ?_);refine goesL_ (some 4) rfl rfl Tryz.func161 (by kernel_rfl) rfl #[.int .i64 a0,.int .i64 1,.int .i64 1000000000000000000] rfl (by (try simp only [δd,δe,δf]);first|done|rfl|(simp only [δg,δh];rfl)) ?_;(with_reducible refine (impl_within.calls a0 1 1000000000000000000 t165 _ A2.out).mono ?_);rintro e w' ⟨rfl,⟨nd,rfl⟩⟩;refine ⟨_,rfl,?_⟩))
 go_ret
 exact ⟨by first|rfl|(simp;done)|(simp [*];done),by repeat (first|exact Drawn0.refl _|apply Drawn0.step)⟩


open Go.Proofs.YtabmfhnhmoiljaaGreatDoorW.PrintWords renaming gate_dst → δx, box_event → δz, below_step → δr, below_alloc → δk, pw_below_drewN → δi, below_drew1 → δj, below_size → δs, blk_cell → δl, blk_frozen → δm, below_set → δq, blk_drewN → δn, blk_drew → δp, blk_alloc → δo, gate_callee → δv
open Go.Proofs.YtabmfhnhmoiljaaGreatDoorW.PrintWords.Kd renaming R_reads' → ζg, R_alloc → ζd, R_drewN → ζc, R_drew → ζe

/-! ### impl_take_isRight: function 82 -/
def impl_take_isRight.f (k:Nat) (a0_0:ByteArray) (a0_1:ByteArray) (a0_2:ByteArray) (a0_3:Int):Option (Bool):=(impl_areNames.f k (([a0_0]:List ByteArray))).bind fun t170=>(if t170=τ then ((impl_isPeople.f k (([a0_1,a0_2]:List ByteArray))).bind fun t174=>(if t174=τ then ((impl_isSome.f a0_3).bind fun t175=>(some t175)) else (some φ))) else (some φ))
set_option maxHeartbeats 8000000 in
set_option maxRecDepth 100000 in
theorem impl_take_isRight.calls (k:Nat) (a0_0:ByteArray) (a0_1:ByteArray) (a0_2:ByteArray) (a0_3:Int) (r:Bool) (w:World) (h:impl_take_isRight.f k a0_0 a0_1 a0_2 a0_3=some r) :
  Calls Tryz.prog 82 #[.agg #[.string a0_0,.string a0_1,.string a0_2,.int .i64 a0_3]] w fun e w'=>e = .returned (.bool r)∧Below w.heap.size w w':=by
 have hu56:=Tryz.underlying56
 have HB:=ζa (Below.refl w.heap.size w)
 have H:((impl_areNames.f k (([a0_0]:List ByteArray))).bind fun t170=>(if t170=τ then ((impl_isPeople.f k (([a0_1,a0_2]:List ByteArray))).bind fun t174=>(if t174=τ then ((impl_isSome.f a0_3).bind fun t175=>(some t175)) else (some φ))) else (some φ)))=some r:=h
 clear h
 obtain ⟨y167,hy167⟩ : ∃ y_:List ByteArray,y_=(([a0_0]:List ByteArray)):=⟨_,rfl⟩
 replace H:((impl_areNames.f k y167).bind fun t170=>(if t170=τ then ((impl_isPeople.f k (([a0_1,a0_2]:List ByteArray))).bind fun t174=>(if t174=τ then ((impl_isSome.f a0_3).bind fun t175=>(some t175)) else (some φ))) else (some φ)))=some r:=by first|(rw [hy167];with_reducible exact H)|(have H2_:=(Option.bind_some _ _).symm.trans H;rw [hy167];with_reducible exact H2_)|(have H2_:=(Option.bind_some _ _).symm.trans H;with_reducible exact H2_)|with_reducible exact H|(rw [hy167];exact H)|exact H
 have Ny167:=ζa hy167
 clear hy167
 replace H:=Option.bind_eq_some_iff.mp H
 obtain ⟨t170,A20,H⟩:=H
 replace H:(if t170=τ then ((impl_isPeople.f k (([a0_1,a0_2]:List ByteArray))).bind fun t174=>(if t174=τ then ((impl_isSome.f a0_3).bind fun t175=>(some t175)) else (some φ))) else (some φ))=some r:=H
 have A2:=ζa A20
 clear A20
 by_cases c3:t170=τ
 ·
  subst c3
  have H1:((impl_isPeople.f k (([a0_1,a0_2]:List ByteArray))).bind fun t174=>(if t174=τ then ((impl_isSome.f a0_3).bind fun t175=>(some t175)) else (some φ)))=some r:=by rw [if_pos rfl] at H;exact H
  clear H
  have H:=H1
  clear H1
  obtain ⟨y171,hy171⟩ : ∃ y_:List ByteArray,y_=(([a0_1,a0_2]:List ByteArray)):=⟨_,rfl⟩
  replace H:((impl_isPeople.f k y171).bind fun t174=>(if t174=τ then ((impl_isSome.f a0_3).bind fun t175=>(some t175)) else (some φ)))=some r:=by first|(rw [hy171];with_reducible exact H)|(have H2_:=(Option.bind_some _ _).symm.trans H;rw [hy171];with_reducible exact H2_)|(have H2_:=(Option.bind_some _ _).symm.trans H;with_reducible exact H2_)|with_reducible exact H|(rw [hy171];exact H)|exact H
  have Ny171:=ζa hy171
  clear hy171
  replace H:=Option.bind_eq_some_iff.mp H
  obtain ⟨t174,A40,H⟩:=H
  replace H:(if t174=τ then ((impl_isSome.f a0_3).bind fun t175=>(some t175)) else (some φ))=some r:=H
  have A4:=ζa A40
  clear A40
  by_cases c5:t174=τ
  ·
   subst c5
   have H1:((impl_isSome.f a0_3).bind fun t175=>(some t175))=some r:=by rw [if_pos rfl] at H;exact H
   clear H
   have H:=H1
   clear H1
   replace H:=Option.bind_eq_some_iff.mp H
   obtain ⟨t175,A60,H⟩:=H
   replace H:(some t175)=some r:=H
   have A6:=ζa A60
   clear A60
   obtain rfl:=Option.some.inj H
   go_enter Tryz.func82,Tryz.ntmps82
   go_wp2_with (first|((with_reducible refine δx (N:=1) rfl ?_);(try (refine gate_guard (by rfl) ?_;dsimp only));refine δz ?hg (N:=1) ?hd (cs:=#[.string a0_0,.string a0_1,.string a0_2,.int .i64 a0_3]) (t:=56) ?hr ?_;(case hd=>rfl);(case hg=>rfl);(case hr=>first|(go_simp;done)|(go_simp;rfl));intro gb166 hg w7 hbox hb;have n0_:=ζa (δr (by repeat (first|(with_reducible first|exact HB.out|apply δk|apply δi|apply δj)|exact HB.out)) hb);have n1_:=ζa (hbox);have n2_:=ζa ((by rw [hg];exact (δs (by repeat (first|(with_reducible first|exact HB.out|apply δk|apply δi|apply δj)|exact HB.out))):w.heap.size≤gb166));have n3_:=ζa ((by rw [hg];exact (δs (by repeat (first|(with_reducible first|exact HB.out|apply δk|apply δi|apply δj)|exact HB.out))):w.heap.size≤gb166));clear HB;have HB:=n0_;have BK166:=n1_;have GW166:=n2_;have GE166:=n3_;clear n0_ n1_ n2_ n3_;clear hb hbox hg;have hcz8_0:w7.cell? ⟨gb166,0,none⟩=some (.string a0_0):=(δl BK166.out 0).trans rfl;have hcz8_1:w7.cell? ⟨gb166,1,none⟩=some (.string a0_1):=(δl BK166.out 1).trans rfl;have hcz8_2:w7.cell? ⟨gb166,2,none⟩=some (.string a0_2):=(δl BK166.out 2).trans rfl;have hcz8_3:w7.cell? ⟨gb166,3,none⟩=some (.int .i64 a0_3):=(δl BK166.out 3).trans rfl;have hfz8_0:=δm BK166.out 0;have hfz8_1:=δm BK166.out 1;have hfz8_2:=δm BK166.out 2;have hfz8_3:=δm BK166.out 3)|((with_reducible refine δx (N:=5) rfl ?_);(try (refine gate_guard (by rfl) ?_;dsimp only));refine Kd.R_lit Kd.string _ 9 ?hg (N:=5) ?hd (xs:=([a0_0]:List ByteArray)) (inner:=[.string a0_0]) (ok:=fun _=>True) (okp:=fun _=>True) ?hr ?hp (fun _ hk=>hk) trivial (Below.refl _ _) (Nat.le_refl _) (by simp) ?_;(case hd=>rfl);(case hg=>rfl);(case hr=>first|(go_simp;done)|(go_simp;rfl));(case hp=>exact (Reps.one (show Kd.M Kd.string _ _ _ a0_0 [.string a0_0] from rfl) (Reps.none _ _)));intro v168 w9 ho10 hb hg_ hnew_;clear hg_ hnew_;(first|rw [← Ny167.out] at ho10|(simp only [Int.reduceToNat] at ho10;rw [← Ny167.out] at ho10));have n0_:=ζa (Kd.R_lower ho10 (δs (by repeat (first|(with_reducible first|exact HB.out|apply δk|apply δi|apply δj|refine δq ?_ GE166.out)|exact HB.out))));have n1_:=ζa (blk_below (g:=gb166) (o:=.cells #[.string a0_0,.string a0_1,.string a0_2,.int .i64 a0_3] 56 (0,0)) (by (with_reducible repeat (first|refine δn ?_ _|refine δp ?_|refine δo ?_ _));exact BK166.out) hb);have n2_:=ζa (δr (by repeat (first|(with_reducible first|exact HB.out|apply δk|apply δi|apply δj|refine δq ?_ GE166.out)|exact HB.out)) hb);clear BK166;clear HB;have HO169:=n0_;have BK166:=n1_;have HB:=n2_;clear n0_ n1_ n2_;clear hb ho10;obtain ⟨Ao11,co11,eo11⟩:=Kd.R_slice HO169.out;subst eo11)|((with_reducible refine δv (f:=63) rfl ?_);refine goesL_ (some 6) rfl rfl Tryz.func63 (by kernel_rfl) rfl #[.slice Ao11 y167.length co11] rfl (by (try simp only [δd,δe,δf]);first|done|rfl|(simp only [δg,δh];rfl)) ?_;(with_reducible refine (impl_areNames.calls k _ _ y167 τ _ ?side1 ?side2 A2.out).mono ?_);(case side1=>repeat (first|exact (ζg HO169.out).2.2|(with_reducible refine Kd.C_alloc ?_ _)|(with_reducible refine Kd.C_drewN ?_ _)|(with_reducible refine Kd.C_drew ?_)));(case side2=>exact (ζg HO169.out).2.1);rintro e w' ⟨rfl,⟨nd,rfl⟩⟩;refine ⟨_,rfl,?_⟩;have hcz12_0:w9.cell? ⟨gb166,0,none⟩=some (.string a0_0):=(δl BK166.out 0).trans rfl;have hcz12_1:w9.cell? ⟨gb166,1,none⟩=some (.string a0_1):=(δl BK166.out 1).trans rfl;have hcz12_2:w9.cell? ⟨gb166,2,none⟩=some (.string a0_2):=(δl BK166.out 2).trans rfl;have hcz12_3:w9.cell? ⟨gb166,3,none⟩=some (.int .i64 a0_3):=(δl BK166.out 3).trans rfl;have hfz12_0:=δm BK166.out 0;have hfz12_1:=δm BK166.out 1;have hfz12_2:=δm BK166.out 2;have hfz12_3:=δm BK166.out 3)|((with_reducible refine δx (N:=12) rfl ?_);(try (refine gate_guard (by rfl) ?_;dsimp only));refine Kd.R_lit Kd.string _ 9 ?hg (N:=12) ?hd (xs:=([a0_1,a0_2]:List ByteArray)) (inner:=[.string a0_1,.string a0_2]) (ok:=fun _=>True) (okp:=fun _=>True) ?hr ?hp (fun _ hk=>hk) trivial (Below.refl _ _) (Nat.le_refl _) (by simp) ?_;(case hd=>rfl);(case hg=>rfl);(case hr=>first|(go_simp;done)|(go_simp;rfl));(case hp=>exact (Reps.one (show Kd.M Kd.string _ _ _ a0_1 [.string a0_1] from rfl) (Reps.one (show Kd.M Kd.string _ _ _ a0_2 [.string a0_2] from rfl) (Reps.none _ _))));intro v172 w13 ho14 hb hg_ hnew_;clear hg_ hnew_;(first|rw [← Ny171.out] at ho14|(simp only [Int.reduceToNat] at ho14;rw [← Ny171.out] at ho14));have n0_:=ζa (Kd.R_elder' (by (with_reducible repeat (first|apply ζd|apply ζc|apply ζe));exact HO169.out) (Kd.R_base ho14) hb);have n1_:=ζa (Kd.R_lower (Kd.R_new' ho14 (Kd.R_lt (by (with_reducible repeat (first|apply ζd|apply ζc|apply ζe));exact HO169.out))) (δs (by repeat (first|(with_reducible first|exact HB.out|apply δk|apply δi|apply δj|refine δq ?_ GE166.out)|exact HB.out))));have n2_:=ζa (blk_below (g:=gb166) (o:=.cells #[.string a0_0,.string a0_1,.string a0_2,.int .i64 a0_3] 56 (0,0)) (by (with_reducible repeat (first|refine δn ?_ _|refine δp ?_|refine δo ?_ _));exact BK166.out) hb);have n3_:=ζa (δr (by repeat (first|(with_reducible first|exact HB.out|apply δk|apply δi|apply δj|refine δq ?_ GE166.out)|exact HB.out)) hb);clear HO169;clear BK166;clear HB;have HO169:=n0_;have HO173:=n1_;have BK166:=n2_;have HB:=n3_;clear n0_ n1_ n2_ n3_;clear hb ho14;obtain ⟨Ao15,co15,eo15⟩:=Kd.R_slice HO173.out;subst eo15)|(go_at_call 121;(with_reducible refine (impl_isPeople.calls k _ _ y171 τ _ ?side1 ?side2 A4.out).mono ?_);(case side1=>repeat (first|exact (ζg HO173.out).2.2|(with_reducible refine Kd.C_alloc ?_ _)|(with_reducible refine Kd.C_drewN ?_ _)|(with_reducible refine Kd.C_drew ?_)));(case side2=>exact (ζg HO173.out).2.1);rintro e w' ⟨rfl,⟨nd,rfl⟩⟩;have hcz16_0:w13.cell? ⟨gb166,0,none⟩=some (.string a0_0):=(δl BK166.out 0).trans rfl;have hcz16_1:w13.cell? ⟨gb166,1,none⟩=some (.string a0_1):=(δl BK166.out 1).trans rfl;have hcz16_2:w13.cell? ⟨gb166,2,none⟩=some (.string a0_2):=(δl BK166.out 2).trans rfl;have hcz16_3:w13.cell? ⟨gb166,3,none⟩=some (.int .i64 a0_3):=(δl BK166.out 3).trans rfl;have hfz16_0:=δm BK166.out 0;have hfz16_1:=δm BK166.out 1;have hfz16_2:=δm BK166.out 2;have hfz16_3:=δm BK166.out 3)|(go_at_call 122;(with_reducible refine (impl_isSome.calls a0_3 t175 _ A6.out).mono ?_);rintro e w' ⟨rfl,⟨nd,rfl⟩⟩))
   go_ret
   exact ⟨by first|rfl|(simp [errW_none,errW_some] <;> rfl)|(simp [*,errW_none,errW_some] <;> rfl),by repeat (first|(with_reducible first|exact HB.out|apply δk|apply δi|apply δj|refine δq ?_ GE166.out)|exact HB.out)⟩
  ·
   replace c5:=Bool.eq_false_iff.mpr c5
   subst c5
   have H1:(some φ)=some r:=by rw [if_neg (show ¬ (φ=τ) by decide)] at H;exact H
   clear H
   have H:=H1
   clear H1
   obtain rfl:=Option.some.inj H
   go_enter Tryz.func82,Tryz.ntmps82
   go_wp2_with (first|((with_reducible refine δx (N:=1) rfl ?_);(try (refine gate_guard (by rfl) ?_;dsimp only));refine δz ?hg (N:=1) ?hd (cs:=#[.string a0_0,.string a0_1,.string a0_2,.int .i64 a0_3]) (t:=56) ?hr ?_;(case hd=>rfl);(case hg=>rfl);(case hr=>first|(go_simp;done)|(go_simp;rfl));intro gb166 hg w17 hbox hb;have n0_:=ζa (δr (by repeat (first|(with_reducible first|exact HB.out|apply δk|apply δi|apply δj)|exact HB.out)) hb);have n1_:=ζa (hbox);have n2_:=ζa ((by rw [hg];exact (δs (by repeat (first|(with_reducible first|exact HB.out|apply δk|apply δi|apply δj)|exact HB.out))):w.heap.size≤gb166));have n3_:=ζa ((by rw [hg];exact (δs (by repeat (first|(with_reducible first|exact HB.out|apply δk|apply δi|apply δj)|exact HB.out))):w.heap.size≤gb166));clear HB;have HB:=n0_;have BK166:=n1_;have GW166:=n2_;have GE166:=n3_;clear n0_ n1_ n2_ n3_;clear hb hbox hg;have hcz18_0:w17.cell? ⟨gb166,0,none⟩=some (.string a0_0):=(δl BK166.out 0).trans rfl;have hcz18_1:w17.cell? ⟨gb166,1,none⟩=some (.string a0_1):=(δl BK166.out 1).trans rfl;have hcz18_2:w17.cell? ⟨gb166,2,none⟩=some (.string a0_2):=(δl BK166.out 2).trans rfl;have hcz18_3:w17.cell? ⟨gb166,3,none⟩=some (.int .i64 a0_3):=(δl BK166.out 3).trans rfl;have hfz18_0:=δm BK166.out 0;have hfz18_1:=δm BK166.out 1;have hfz18_2:=δm BK166.out 2;have hfz18_3:=δm BK166.out 3)|((with_reducible refine δx (N:=5) rfl ?_);(try (refine gate_guard (by rfl) ?_;dsimp only));refine Kd.R_lit Kd.string _ 9 ?hg (N:=5) ?hd (xs:=([a0_0]:List ByteArray)) (inner:=[.string a0_0]) (ok:=fun _=>True) (okp:=fun _=>True) ?hr ?hp (fun _ hk=>hk) trivial (Below.refl _ _) (Nat.le_refl _) (by simp) ?_;(case hd=>rfl);(case hg=>rfl);(case hr=>first|(go_simp;done)|(go_simp;rfl));(case hp=>exact (Reps.one (show Kd.M Kd.string _ _ _ a0_0 [.string a0_0] from rfl) (Reps.none _ _)));intro v168 w19 ho20 hb hg_ hnew_;clear hg_ hnew_;(first|rw [← Ny167.out] at ho20|(simp only [Int.reduceToNat] at ho20;rw [← Ny167.out] at ho20));have n0_:=ζa (Kd.R_lower ho20 (δs (by repeat (first|(with_reducible first|exact HB.out|apply δk|apply δi|apply δj|refine δq ?_ GE166.out)|exact HB.out))));have n1_:=ζa (blk_below (g:=gb166) (o:=.cells #[.string a0_0,.string a0_1,.string a0_2,.int .i64 a0_3] 56 (0,0)) (by (with_reducible repeat (first|refine δn ?_ _|refine δp ?_|refine δo ?_ _));exact BK166.out) hb);have n2_:=ζa (δr (by repeat (first|(with_reducible first|exact HB.out|apply δk|apply δi|apply δj|refine δq ?_ GE166.out)|exact HB.out)) hb);clear BK166;clear HB;have HO169:=n0_;have BK166:=n1_;have HB:=n2_;clear n0_ n1_ n2_;clear hb ho20;obtain ⟨Ao21,co21,eo21⟩:=Kd.R_slice HO169.out;subst eo21)|((with_reducible refine δv (f:=63) rfl ?_);refine goesL_ (some 6) rfl rfl Tryz.func63 (by kernel_rfl) rfl #[.slice Ao21 y167.length co21] rfl (by (try simp only [δd,δe,δf]);first|done|rfl|(simp only [δg,δh];rfl)) ?_;(with_reducible refine (impl_areNames.calls k _ _ y167 τ _ ?side1 ?side2 A2.out).mono ?_);(case side1=>repeat (first|exact (ζg HO169.out).2.2|(with_reducible refine Kd.C_alloc ?_ _)|(with_reducible refine Kd.C_drewN ?_ _)|(with_reducible refine Kd.C_drew ?_)));(case side2=>exact (ζg HO169.out).2.1);rintro e w' ⟨rfl,⟨nd,rfl⟩⟩;refine ⟨_,rfl,?_⟩;have hcz22_0:w19.cell? ⟨gb166,0,none⟩=some (.string a0_0):=(δl BK166.out 0).trans rfl;have hcz22_1:w19.cell? ⟨gb166,1,none⟩=some (.string a0_1):=(δl BK166.out 1).trans rfl;have hcz22_2:w19.cell? ⟨gb166,2,none⟩=some (.string a0_2):=(δl BK166.out 2).trans rfl;have hcz22_3:w19.cell? ⟨gb166,3,none⟩=some (.int .i64 a0_3):=(δl BK166.out 3).trans rfl;have hfz22_0:=δm BK166.out 0;have hfz22_1:=δm BK166.out 1;have hfz22_2:=δm BK166.out 2;have hfz22_3:=δm BK166.out 3)|((with_reducible refine δx (N:=12) rfl ?_);(try (refine gate_guard (by rfl) ?_;dsimp only));refine Kd.R_lit Kd.string _ 9 ?hg (N:=12) ?hd (xs:=([a0_1,a0_2]:List ByteArray)) (inner:=[.string a0_1,.string a0_2]) (ok:=fun _=>True) (okp:=fun _=>True) ?hr ?hp (fun _ hk=>hk) trivial (Below.refl _ _) (Nat.le_refl _) (by simp) ?_;(case hd=>rfl);(case hg=>rfl);(case hr=>first|(go_simp;done)|(go_simp;rfl));(case hp=>exact (Reps.one (show Kd.M Kd.string _ _ _ a0_1 [.string a0_1] from rfl) (Reps.one (show Kd.M Kd.string _ _ _ a0_2 [.string a0_2] from rfl) (Reps.none _ _))));intro v172 w23 ho24 hb hg_ hnew_;clear hg_ hnew_;(first|rw [← Ny171.out] at ho24|(simp only [Int.reduceToNat] at ho24;rw [← Ny171.out] at ho24));have n0_:=ζa (Kd.R_elder' (by (with_reducible repeat (first|apply ζd|apply ζc|apply ζe));exact HO169.out) (Kd.R_base ho24) hb);have n1_:=ζa (Kd.R_lower (Kd.R_new' ho24 (Kd.R_lt (by (with_reducible repeat (first|apply ζd|apply ζc|apply ζe));exact HO169.out))) (δs (by repeat (first|(with_reducible first|exact HB.out|apply δk|apply δi|apply δj|refine δq ?_ GE166.out)|exact HB.out))));have n2_:=ζa (blk_below (g:=gb166) (o:=.cells #[.string a0_0,.string a0_1,.string a0_2,.int .i64 a0_3] 56 (0,0)) (by (with_reducible repeat (first|refine δn ?_ _|refine δp ?_|refine δo ?_ _));exact BK166.out) hb);have n3_:=ζa (δr (by repeat (first|(with_reducible first|exact HB.out|apply δk|apply δi|apply δj|refine δq ?_ GE166.out)|exact HB.out)) hb);clear HO169;clear BK166;clear HB;have HO169:=n0_;have HO173:=n1_;have BK166:=n2_;have HB:=n3_;clear n0_ n1_ n2_ n3_;clear hb ho24;obtain ⟨Ao25,co25,eo25⟩:=Kd.R_slice HO173.out;subst eo25)|(go_at_call 121;(with_reducible refine (impl_isPeople.calls k _ _ y171 φ _ ?side1 ?side2 A4.out).mono ?_);(case side1=>repeat (first|exact (ζg HO173.out).2.2|(with_reducible refine Kd.C_alloc ?_ _)|(with_reducible refine Kd.C_drewN ?_ _)|(with_reducible refine Kd.C_drew ?_)));(case side2=>exact (ζg HO173.out).2.1);rintro e w' ⟨rfl,⟨nd,rfl⟩⟩))
   go_ret
   exact ⟨by first|rfl|(simp [errW_none,errW_some] <;> rfl)|(simp [*,errW_none,errW_some] <;> rfl),by repeat (first|(with_reducible first|exact HB.out|apply δk|apply δi|apply δj|refine δq ?_ GE166.out)|exact HB.out)⟩
 ·
  replace c3:=Bool.eq_false_iff.mpr c3
  subst c3
  have H1:(some φ)=some r:=by rw [if_neg (show ¬ (φ=τ) by decide)] at H;exact H
  clear H
  have H:=H1
  clear H1
  obtain rfl:=Option.some.inj H
  go_enter Tryz.func82,Tryz.ntmps82
  go_wp2_with (first|((with_reducible refine δx (N:=1) rfl ?_);(try (refine gate_guard (by rfl) ?_;dsimp only));refine δz ?hg (N:=1) ?hd (cs:=#[.string a0_0,.string a0_1,.string a0_2,.int .i64 a0_3]) (t:=56) ?hr ?_;(case hd=>rfl);(case hg=>rfl);(case hr=>first|(go_simp;done)|(go_simp;rfl));intro gb166 hg w26 hbox hb;have n0_:=ζa (δr (by repeat (first|(with_reducible first|exact HB.out|apply δk|apply δi|apply δj)|exact HB.out)) hb);have n1_:=ζa (hbox);have n2_:=ζa ((by rw [hg];exact (δs (by repeat (first|(with_reducible first|exact HB.out|apply δk|apply δi|apply δj)|exact HB.out))):w.heap.size≤gb166));have n3_:=ζa ((by rw [hg];exact (δs (by repeat (first|(with_reducible first|exact HB.out|apply δk|apply δi|apply δj)|exact HB.out))):w.heap.size≤gb166));clear HB;have HB:=n0_;have BK166:=n1_;have GW166:=n2_;have GE166:=n3_;clear n0_ n1_ n2_ n3_;clear hb hbox hg;have hcz27_0:w26.cell? ⟨gb166,0,none⟩=some (.string a0_0):=(δl BK166.out 0).trans rfl;have hcz27_1:w26.cell? ⟨gb166,1,none⟩=some (.string a0_1):=(δl BK166.out 1).trans rfl;have hcz27_2:w26.cell? ⟨gb166,2,none⟩=some (.string a0_2):=(δl BK166.out 2).trans rfl;have hcz27_3:w26.cell? ⟨gb166,3,none⟩=some (.int .i64 a0_3):=(δl BK166.out 3).trans rfl;have hfz27_0:=δm BK166.out 0;have hfz27_1:=δm BK166.out 1;have hfz27_2:=δm BK166.out 2;have hfz27_3:=δm BK166.out 3)|((with_reducible refine δx (N:=5) rfl ?_);(try (refine gate_guard (by rfl) ?_;dsimp only));refine Kd.R_lit Kd.string _ 9 ?hg (N:=5) ?hd (xs:=([a0_0]:List ByteArray)) (inner:=[.string a0_0]) (ok:=fun _=>True) (okp:=fun _=>True) ?hr ?hp (fun _ hk=>hk) trivial (Below.refl _ _) (Nat.le_refl _) (by simp) ?_;(case hd=>rfl);(case hg=>rfl);(case hr=>first|(go_simp;done)|(go_simp;rfl));(case hp=>exact (Reps.one (show Kd.M Kd.string _ _ _ a0_0 [.string a0_0] from rfl) (Reps.none _ _)));intro v168 w28 ho29 hb hg_ hnew_;clear hg_ hnew_;(first|rw [← Ny167.out] at ho29|(simp only [Int.reduceToNat] at ho29;rw [← Ny167.out] at ho29));have n0_:=ζa (Kd.R_lower ho29 (δs (by repeat (first|(with_reducible first|exact HB.out|apply δk|apply δi|apply δj|refine δq ?_ GE166.out)|exact HB.out))));have n1_:=ζa (blk_below (g:=gb166) (o:=.cells #[.string a0_0,.string a0_1,.string a0_2,.int .i64 a0_3] 56 (0,0)) (by (with_reducible repeat (first|refine δn ?_ _|refine δp ?_|refine δo ?_ _));exact BK166.out) hb);have n2_:=ζa (δr (by repeat (first|(with_reducible first|exact HB.out|apply δk|apply δi|apply δj|refine δq ?_ GE166.out)|exact HB.out)) hb);clear BK166;clear HB;have HO169:=n0_;have BK166:=n1_;have HB:=n2_;clear n0_ n1_ n2_;clear hb ho29;obtain ⟨Ao30,co30,eo30⟩:=Kd.R_slice HO169.out;subst eo30)|((with_reducible refine δv (f:=63) rfl ?_);refine goesL_ (some 6) rfl rfl Tryz.func63 (by kernel_rfl) rfl #[.slice Ao30 y167.length co30] rfl (by (try simp only [δd,δe,δf]);first|done|rfl|(simp only [δg,δh];rfl)) ?_;(with_reducible refine (impl_areNames.calls k _ _ y167 φ _ ?side1 ?side2 A2.out).mono ?_);(case side1=>repeat (first|exact (ζg HO169.out).2.2|(with_reducible refine Kd.C_alloc ?_ _)|(with_reducible refine Kd.C_drewN ?_ _)|(with_reducible refine Kd.C_drew ?_)));(case side2=>exact (ζg HO169.out).2.1);rintro e w' ⟨rfl,⟨nd,rfl⟩⟩;refine ⟨_,rfl,?_⟩))
  go_ret
  exact ⟨by first|rfl|(simp [errW_none,errW_some] <;> rfl)|(simp [*,errW_none,errW_some] <;> rfl),by repeat (first|(with_reducible first|exact HB.out|apply δk|apply δi|apply δj|refine δq ?_ GE166.out)|exact HB.out)⟩


open Go.Proofs.YtabmfhnhmoiljaaGreatDoorW.PrintWords renaming gate_dst → δx

/-! ### slices_Clone_impl_Pair_impl_Pair: function 83 -/
def slices_Clone_impl_Pair_impl_Pair.f (l0:List (S51)):Option (List (S51)):=if l0.length≤4398046511104 then some l0 else none
set_option maxHeartbeats 1000000 in
set_option maxRecDepth 100000 in
theorem slices_Clone_impl_Pair_impl_Pair.some_ (ad:Addr) (c0:Nat) (l0:List (S51)) (w:World) (hr0:Kd.C k51 w (some ad) l0.length l0) (hl:l0.length * 32≤140737488355328) :
  Calls Tryz.prog 83 #[.slice (some ad) l0.length c0] w fun e w' => ∃ v0_:Value,e = .returned (v0_)∧Kd.R k51 51 w' w.heap.size (fun _=>True) v0_ l0∧Below w.heap.size w w':=by
 have HR:=ζa hr0
 have HL:=ζa hl
 clear hr0 hl
 have q : ∀ (w:World),(binOp .eql 24 (.slice (some ad) l0.length c0) (.slice none 0 0)).run Tryz.prog w = .ok (.bool φ) w:=fun w=>Lib.run_eql_slice_nil w 24 51 (some ad) l0.length c0 0 0 Tryz.underlying24
 go_enter Tryz.func83,Tryz.ntmps83
 go_wp2_with (first
  | ((with_reducible refine δx (N:=5) rfl ?_);refine Kd.R_lit k51 _ 51 ?hg (N:=5) ?hd (xs:=([]:List S51)) (inner:=[]) (ok:=fun _=>True) (okp:=fun _=>True) ?hr ?hp (fun _ hk=>hk) trivial (Below.refl _ _) (Nat.le_refl _) (by simp) ?_;(case hd=>rfl);(case hg=>rfl);(case hr=>first|(go_simp;done)|(go_simp;rfl));(case hp=>exact (Reps.none _ _));intro v5 w5 ho5 hb5 hg_ hnew_;clear hg_ hnew_;have HO:=ζa ho5;have HB:=ζa hb5;clear ho5 hb5)
  | ((with_reducible refine δx (N:=7) rfl ?_);refine Kd.R_append_rows (w0:=w) (Rr:=k51.K w5) k51 w.heap.size ?hg (.tmp 5) (.tmp 6) 24 51 (.agg #[(.string ⟨#[]⟩),(.string ⟨#[]⟩)]) 32 rfl Tryz.underlying24 info51 rfl (by decide) (by decide) v5 [] l0 (some ad) l0.length c0 (fun _=>True) (fun _=>False) rfl rfl HO.out (Kd.C_below HR.out HB.out) (fun x cs h=>by rw [k51_open h];exact k51_mkM _ _ _ x) (fun _ h=>h.elim) (fun _ _=>trivial) HB.out HB.out.size (by have:=HL.out;simpa using this) ?_;(case hg=>rfl);intro v7 w7 ho7 hb7 hg_ hnew_;clear hg_ hnew_;have HO7:=ζa ho7;have HB7:=ζa hb7;clear ho7 hb7))
 go_ret
 exact ⟨_,rfl,HO7.out,HB7.out⟩
set_option maxHeartbeats 1000000 in
theorem slices_Clone_impl_Pair_impl_Pair.none_ (n c0:Nat) (w:World) :
  Calls Tryz.prog 83 #[.slice none n c0] w fun e w'=>e = .returned (.slice none 0 0)∧w=w':=by
 have q : ∀ (w:World),(binOp .eql 24 (.slice none n c0) (.slice none 0 0)).run Tryz.prog w = .ok (.bool τ) w:=fun w=>Lib.run_eql_slice_nil w 24 51 none n c0 0 0 Tryz.underlying24
 go_enter Tryz.func83,Tryz.ntmps83
 go_wp2
 go_ret
 exact ⟨rfl,rfl⟩
theorem slices_Clone_impl_Pair_impl_Pair.calls (A0:Option Addr) (c0:Nat) (l0:List (S51)) (r:List (S51)) (w:World) (hr0:Kd.C k51 w A0 l0.length l0) (hc0:l0.length≤c0) (h:slices_Clone_impl_Pair_impl_Pair.f l0=some r) :
  Calls Tryz.prog 83 #[.slice A0 l0.length c0] w fun e w' => ∃ v0_:Value,e = .returned (v0_)∧Kd.R k51 51 w' w.heap.size (fun _=>True) v0_ r∧Below w.heap.size w w':=by
 unfold slices_Clone_impl_Pair_impl_Pair.f at h
 by_cases hl:l0.length≤4398046511104
 ·
  rw [if_pos hl] at h
  obtain rfl:=Option.some.inj h
  cases A0 with
  | some ad=>exact slices_Clone_impl_Pair_impl_Pair.some_ ad c0 l0 w hr0 (by omega)
  | none =>
   have h0:l0.length=0:=by
    rcases Nat.eq_zero_or_pos l0.length with h0|h0
    · exact h0
    ·
     obtain ⟨ad,h,_⟩:=hr0.2.2 h0
     cases h
   obtain rfl:l0 = []:=List.eq_nil_of_length_eq_zero h0
   refine (slices_Clone_impl_Pair_impl_Pair.none_ _ c0 w).mono ?_
   rintro e w' ⟨rfl,rfl⟩
   exact ⟨_,rfl,Kd.R_nil _ _ _ _ _,Below.refl _ _⟩
 · rw [if_neg hl] at h;cases h



/-! ### strings_Compare: function 195 -/
def strings_Compare.f (a0 : ByteArray) (a1 : ByteArray) : Option Int := some (Lib.compareBytes a0.data.toList a1.data.toList)
theorem strings_Compare.calls (a0 : ByteArray) (a1 : ByteArray) (r : Int) (w : World) (h : strings_Compare.f a0 a1 = some r) :
    Calls Tryz.prog 195 #[.string a0, .string a1] w fun e w' => e = .returned (.int .i64 r) ∧ Drawn0 w w' := by
  obtain rfl := Option.some.inj h
  refine (Tryz.strings_Compare a0 a1 w).mono ?_
  rintro e w' ⟨rfl, rfl⟩
  exact ⟨rfl, Drawn0.refl _⟩


open Go.Proofs.YtabmfhnhmoiljaaGreatDoorW.PrintWords renaming gate_dst → δx, box_event → δz, below_step → δr, below_alloc → δk, pw_below_drewN → δi, below_drew1 → δj, below_size → δs, blk_cell → δl, blk_frozen → δm, gate_callee → δv, below_set → δq

/-! ### impl_pairAt_1: function 194 -/
def impl_pairAt_1.f (a0_0:ByteArray) (a0_1:ByteArray) (a1:ByteArray):Option (Int):=(strings_Compare.f a0_0 a1).bind fun t177=>(some t177)
set_option maxHeartbeats 8000000 in
set_option maxRecDepth 100000 in
theorem impl_pairAt_1.calls (a0_0:ByteArray) (a0_1:ByteArray) (a1:ByteArray) (r:Int) (w:World) (h:impl_pairAt_1.f a0_0 a0_1 a1=some r) :
  Calls Tryz.prog 194 #[.agg #[.string a0_0,.string a0_1],.string a1] w fun e w'=>e = .returned (.int .i64 r)∧Below w.heap.size w w':=by
 have hu51:=Tryz.underlying51
 have HB:=ζa (Below.refl w.heap.size w)
 have H:((strings_Compare.f a0_0 a1).bind fun t177=>(some t177))=some r:=h
 clear h
 replace H:=Option.bind_eq_some_iff.mp H
 obtain ⟨t177,A30,H⟩:=H
 replace H:(some t177)=some r:=H
 have A3:=ζa A30
 clear A30
 obtain rfl:=Option.some.inj H
 go_enter Tryz.func194,Tryz.ntmps194
 go_wp2_with (first|((with_reducible refine δx (N:=2) rfl ?_);refine δz ?hg (N:=2) ?hd (cs:=#[.string a0_0,.string a0_1]) (t:=51) ?hr ?_;(case hd=>rfl);(case hg=>rfl);(case hr=>first|(go_simp;done)|(go_simp;rfl));intro gb176 hg w4 hbox hb;have n0_:=ζa (δr (by repeat (first|(with_reducible first|exact HB.out|apply δk|apply δi|apply δj)|exact HB.out)) hb);have n1_:=ζa (hbox);have n2_:=ζa ((by rw [hg];exact (δs (by repeat (first|(with_reducible first|exact HB.out|apply δk|apply δi|apply δj)|exact HB.out))):w.heap.size≤gb176));have n3_:=ζa ((by rw [hg];exact (δs (by repeat (first|(with_reducible first|exact HB.out|apply δk|apply δi|apply δj)|exact HB.out))):w.heap.size≤gb176));clear HB;have HB:=n0_;have BK176:=n1_;have GW176:=n2_;have GE176:=n3_;clear n0_ n1_ n2_ n3_;clear hb hbox hg;have hcz5_0:w4.cell? ⟨gb176,0,none⟩=some (.string a0_0):=(δl BK176.out 0).trans rfl;have hcz5_1:w4.cell? ⟨gb176,1,none⟩=some (.string a0_1):=(δl BK176.out 1).trans rfl;have hfz5_0:=δm BK176.out 0;have hfz5_1:=δm BK176.out 1)|((with_reducible refine δv (f:=195) rfl ?_);refine goesL_ (some 8) rfl rfl Tryz.func195 (by kernel_rfl) rfl #[.string a0_0,.string a1] rfl (by (try simp only [δd,δe,δf]);first|done|rfl|(simp only [δg,δh];rfl)) ?_;(with_reducible refine (strings_Compare.calls a0_0 a1 t177 _ A3.out).mono ?_);rintro e w' ⟨rfl,⟨nd,rfl⟩⟩;refine ⟨_,rfl,?_⟩))
 go_ret
 exact ⟨by first|rfl|(simp [errW_none,errW_some] <;> rfl)|(simp [*,errW_none,errW_some] <;> rfl),by repeat (first|(with_reducible first|exact HB.out|apply δk|apply δi|apply δj|refine δq ?_ GE176.out)|exact HB.out)⟩


open Go.Proofs.YtabmfhnhmoiljaaGreatDoorW.PrintWords renaming below_step → δr

/-! ### impl_pairAt: function 162 -/
def impl_pairAt.l0:Nat→List S51→ByteArray→Int→Int→Option Int
 | 0,_,_,_,_=>none
 | k+1,l,key,i,j=>if i<j then (if 0≤(i+j) / 2 then (if (i+j) / 2<(l.length:Int) then (if Lib.compareBytes ((rd_T51 l ((i+j) / 2)).f0).data.toList key.data.toList<0 then (impl_pairAt.l0 k l key ((i+j) / 2+1) j) else (impl_pairAt.l0 k l key i ((i+j) / 2))) else none) else none) else some i
def impl_pairAt.hit (l:List S51) (key:ByteArray) (r:Int):Bool:=decide (r<(l.length:Int)) && (Lib.compareBytes ((rd_T51 l r).f0).data.toList key.data.toList == 0)
def impl_pairAt.f (k:Nat) (l0:List S51) (a1:ByteArray):Option (Int × Bool):=(impl_pairAt.l0 k l0 a1 0 (l0.length:Int)).bind fun r=>if (l0.length:Int)<1000000000000 then (if 0≤r then (if r≤(l0.length:Int) then some (r,impl_pairAt.hit l0 a1 r) else none) else none) else none
theorem impl_pairAt.lit (x:S51) (key:ByteArray) (w:World) :
  Calls Tryz.prog 194 #[.agg #[.string x.f0,.string x.f1],.string key] w fun e w'=>e = .returned (.int .i64 (Lib.compareBytes x.f0.data.toList key.data.toList))∧Below w.heap.size w w' :=
 impl_pairAt_1.calls x.f0 x.f1 key _ w rfl
set_option maxHeartbeats 4000000 in
set_option maxRecDepth 100000 in
theorem impl_pairAt.search (k:Nat) (A0:Option Addr) (c0:Nat) (l0:List S51) (key:ByteArray) (r:Int) (w:World) (hr0:Kd.C k51 w A0 l0.length l0)
  (h:impl_pairAt.l0 k l0 key 0 (l0.length:Int)=some r) (hlen:(l0.length:Int)<1000000000000) (hr:0≤r) (hr':r≤(l0.length:Int)) :
  Calls Tryz.prog 193 #[.slice A0 l0.length c0,.string key,.func (.func 194) #[] #[]] w fun e w'=>e = .returned (.tuple #[.int .i64 r,.bool (impl_pairAt.hit l0 key r)])∧Below w.heap.size w w':=by
 have HR0:=ζa hr0
 have HB:=ζa (Below.refl w.heap.size w)
 clear hr0
 have H':=ζa h
 clear h
 go_enter Tryz.func193,Tryz.ntmps193
 go_wp2
 go_loopg [9,10] k (fun kq v9 v10 w' => ∃ i j:Int,v9 = .int .i64 i∧v10 = .int .i64 j∧0≤i∧i≤j∧j≤(l0.length:Int)∧Aside0 (impl_pairAt.l0 kq l0 key i j=some r)∧Aside0 (Below w.heap.size w w'))
 case atStart=>exact ⟨0,(l0.length:Int),rfl,rfl,by omega,by omega,by omega,H',HB⟩
 case round =>
  clear H' HB
  obtain ⟨i,j,rfl,rfl,g0,g1,g2,HA,HB⟩:=hrel
  cases gk with
  | zero=>exact absurd HA.out (by simp [impl_pairAt.l0])
  | succ k1 =>
   have H:=HA.out
   clear HA
   simp only [impl_pairAt.l0] at H
   by_cases c2:i<j
   ·
    rw [if_pos c2] at H
    have p0:0≤(i+j) / 2:=by omega
    have p1:(i+j) / 2<(l0.length:Int):=by omega
    rw [if_pos p0,if_pos p1] at H
    obtain ⟨ad,e1,hx0,hx1⟩:=at_T51 HR0.out _ p0 p1
    cases e1
    replace hx0:=(HB.out.cell (World.block_lt_of_cell? w _ hx0)).trans hx0
    replace hx1:=(HB.out.cell (World.block_lt_of_cell? w _ hx1)).trans hx1
    have hcall:=impl_pairAt.lit (rd_T51 l0 ((i+j) / 2)) key
    obtain ⟨X,hX⟩ : ∃ X,Lib.compareBytes ((rd_T51 l0 ((i+j) / 2)).f0).data.toList key.data.toList=X:=⟨_,rfl⟩
    rw [hX] at hcall H
    clear hX
    have hcall':=ζa hcall
    clear hcall
    go_wp2_with fail
    refine (hcall'.out _).mono ?_
    rintro e w' ⟨rfl,hb⟩
    have HB2:=ζa (δr HB.out hb)
    clear hb HB hcall'
    by_cases c3:X<0
    ·
     rw [if_pos c3] at H
     have H':=ζa H
     clear H hr hr'
     have hw1:IntKind.i64.wrap ((i+j) / 2+1)=(i+j) / 2+1:=IntWalk.i64_in _ (by omega)
     have q1:(i+j) / 2<j:=by omega
     have c3b:decide (X<0)=τ:=decide_eq_true c3
     clear c3
     generalize hm:(i+j) / 2=m at *
     clear hm p1
     go_wp2
     go_roundg k1
     case measure=>omega
     case rel=>exact ⟨m+1,j,by first|rfl|(simp;done),rfl,by omega,by omega,by omega,H',HB2⟩
    ·
     rw [if_neg c3] at H
     have H':=ζa H
     clear H hr hr'
     have q1:(i+j) / 2<j:=by omega
     have q2:i≤(i+j) / 2:=by omega
     have c3b:decide (X<0)=φ:=decide_eq_false c3
     clear c3
     generalize hm:(i+j) / 2=m at *
     clear hm p1
     go_wp2
     go_roundg k1
     case measure=>omega
     case rel=>exact ⟨i,m,rfl,by first|rfl|(simp;done),by omega,by omega,by omega,H',HB2⟩
   ·
    rw [if_neg c2] at H
    obtain rfl:=Option.some.inj H
    obtain rfl:i=j:=by omega
    by_cases c4:i<(l0.length:Int)
    ·
     obtain ⟨ad,e1,hx0,hx1⟩:=at_T51 HR0.out _ g0 c4
     cases e1
     replace hx0:=(HB.out.cell (World.block_lt_of_cell? w _ hx0)).trans hx0
     replace hx1:=(HB.out.cell (World.block_lt_of_cell? w _ hx1)).trans hx1
     have hfin:Aside0 (impl_pairAt.hit l0 key i=(Lib.compareBytes ((rd_T51 l0 i).f0).data.toList key.data.toList == 0)):=⟨by unfold impl_pairAt.hit;rw [decide_eq_true c4];rfl⟩
     have hcall:=impl_pairAt.lit (rd_T51 l0 i) key
     obtain ⟨X,hX⟩ : ∃ X,Lib.compareBytes ((rd_T51 l0 i).f0).data.toList key.data.toList=X:=⟨_,rfl⟩
     rw [hX] at hcall hfin
     clear hX
     have hcall':=ζa hcall
     clear hcall
     go_wp2_with fail
     refine (hcall'.out _).mono ?_
     rintro e w' ⟨rfl,hb⟩
     have HB2:=ζa (δr HB.out hb)
     clear hb HB hcall'
     go_wp2
     go_ret2
     exact ⟨by rw [hfin.out];first|rfl|(simp;done),HB2.out⟩
    ·
     have hfin:Aside0 (impl_pairAt.hit l0 key i=φ):=⟨by unfold impl_pairAt.hit;rw [decide_eq_false c4];rfl⟩
     go_wp2
     go_ret2
     exact ⟨by rw [hfin.out];first|rfl|(simp;done),HB.out⟩
set_option maxHeartbeats 4000000 in
set_option maxRecDepth 100000 in
theorem impl_pairAt.calls (k:Nat) (A0:Option Addr) (c0:Nat) (l0:List (S51)) (a1:ByteArray) (r1:Int) (r2:Bool) (w:World) (hr0:Kd.C k51 w A0 l0.length l0) (hc0:l0.length≤c0) (h:impl_pairAt.f k l0 a1=some (r1,r2)) :
  Calls Tryz.prog 162 #[.slice A0 l0.length c0,.string a1] w fun e w'=>e = .returned (.tuple #[.int .i64 r1,.bool r2])∧Below w.heap.size w w':=by
 obtain ⟨r,hl,h⟩:=Option.bind_eq_some_iff.mp h
 by_cases c1:(l0.length:Int)<1000000000000
 ·
  rw [if_pos c1] at h
  by_cases c2:0≤r
  ·
   rw [if_pos c2] at h
   by_cases c3:r≤(l0.length:Int)
   ·
    rw [if_pos c3] at h
    simp only [Option.some.injEq,Prod.mk.injEq] at h
    obtain ⟨rfl,rfl⟩:=h
    have HL:=ζa hl
    clear hl
    go_enter Tryz.func162,Tryz.ntmps162
    go_wp2_with fail
    refine (impl_pairAt.search k A0 c0 l0 a1 r _ hr0 HL.out c1 c2 c3).mono ?_
    rintro e w' ⟨rfl,hb⟩
    have HB2:=ζa hb
    clear hb
    go_wp2
    go_ret2
    exact ⟨rfl,HB2.out⟩
   · rw [if_neg c3] at h;cases h
  ·
   rw [if_neg c2] at h;cases h
 · rw [if_neg c1] at h;cases h


open Go.Proofs.YtabmfhnhmoiljaaGreatDoorW.PrintWords.Kd renaming R_reads' → ζg, R_drew → ζe
open Go.Proofs.YtabmfhnhmoiljaaGreatDoorW.PrintWords renaming below_drew1 → δj
open List renaming setIfInBounds_toArray → δa, set_cons_zero → δb, set_cons_succ → δc

/-! ### slices_Delete_impl_Pair_impl_Pair: function 196 -/
theorem slices_Delete_impl_Pair_impl_Pair.clear_one {W:World} {g n c:Nat} {cur:Array Value} (hg:W.heap[g]? = some (.cells cur 51 (0,0))) (hcs:(n - 1) * 2+1<cur.size) (hn:1≤n) :
  (Builtin.clear_ #[24] 0 #[.slice (some ⟨g,(n - 1) * 2,none⟩) (n - (n - 1)) (c - (n - 1))]).run Tryz.prog W = .ok (.tuple #[]) ((W.setCell ⟨g,(n - 1) * 2,none⟩ (.string ⟨#[]⟩)).setCell ⟨g,(n - 1) * 2+1,none⟩ (.string ⟨#[]⟩)):=by
 have e:n - (n - 1)=1:=by omega
 rw [e]
 generalize (n - 1) * 2=o at *
 have hz : ∀ w,(zeroValue 51).run Tryz.prog w = .ok (.agg #[.string ⟨#[]⟩,.string ⟨#[]⟩]) w:=fun w=>by kernel_rfl
 have hst:=run_storeCells_cells (P:=Tryz.prog) g o [.string ⟨#[]⟩,.string ⟨#[]⟩] 0 W
  (fun j hj=>by
   simp only [World.cell?,hg]
   simp at hj
   rcases (show j=0 ∨ j=1 by omega) with rfl|rfl
   · simp;omega
   ·
    simp;omega)
  (fun j hj=>by simp [World.frozen?,hg]) (by intro v hv;simp at hv;subst hv;rfl)
 simp only [Nat.add_zero] at hst
 have hzc:(Builtin.zeroCells (Value.agg #[.string ⟨#[]⟩,.string ⟨#[]⟩]).cells 1).toList = [.string ⟨#[]⟩,.string ⟨#[]⟩]:=by kernel_rfl
 simp [Builtin.clear_,run_underlying Tryz.underlying24,hz,hzc,hst,World.setCells]
theorem slices_Delete_impl_Pair_impl_Pair.R_spare {w:World} {base g n cap:Nat} {xs:List S51} (h:Kd.R k51 51 w base (fun _=>True) (.slice (some ⟨g,0,none⟩) n cap) xs) (j:Nat) (hj:n * 2≤j) (u:Value) :
  Kd.R k51 51 (w.setCell ⟨g,j,none⟩ u) base (fun _=>True) (.slice (some ⟨g,0,none⟩) n cap) xs:=by
 have hn:=(ζg h).1
 obtain ⟨hok,inner,hown,hr⟩:=h
 refine ⟨hok,inner,?_,hr.imp_ (fun p c hp=>by rw [k51_openM hp];exact k51_mkM _ _ _ p)⟩
 rw [← hn] at hown ⊢
 have h1:=(hown.stored j u).1
 have hl:inner.length=n * 2:=hown.1
 rw [List.set_eq_of_length_le (by omega)] at h1
 exact h1
set_option maxHeartbeats 1000000 in
set_option maxRecDepth 100000 in
theorem slices_Delete_impl_Pair_impl_Pair.calls (base g n c i:Nat) (xs:List S51) (w0 w:World) (ho:Kd.R k51 51 w base (fun _=>True) (.slice (some ⟨g,0,none⟩) n c) xs) (hi:i<n) (hn:n≤1000000) (hnc:n≤c) (hc:c≤9223372036854775807) (hb:Below base w0 w) (hbs:base≤w.heap.size) :
  Calls Tryz.prog 196 #[.slice (some ⟨g,0,none⟩) n c,.int .i64 i,.int .i64 ((i+1:Nat):Int)] w fun e w'=>e = .returned (.slice (some ⟨g,0,none⟩) (n - 1) c)∧Kd.R k51 51 w' base (fun _=>True) (.slice (some ⟨g,0,none⟩) (n - 1) c) (xs.eraseIdx i)∧Below base w0 w':=by
 have HO:=ζa ho
 have HB:=ζa hb
 clear ho hb
 go_enter Tryz.func196,Tryz.ntmps196
 go_wp2_with fail
 have hil:(i+1)≤n:=by omega
 have hlen:=ζa (ζg HO.out).1
 have HB1:=ζa (δj HB.out)
 have HO1:=ζa (ζe HO.out)
 clear HB HO
 refine start_ (n:=8) (S:=fun _=>True) (ds:=[]) #[φ,φ,φ,φ,φ,φ,φ,φ] (by kernel_rfl) rfl rfl trivial (fun hHeld => ?_)
 have hbs1:base≤w.drew.heap.size:=hbs
 clear hbs
 generalize w.drew=w1 at HB1 HO1 hbs1 ⊢
 refine ζk (i:=0) (N:=some 20) (v:=?_) (a':=?_) #[τ,φ,φ,φ,φ,φ,φ,φ] rfl rfl (by kernel_rfl) (fun _ _ _ h=>h) (Or.inl ⟨by rfl,?_⟩) ?_ ?_
 rotate_left
 ·
  intro w'
  go_simp
  first|with_reducible rfl|rw [if_pos (by omega)]
 rotate_left
 · simp only [ζl,δa,δb,δc,i64_w,i32_w];rfl
 refine ζk (i:=1) (N:=some 21) (v:=?_) (a':=?_) #[τ,τ,φ,φ,φ,φ,φ,φ] rfl rfl (by kernel_rfl) (fun _ _ _ h=>h) (Or.inl ⟨by rfl,?_⟩) ?_ ?_
 rotate_left
 ·
  intro w'
  go_simp
  first|with_reducible rfl|rw [if_pos (by omega)]
 rotate_left
 · simp only [ζl,δa,δb,δc,i64_w,i32_w];rfl
 refine ζk (i:=2) (N:=some 22) (v:=?_) (a':=?_) #[τ,τ,τ,φ,φ,φ,φ,φ] rfl rfl (by kernel_rfl) (fun _ _ _ h=>h) (Or.inl ⟨by rfl,?_⟩) ?_ ?_
 rotate_left
 ·
  intro w'
  go_simp
  first|with_reducible rfl|rw [if_pos (by omega)]
 rotate_left
 · simp only [ζl,δa,δb,δc,i64_w,i32_w];rfl
 refine ζk (i:=3) (N:=some 23) (v:=?_) (a':=?_) #[τ,τ,τ,τ,φ,φ,φ,φ] rfl rfl (by kernel_rfl) (fun _ _ _ h=>h) (Or.inl ⟨by rfl,?_⟩) ?_ ?_
 rotate_left
 ·
  intro w'
  go_simp
  first|with_reducible rfl|rw [if_pos (by omega)]
 rotate_left
 · simp only [ζl,δa,δb,δc,i64_w,i32_w];rfl
 refine ζk (i:=4) (N:=some 24) (v:=?_) (a':=?_) #[τ,τ,τ,τ,τ,φ,φ,φ] rfl rfl (by kernel_rfl) (fun _ _ _ h=>h) (Or.inl ⟨by rfl,?_⟩) ?_ ?_
 rotate_left
 ·
  intro w'
  go_simp
  first|with_reducible rfl|rw [if_pos (by omega)]
 rotate_left
 · simp only [ζl,δa,δb,δc,i64_w,i32_w];rfl
 refine ζk (i:=5) (N:=some 25) (v:=?_) (a':=?_) #[τ,τ,τ,τ,τ,τ,φ,φ] rfl rfl (by kernel_rfl) (fun _ _ _ h=>h) (Or.inl ⟨by rfl,?_⟩) ?_ ?_
 rotate_left
 ·
  intro w'
  go_simp
  first|with_reducible rfl|rw [if_pos (by omega)]
 rotate_left
 · simp only [ζl,δa,δb,δc,i64_w,i32_w];rfl
 refine one_ (i:=6) (N:=some 26) #[τ,τ,τ,τ,τ,τ,τ,φ] rfl rfl (by kernel_rfl) (by decide) (fun K hK => ?_)
 refine Kd.R_delete_step (w0:=w0) k51 base (by rfl) (.tmp 22) (.tmp 25) 24 51 rfl Tryz.underlying24 (by kernel_rfl) (g:=g) (n:=n) (c:=c) (k:=i) (m:=n - (i+1)) (c2:=c - (i+1)) (ok:=fun _=>True) rfl rfl ?hA rfl HO1.out hi HB1.out hbs1 ?_
 case hA =>
  by_cases hc1:c=i+1
  · rw [if_pos hc1,if_pos hc1]
  ·
   rw [if_neg hc1,if_neg hc1,Option.map_some,add_plain]
   rfl
 intro w2 ho2 hb2 hg2
 refine hK.out _ _ trivial (fun hHeld => ?_)
 clear hK K
 refine norm_ (a':=?_) ?_ ?_
 rotate_left
 ·
  show ζl _ (some 26) _=_
  simp only [ζl,δa,δb,δc,i64_w,i32_w];rfl
 refine ζk (i:=7) (N:=some 0) (v:=?_) (a':=?_) #[τ,τ,τ,τ,τ,τ,τ,τ] rfl rfl (by kernel_rfl) (fun _ _ _ h=>h) (Or.inl ⟨by rfl,?_⟩) ?_ ?_
 rotate_left
 ·
  intro w'
  go_simp
  first|with_reducible rfl|rw [if_pos (by omega)]
 rotate_left
 · simp only [ζl,δa,δb,δc,i64_w,i32_w];rfl
 refine done_ (by kernel_rfl) ?_
 generalize (if c=i+1 then some (⟨g,0,none⟩:Addr) else some ⟨g,(i+1) * 2,none⟩)=vv
 have hrow : ∃ cur:Array Value,w2.heap[g]? = some (.cells cur 51 (0,0))∧cur.size=c * 2:=by
  obtain ⟨_,inner,hown,_⟩:=ho2
  rcases hown.2 with ⟨h',_⟩|⟨g',cap',cur,h',_,hg,_,_,hcs,_⟩
  · simp at h'
  ·
   simp only [Value.slice.injEq,Option.some.injEq,Addr.mk.injEq,and_true,true_and] at h'
   obtain ⟨rfl,_,rfl⟩:=h'
   exact ⟨cur,hg,hcs⟩
 obtain ⟨cur,hcur,hcsz⟩:=hrow
 have hcl:=slices_Delete_impl_Pair_impl_Pair.clear_one (n:=n) (c:=c) hcur (by rw [hcsz];omega) (by omega)
 have HO3:=ζa (slices_Delete_impl_Pair_impl_Pair.R_spare (slices_Delete_impl_Pair_impl_Pair.R_spare ho2 ((n - 1) * 2) (Nat.le_refl _) (.string ⟨#[]⟩)) ((n - 1) * 2+1) (Nat.le_succ _) (.string ⟨#[]⟩))
 have hge:base≤g:=Kd.R_base ho2 g rfl
 have HB3:=ζa ((hb2.setCell (p:=⟨g,(n - 1) * 2,none⟩) hge (.string ⟨#[]⟩)).setCell (p:=⟨g,(n - 1) * 2+1,none⟩) hge (.string ⟨#[]⟩))
 clear hcur hcsz ho2 hb2 hg2 HB1 HO1
 go_wp2
 go_ret
 exact ⟨rfl,HO3.out,HB3.out⟩


open Go.Proofs.YtabmfhnhmoiljaaGreatDoorW.PrintWords.Kd renaming R_below → ζh, R_reads' → ζg

/-! ### impl_drop: function 163 -/
def impl_drop.f (k:Nat) (l0:List (S51)) (a1:ByteArray):Option (List (S51) × Int) :=
 if l0.length≤1000000 then ((impl_pairAt.f k l0 a1).bind fun b=>if b.2=τ then (if 0≤b.1 then (if b.1<(l0.length:Int) then some (l0.eraseIdx b.1.toNat,0) else none) else none) else some (l0,5)) else none
set_option maxHeartbeats 2000000 in
set_option maxRecDepth 100000 in
theorem impl_drop.calls (k:Nat) (A0:Option Addr) (c0:Nat) (l0:List (S51)) (a1:ByteArray) (r1:List (S51)) (r2:Int) (w:World) (hr0:Kd.C k51 w A0 l0.length l0) (hc0:l0.length≤c0) (h:impl_drop.f k l0 a1=some (r1,r2)) :
  Calls Tryz.prog 163 #[.slice A0 l0.length c0,.string a1] w fun e w' => ∃ v0_:Value,e = .returned (.tuple #[v0_,.int .i64 r2])∧Kd.R k51 51 w' w.heap.size (fun _=>True) v0_ r1∧Below w.heap.size w w':=by
 unfold impl_drop.f at h
 by_cases hl:l0.length≤1000000
 ·
  rw [if_pos hl] at h
  obtain ⟨⟨b1,b2⟩,h1,h⟩:=Option.bind_eq_some_iff.mp h
  have H1:=ζa h1
  have HL:=ζa hl
  have HR0:=ζa hr0
  have HC0:=ζa hc0
  have HCL:Aside0 (slices_Clone_impl_Pair_impl_Pair.f l0=some l0):=⟨by unfold slices_Clone_impl_Pair_impl_Pair.f;rw [if_pos (by omega)]⟩
  clear h1 hr0 hc0 hl
  cases b2 with
  | false =>
   simp only [Bool.false_eq_true,if_false,Option.some.injEq,Prod.mk.injEq] at h
   obtain ⟨rfl,rfl⟩:=h
   go_enter Tryz.func163,Tryz.ntmps163
   go_wp2_with fail
   refine (slices_Clone_impl_Pair_impl_Pair.calls A0 c0 l0 l0 _ HR0.out HC0.out HCL.out).mono ?_
   rintro e w' ⟨v,rfl,ho,hb⟩
   obtain ⟨A,c,rfl,hnc,hrc⟩:=Kd.R_reads ho
   have HO:=ζa ho
   have HB:=ζa hb
   have HC:=ζa hrc
   have HN:=ζa hnc
   clear ho hb hrc hnc
   go_wp2_with fail
   refine (impl_pairAt.calls k A c l0 a1 b1 φ _ HC.out HN.out H1.out).mono ?_
   rintro e w2 ⟨rfl,hb2⟩
   have HO2:=ζa (ζh HO.out hb2)
   have HB2:=ζa (δr HB.out hb2)
   clear hb2
   go_wp2
   go_ret2
   exact ⟨_,rfl,HO2.out,HB2.out⟩
  | true =>
   simp only [if_true] at h
   by_cases g1:0≤b1
   ·
    rw [if_pos g1] at h
    by_cases g2:b1<(l0.length:Int)
    ·
     rw [if_pos g2] at h
     simp only [Option.some.injEq,Prod.mk.injEq] at h
     obtain ⟨rfl,rfl⟩:=h
     obtain ⟨i,rfl⟩ : ∃ i:Nat,b1=(i:Int):=⟨b1.toNat,by omega⟩
     have hi:i<l0.length:=by omega
     have HI:=ζa hi
     have hib:i≤1000000:=by have:=HL.out;omega
     clear g1 g2 hi
     go_enter Tryz.func163,Tryz.ntmps163
     go_wp2_with fail
     refine (slices_Clone_impl_Pair_impl_Pair.calls A0 c0 l0 l0 _ HR0.out HC0.out HCL.out).mono ?_
     rintro e w' ⟨v,rfl,ho,hb⟩
     have hshape : ∃ g c,v = .slice (some ⟨g,0,none⟩) l0.length c∧l0.length≤c∧c≤maxLen:=by
      obtain ⟨_,inner,hown,_⟩:=ho
      rcases hown.2 with ⟨_,h0⟩|⟨g,cap,cur,hv,_,_,hn,hm,_⟩
      · have:=HI.out;omega
      ·
       exact ⟨g,cap,hv,hn,hm⟩
     obtain ⟨g,c,rfl,hnc,hcm⟩:=hshape
     have HC:=ζa (ζg ho).2.2
     have HO:=ζa ho
     have HB:=ζa hb
     have HN:=ζa hnc
     have HM:=ζa hcm
     clear ho hb hnc hcm
     go_wp2_with fail
     refine (impl_pairAt.calls k (some ⟨g,0,none⟩) c l0 a1 i τ _ HC.out HN.out H1.out).mono ?_
     rintro e w2 ⟨rfl,hb2⟩
     have HO2:=ζa (ζh HO.out hb2)
     have HB2:=ζa (δr HB.out hb2)
     clear hb2
     go_wp2_with fail
     refine (slices_Delete_impl_Pair_impl_Pair.calls w.heap.size g l0.length c i l0 w _ HO2.out HI.out HL.out HN.out (by have:=HM.out;unfold maxLen at this;omega) HB2.out HB2.out.size).mono ?_
     rintro e w3 ⟨rfl,ho3,hb3⟩
     have HO3:=ζa ho3
     have HB3:=ζa hb3
     clear ho3 hb3
     go_wp2
     go_ret2
     exact ⟨_,rfl,HO3.out,HB3.out⟩
    · rw [if_neg g2] at h;cases h
   ·
    rw [if_neg g1] at h;cases h
 · rw [if_neg hl] at h;cases h


open Go.Proofs.YtabmfhnhmoiljaaGreatDoorW.PrintWords renaming below_step → δr, below_drew1 → δj, pw_below_drewN → δi
open Go.Proofs.YtabmfhnhmoiljaaGreatDoorW.PrintWords.Kd renaming R_drew → ζe, R_drewN → ζc
open Bool renaming true → τ

/-! ### impl_all: function 109 -/
/-- A function value and what it captures. -/
abbrev FV:=Nat × Array Value
def encF (x:FV):Value:=.func (.func x.1) #[] x.2
/-- A function value that does F to a store: in this world and in all later ones. -/
structure Chg (w:World) (x:FV) (F:List S51→Option (List S51 × Int)):Prop where
 enters : ∀ args w,(callFunc x.1 args).run Tryz.prog w = .ok (.enter x.1 args) w
 calls : ∀ (W:World) (A:Option Addr) (c:Nat) (l r:List S51) (code:Int),Below w.heap.size w W→Kd.C k51 W A l.length l→l.length≤c→F l=some (r,code) →
  Calls Tryz.prog x.1 (#[.slice A l.length c] ++ x.2) W fun e W' => ∃ v0,e = .returned (.tuple #[v0,.int .i64 code])∧(code=0→Kd.R k51 51 W' W.heap.size (fun _=>True) v0 r)∧Below W.heap.size W W'
theorem Chg.below {w W:World} {x:FV} {F:List S51→Option (List S51 × Int)} (h:Chg w x F) (hb:Below w.heap.size w W):Chg W x F :=
 ⟨h.enters,fun W2 A c l r code hb2=>h.calls W2 A c l r code (δr hb hb2)⟩
/-- The same,and what it hands back is always its own. -/
structure ChgR (w:World) (x:FV) (F:List S51→Option (List S51 × Int)):Prop where
 enters : ∀ args w,(callFunc x.1 args).run Tryz.prog w = .ok (.enter x.1 args) w
 calls : ∀ (W:World) (A:Option Addr) (c:Nat) (l r:List S51) (code:Int),Below w.heap.size w W→Kd.C k51 W A l.length l→l.length≤c→F l=some (r,code) →
  Calls Tryz.prog x.1 (#[.slice A l.length c] ++ x.2) W fun e W' => ∃ v0,e = .returned (.tuple #[v0,.int .i64 code])∧Kd.R k51 51 W' W.heap.size (fun _=>True) v0 r∧Below W.heap.size W W'
theorem ChgR.below {w W:World} {x:FV} {F:List S51→Option (List S51 × Int)} (h:ChgR w x F) (hb:Below w.heap.size w W):ChgR W x F :=
 ⟨h.enters,fun W2 A c l r code hb2=>h.calls W2 A c l r code (δr hb hb2)⟩
def kF:Kd FV:=Kd.scalar encF (fun _=>rfl)
theorem at_F {w:World} {A:Option Addr} {n:Nat} {xs:List FV} (h:kF.C w A n xs) (i:Int) (h0:0≤i) (h1:i<n) : ∃ ad,A=some ad∧w.cell? (ad.add i.toNat)=some (encF (rdOf (0,#[]) xs i)) :=
 ReadsOf.at_ (Kd.reads_of_C (enc:=encF) (d:=(0,#[])) (h1:=fun _=>rfl) h) i h0 h1
def impl_all.go (k:Nat) (l0:List S51):List (List S51→Option (List S51 × Int))→List S51→Option (List S51 × Int)
 | [],o=>some (o,0)
 | F :: Fs,o=>(F o).bind fun b=>if b.2=0 then impl_all.go k l0 Fs b.1 else (impl_drop.f k l0 ⟨#[]⟩).bind fun d=>some (d.1,b.2)
def impl_all.f (k:Nat) (l0:List S51) (Fs:List (List S51→Option (List S51 × Int))):Option (List S51 × Int):=(impl_drop.f k l0 ⟨#[]⟩).bind fun d=>impl_all.go k l0 Fs d.1
set_option maxHeartbeats 4000000 in
set_option maxRecDepth 100000 in
theorem impl_all.calls (k:Nat) (A0:Option Addr) (c0:Nat) (l0:List S51) (B:Option Addr) (cB:Nat) (xs:List FV) (Fs:List (List S51→Option (List S51 × Int))) (r1:List S51) (r2:Int) (w:World) (hr0:Kd.C k51 w A0 l0.length l0) (hc0:l0.length≤c0) (hx:kF.C w B xs.length xs) (hlen:xs.length=Fs.length) (hchg : ∀ (i:Nat) x F,xs[i]? = some x→Fs[i]? = some F→Chg w x F) (h:impl_all.f k l0 Fs=some (r1,r2)) :
  Calls Tryz.prog 109 #[.slice A0 l0.length c0,.slice B xs.length cB] w fun e w' => ∃ v0_:Value,e = .returned (.tuple #[v0_,.int .i64 r2])∧Kd.R k51 51 w' w.heap.size (fun _=>True) v0_ r1∧Below w.heap.size w w':=by
 obtain ⟨⟨d1,d2⟩,h1,h⟩:=Option.bind_eq_some_iff.mp h
 have H1:=ζa h1
 have HG:=ζa h
 have HR0:=ζa hr0
 have HC0:=ζa hc0
 have HX:=ζa hx
 have HL:=ζa hlen
 have HCH:=ζa hchg
 have hmax:xs.length≤9223372036854775807:=hx.2.1
 clear h1 h hr0 hc0 hx hlen hchg
 go_enter Tryz.func109,Tryz.ntmps109
 go_wp2_with fail
 refine (impl_drop.calls k A0 c0 l0 ⟨#[]⟩ d1 d2 _ HR0.out HC0.out H1.out).mono ?_
 rintro e w1 ⟨v,rfl,ho,hb⟩
 have HO:=ζa ho
 have HB:=ζa hb
 clear ho hb
 go_wp2_with fail
 go_loopg [6,21] xs.length (fun gg s6 s21 wr => ∃ (kk:Nat) (o:List S51),kk≤xs.length∧xs.length - kk≤gg∧s21 = .int .i64 kk∧Aside0 (Kd.R k51 51 wr w.heap.size (fun _=>True) s6 o)∧Aside0 (impl_all.go k l0 (Fs.drop kk) o=some (r1,r2))∧Aside0 (Below w.heap.size w wr))
 case atStart=>exact ⟨0,d1,Nat.zero_le _,by omega,rfl,⟨by repeat (first|exact HO.out|apply ζe|apply ζc)⟩,HG,⟨by repeat (first|exact HB.out|apply δj|apply δi)⟩⟩
 case round =>
  clear HO HB HG
  obtain ⟨kk,o,hkk,hg,rfl,HO,HG,HB⟩:=hrel
  by_cases hlt:kk<xs.length
  ·
   have hltz:(kk:Int)<(xs.length:Int):=by omega
   have p0:0≤(kk:Int):=by omega
   obtain ⟨ad,e1,hx0⟩:=at_F HX.out kk p0 hltz
   cases e1
   rw [Int.toNat_natCast] at hx0
   replace hx0:=(HB.out.cell (World.block_lt_of_cell? w _ hx0)).trans hx0
   have hxk:xs[kk]? = some (rdOf (0,#[]) xs kk):=by
    simp only [rdOf,Int.toNat_natCast,List.getD_eq_getElem?_getD]
    rw [List.getElem?_eq_getElem hlt];rfl
   have hFk:kk<Fs.length:=by rw [← HL.out];exact hlt
   have hch:=HCH.out kk _ (Fs[kk]) hxk (List.getElem?_eq_getElem hFk)
   have hG:=HG.out
   rw [List.drop_eq_getElem_cons hFk] at hG
   obtain ⟨⟨n1,n2⟩,hF,hG⟩:=Option.bind_eq_some_iff.mp hG
   generalize rdOf (0,#[]) xs kk=x at *
   obtain ⟨g,lb⟩:=x
   replace hx0:wr.cell? (ad.add kk)=some (.func (.func g) #[] lb):=hx0
   have eg:=hch.enters
   replace eg : ∀ args w,(callFunc g args).run Tryz.prog w = .ok (.enter g args) w:=eg
   obtain ⟨A,c,rfl,hnc,hrc⟩:=Kd.R_reads HO.out
   have HCHG:=ζa hch
   have HF:=ζa hF
   have HO':=HO
   clear hch hF hxk
   go_wp2_with fail
   refine (HCHG.out.calls _ A c o n1 n2 (by repeat (first|exact HB.out|apply δj|apply δi)) (by repeat (first|exact hrc|apply Kd.C_drew|apply Kd.C_drewN)) hnc HF.out).mono ?_
   rintro e w2 ⟨v2,rfl,ho2,hb2⟩
   have HB2:=ζa (δr HB.out hb2)
   have HO2:Aside0 (n2=0→Kd.R k51 51 w2 w.heap.size (fun _=>True) v2 n1):=⟨fun h0=>Kd.R_lower (ho2 h0) HB.out.size⟩
   clear ho2 hb2 hrc
   by_cases c2:n2=0
   ·
    subst c2
    rw [if_pos rfl] at hG
    have HG2:=ζa hG
    have HO3:=ζa (HO2.out rfl)
    clear hG HO2 HO HO' HB HG
    go_wp2
    go_roundg (xs.length - (kk+1))
    case measure=>omega
    case rel=>exact ⟨kk+1,n1,by omega,by omega,by go_num,HO3,HG2,HB2⟩
   ·
    rw [if_neg c2] at hG
    obtain ⟨⟨z1,z2⟩,hd,hG⟩:=Option.bind_eq_some_iff.mp hG
    simp only [Option.some.injEq,Prod.mk.injEq] at hG
    obtain ⟨rfl,rfl⟩:=hG
    have HD:=ζa hd
    have c2b:(n2 != 0)=τ:=bne_iff_ne.mpr c2
    clear hd c2
    go_wp2_with fail
    refine (impl_drop.calls k A0 c0 l0 ⟨#[]⟩ z1 z2 _ (by repeat (first|exact Kd.C_below HR0.out HB2.out|apply Kd.C_drew|apply Kd.C_drewN)) HC0.out HD.out).mono ?_
    rintro e w3 ⟨v3,rfl,ho3,hb3⟩
    have HB3:=ζa (δr HB2.out hb3)
    have HO3:=ζa (Kd.R_lower ho3 HB2.out.size)
    clear ho3 hb3
    go_wp2
    go_ret2
    exact ⟨_,rfl,HO3.out,HB3.out⟩
  ·
   have hltz : ¬ (kk:Int)<(xs.length:Int):=by omega
   have hk:kk=xs.length:=by omega
   have hG:=HG.out
   rw [hk,HL.out,List.drop_length] at hG
   simp only [impl_all.go,Option.some.injEq,Prod.mk.injEq] at hG
   obtain ⟨rfl,rfl⟩:=hG
   go_wp2
   go_ret2
   exact ⟨_,rfl,HO.out,HB.out⟩



/-! ### impl_isAmount: function 128 -/
def impl_isAmount.f (a0:Int):Option (Bool):=(impl_within.f a0 0 1000000000000000000).bind fun t178=>(some t178)
set_option maxHeartbeats 8000000 in
set_option maxRecDepth 100000 in
theorem impl_isAmount.calls (a0:Int) (r:Bool) (w:World) (h:impl_isAmount.f a0=some r) :
  Calls Tryz.prog 128 #[.int .i64 a0] w fun e w'=>e = .returned (.bool r)∧Drawn0 w w':=by
 have H:((impl_within.f a0 0 1000000000000000000).bind fun t178=>(some t178))=some r:=h
 clear h
 replace H:=Option.bind_eq_some_iff.mp H
 obtain ⟨t178,A20,H⟩:=H
 replace H:(some t178)=some r:=H
 have A2:=ζa A20
 clear A20
 obtain rfl:=Option.some.inj H
 go_enter Tryz.func128,Tryz.ntmps128
 go_wp2_with (first|((with_reducible refine δv (f:=161) rfl ?_);refine goesL_ (some 4) rfl rfl Tryz.func161 (by kernel_rfl) rfl #[.int .i64 a0,.int .i64 0,.int .i64 1000000000000000000] rfl (by (try simp only [δd,δe,δf]);first|done|rfl|(simp only [δg,δh];rfl)) ?_;(with_reducible refine (impl_within.calls a0 0 1000000000000000000 t178 _ A2.out).mono ?_);rintro e w' ⟨rfl,⟨nd,rfl⟩⟩;refine ⟨_,rfl,?_⟩))
 go_ret
 exact ⟨by first|rfl|(simp;done)|(simp [*];done),by repeat (first|exact Drawn0.refl _|apply Drawn0.step)⟩



/-! ### impl_SubAmount: function 185 -/
def impl_SubAmount.j0:Nat→Int→Int→Bool→Option (Int × Int)
 | 0,_,_,_=>none
 | k+1,x0,x1,x6=>if x6=τ then (some (0,4)) else (if x0<x1 then (some (0,12)) else (some (ζm (x0 - x1),0)))
def impl_SubAmount.f (k:Nat) (a0:Int) (a1:Int):Option (Int × Int):=(impl_isAmount.f a0).bind fun t179=>(if t179=τ then ((impl_isAmount.f a1).bind fun t180=>(impl_SubAmount.j0 k a0 a1 (!t180))) else (impl_SubAmount.j0 k a0 a1 τ))
set_option maxHeartbeats 8000000 in
set_option maxRecDepth 100000 in
theorem impl_SubAmount.calls (k:Nat) (a0:Int) (a1:Int) (r1:Int) (r2:Int) (w:World) (h:impl_SubAmount.f k a0 a1=some (r1,r2)) :
  Calls Tryz.prog 185 #[.int .i64 a0,.int .i64 a1] w fun e w'=>e = .returned (.tuple #[.int .i64 r1,.int .i64 r2])∧Drawn0 w w':=by
 have H:((impl_isAmount.f a0).bind fun t179=>(if t179=τ then ((impl_isAmount.f a1).bind fun t180=>(impl_SubAmount.j0 k a0 a1 (!t180))) else (impl_SubAmount.j0 k a0 a1 τ)))=some (r1,r2):=h
 clear h
 have HC3:=ζa H
 clear H
 go_enter Tryz.func185,Tryz.ntmps185
 go_upto_region 1 with (fail)
 go_cut [6] (fun v6 wc => ∃ (kq:Nat) (x6_2:Bool),v6 = .bool x6_2∧Aside0 (impl_SubAmount.j0 kq a0 a1 x6_2=some (r1,r2))∧Aside0 (kq≤k)∧Drawn0 w wc)
 case first =>
  have H:=HC3.out
  clear HC3
  replace H:=Option.bind_eq_some_iff.mp H
  obtain ⟨t179,A40,H⟩:=H
  replace H:(if t179=τ then ((impl_isAmount.f a1).bind fun t180=>(impl_SubAmount.j0 k a0 a1 (!t180))) else (impl_SubAmount.j0 k a0 a1 τ))=some (r1,r2):=H
  have A4:=ζa A40
  clear A40
  by_cases c5:t179=τ
  ·
   subst c5
   have H1:((impl_isAmount.f a1).bind fun t180=>(impl_SubAmount.j0 k a0 a1 (!t180)))=some (r1,r2):=by rw [if_pos rfl] at H;exact H
   clear H
   have H:=H1
   clear H1
   replace H:=Option.bind_eq_some_iff.mp H
   obtain ⟨t180,A60,H⟩:=H
   replace H:(impl_SubAmount.j0 k a0 a1 (!t180))=some (r1,r2):=H
   have A6:=ζa A60
   clear A60
   have H':=ζa H
   clear H
   go_wp2_with (first|((with_reducible refine δv (f:=128) rfl ?_);refine goesL_ (some 8) rfl rfl Tryz.func128 (by kernel_rfl) rfl #[.int .i64 a0] rfl (by (try simp only [δd,δe,δf]);first|done|rfl|(simp only [δg,δh];rfl)) ?_;(with_reducible refine (impl_isAmount.calls a0 τ _ A4.out).mono ?_);rintro e w' ⟨rfl,⟨nd,rfl⟩⟩;refine ⟨_,rfl,?_⟩)|(go_at_call 128;(with_reducible refine (impl_isAmount.calls a1 t180 _ A6.out).mono ?_);rintro e w' ⟨rfl,⟨nd,rfl⟩⟩))
   go_meet
   case rel=>exact ⟨_,(!t180),(by first|rfl|(simp;done)|(simp [*];done)),H',⟨by first|omega|exact Nat.le_refl _⟩,by repeat (first|exact Drawn0.refl _|apply Drawn0.step)⟩
  ·
   replace c5:=Bool.eq_false_iff.mpr c5
   subst c5
   have H1:(impl_SubAmount.j0 k a0 a1 τ)=some (r1,r2):=by rw [if_neg (show ¬ (φ=τ) by decide)] at H;exact H
   clear H
   have H:=H1
   clear H1
   have H':=ζa H
   clear H
   go_wp2_with (first|((with_reducible refine δv (f:=128) rfl ?_);refine goesL_ (some 8) rfl rfl Tryz.func128 (by kernel_rfl) rfl #[.int .i64 a0] rfl (by (try simp only [δd,δe,δf]);first|done|rfl|(simp only [δg,δh];rfl)) ?_;(with_reducible refine (impl_isAmount.calls a0 φ _ A4.out).mono ?_);rintro e w' ⟨rfl,⟨nd,rfl⟩⟩;refine ⟨_,rfl,?_⟩))
   go_meet
   case rel=>exact ⟨_,(τ),(by first|rfl|(simp;done)|(simp [*];done)),H',⟨by first|omega|exact Nat.le_refl _⟩,by repeat (first|exact Drawn0.refl _|apply Drawn0.step)⟩
 case rest =>
  clear HC3
  try clear c1
  try clear p2
  try clear c5
  obtain ⟨kq,x6_2,rfl,HA,HJ2,⟨mc2,rfl⟩⟩:=hcut
  cases kq with
  | zero=>exact absurd HA.out (by simp [impl_SubAmount.j0])
  | succ kj2 =>
   have H:=HA.out
   clear HA
   simp only [impl_SubAmount.j0] at H
   by_cases c7:x6_2=τ
   ·
    subst c7
    have H1:(some (0,4))=some (r1,r2):=by rw [if_pos rfl] at H;exact H
    clear H
    have H:=H1
    clear H1
    simp only [Option.some.injEq,Prod.mk.injEq] at H
    obtain ⟨rfl,rfl⟩:=H
    go_wp2
    go_ret2
    exact ⟨by first|rfl|(simp;done)|(simp [*];done),by repeat (first|exact Drawn0.refl _|apply Drawn0.step)⟩
   ·
    replace c7:=Bool.eq_false_iff.mpr c7
    subst c7
    have H1:(if a0<a1 then (some (0,12)) else (some (ζm (a0 - a1),0)))=some (r1,r2):=by rw [if_neg (show ¬ (φ=τ) by decide)] at H;exact H
    clear H
    have H:=H1
    clear H1
    by_cases c8:a0<a1
    ·
     rw [if_pos c8] at H
     have c8b0:decide (a0<a1)=τ:=decide_eq_true c8
     clear c8
     simp only [Option.some.injEq,Prod.mk.injEq] at H
     obtain ⟨rfl,rfl⟩:=H
     go_wp2
     go_ret2
     exact ⟨by first|rfl|(simp;done)|(simp [*];done),by repeat (first|exact Drawn0.refl _|apply Drawn0.step)⟩
    ·
     rw [if_neg c8] at H
     have c8b0:decide (a0<a1)=φ:=decide_eq_false c8
     clear c8
     simp only [Option.some.injEq,Prod.mk.injEq] at H
     obtain ⟨rfl,rfl⟩:=H
     go_wp2
     go_ret2
     exact ⟨by first|rfl|(simp;done)|(simp [*];done),by repeat (first|exact Drawn0.refl _|apply Drawn0.step)⟩


open Go.Proofs.YtabmfhnhmoiljaaGreatDoorW.PrintWords renaming gate_callee → δv, below_step → δr, below_alloc → δk, pw_below_drewN → δi, below_drew1 → δj

/-! ### impl_get: function 107 -/
def impl_get.f (k:Nat) (l0:List (S51)) (a1:ByteArray):Option (ByteArray × Bool):=(impl_pairAt.f k l0 a1).bind fun bt181=>(if bt181.2=τ then (if 0≤bt181.1 then (if bt181.1<(l0.length:Int) then (some ((rd_T51 l0 bt181.1).f1,τ)) else (none)) else (none)) else (some ((⟨#[]⟩:ByteArray),φ)))
set_option maxHeartbeats 8000000 in
set_option maxRecDepth 100000 in
theorem impl_get.calls (k:Nat) (A0:Option Addr) (c0:Nat) (l0:List (S51)) (a1:ByteArray) (r1:ByteArray) (r2:Bool) (w:World) (hr0:Kd.C k51 w A0 l0.length l0) (hc0:l0.length≤c0) (h:impl_get.f k l0 a1=some (r1,r2)) :
  Calls Tryz.prog 107 #[.slice A0 l0.length c0,.string a1] w fun e w'=>e = .returned (.tuple #[.string r1,.bool r2])∧Below w.heap.size w w':=by
 have HR0:=ζa hr0
 have HC0:=ζa hc0
 clear hr0 hc0
 have HB:=ζa (Below.refl w.heap.size w)
 have H:((impl_pairAt.f k l0 a1).bind fun bt181=>(if bt181.2=τ then (if 0≤bt181.1 then (if bt181.1<(l0.length:Int) then (some ((rd_T51 l0 bt181.1).f1,τ)) else (none)) else (none)) else (some ((⟨#[]⟩:ByteArray),φ))))=some (r1,r2):=h
 clear h
 replace H:=Option.bind_eq_some_iff.mp H
 obtain ⟨⟨t181,t182⟩,A30,H⟩:=H
 replace H:(if t182=τ then (if 0≤t181 then (if t181<(l0.length:Int) then (some ((rd_T51 l0 t181).f1,τ)) else (none)) else (none)) else (some ((⟨#[]⟩:ByteArray),φ)))=some (r1,r2):=H
 have A3:=ζa A30
 clear A30
 by_cases c4:t182=τ
 ·
  subst c4
  have H1:(if 0≤t181 then (if t181<(l0.length:Int) then (some ((rd_T51 l0 t181).f1,τ)) else (none)) else (none))=some (r1,r2):=by rw [if_pos rfl] at H;exact H
  clear H
  have H:=H1
  clear H1
  by_cases c5:0≤t181
  ·
   rw [if_pos c5] at H
   have c5b0:decide (0≤t181)=τ:=decide_eq_true c5
   clear c5
   by_cases c6:t181<(l0.length:Int)
   ·
    rw [if_pos c6] at H
    have c6b0:decide (t181<(l0.length:Int))=τ:=decide_eq_true c6
    clear c6
    simp only [Option.some.injEq,Prod.mk.injEq] at H
    obtain ⟨rfl,rfl⟩:=H
    go_enter Tryz.func107,Tryz.ntmps107
    go_wp2_with (first|((with_reducible refine δv (f:=162) rfl ?_);refine goesL_ (some 11) rfl rfl Tryz.func162 (by kernel_rfl) rfl #[.slice A0 l0.length c0,.string a1] rfl (by (try simp only [δd,δe,δf]);first|done|rfl|(simp only [δg,δh];rfl)) ?_;(with_reducible refine (impl_pairAt.calls k _ _ l0 a1 t181 τ _ ?side1 ?side2 A3.out).mono ?_);(case side1=>repeat (first|exact HR0.out|(with_reducible refine Kd.C_alloc ?_ _)|(with_reducible refine Kd.C_drewN ?_ _)|(with_reducible refine Kd.C_drew ?_)));(case side2=>exact HC0.out);rintro e w7 ⟨rfl,hb⟩;refine ⟨_,rfl,?_⟩;have n0_:=ζa (δr (by repeat (first|(with_reducible first|exact HB.out|apply δk|apply δi|apply δj)|exact HB.out)) hb);clear HB;have HB:=n0_;clear n0_;(try clear hb);(try clear hb2);(try clear hk);(try clear hi);have p183:0≤(t181:Int):=of_decide_eq_true (by first|(with_reducible assumption)|assumption);have q183:t181<(l0.length:Int):=of_decide_eq_true (by first|(with_reducible assumption)|assumption);obtain ⟨ad183,e183,hx183_0,hx183_1⟩:=at_T51 HR0.out t181 p183 q183;cases e183;replace hx183_0:=(HB.out.cell (World.block_lt_of_cell? w _ hx183_0)).trans hx183_0;replace hx183_1:=(HB.out.cell (World.block_lt_of_cell? w _ hx183_1)).trans hx183_1;replace p183:=eq_true p183;replace q183:=eq_true q183))
    go_ret2
    exact ⟨by first|rfl|(simp [errW_none,errW_some] <;> rfl)|(simp [*,errW_none,errW_some] <;> rfl),by repeat (first|(with_reducible first|exact HB.out|apply δk|apply δi|apply δj)|exact HB.out)⟩
   ·
    rw [if_neg c6] at H
    exact absurd H (by simp)
  ·
   rw [if_neg c5] at H
   exact absurd H (by simp)
 ·
  replace c4:=Bool.eq_false_iff.mpr c4
  subst c4
  have H1:(some ((⟨#[]⟩:ByteArray),φ))=some (r1,r2):=by rw [if_neg (show ¬ (φ=τ) by decide)] at H;exact H
  clear H
  have H:=H1
  clear H1
  simp only [Option.some.injEq,Prod.mk.injEq] at H
  obtain ⟨rfl,rfl⟩:=H
  go_enter Tryz.func107,Tryz.ntmps107
  go_wp2_with (first|((with_reducible refine δv (f:=162) rfl ?_);refine goesL_ (some 11) rfl rfl Tryz.func162 (by kernel_rfl) rfl #[.slice A0 l0.length c0,.string a1] rfl (by (try simp only [δd,δe,δf]);first|done|rfl|(simp only [δg,δh];rfl)) ?_;(with_reducible refine (impl_pairAt.calls k _ _ l0 a1 t181 φ _ ?side1 ?side2 A3.out).mono ?_);(case side1=>repeat (first|exact HR0.out|(with_reducible refine Kd.C_alloc ?_ _)|(with_reducible refine Kd.C_drewN ?_ _)|(with_reducible refine Kd.C_drew ?_)));(case side2=>exact HC0.out);rintro e w8 ⟨rfl,hb⟩;refine ⟨_,rfl,?_⟩;have n0_:=ζa (δr (by repeat (first|(with_reducible first|exact HB.out|apply δk|apply δi|apply δj)|exact HB.out)) hb);clear HB;have HB:=n0_;clear n0_;(try clear hb);(try clear hb2);(try clear hk);(try clear hi)))
  go_ret2
  exact ⟨by first|rfl|(simp [errW_none,errW_some] <;> rfl)|(simp [*,errW_none,errW_some] <;> rfl),by repeat (first|(with_reducible first|exact HB.out|apply δk|apply δi|apply δj)|exact HB.out)⟩


open Go.Proofs.YtabmfhnhmoiljaaGreatDoorW.PrintWords renaming gate_callee → δv, below_alloc → δk, pw_below_drewN → δi, below_drew1 → δj, below_step → δr

/-! ### impl_amountText: function 147 -/
def impl_amountText.f (a0:Int):Option (ByteArray):=(strconv_Itoa.f a0).bind fun t201=>(some t201)
set_option maxHeartbeats 8000000 in
set_option maxRecDepth 100000 in
theorem impl_amountText.calls (a0:Int) (r:ByteArray) (w:World) (hT0:TabsOK w) (h:impl_amountText.f a0=some r) :
  Calls Tryz.prog 147 #[.int .i64 a0] w fun e w'=>e = .returned (.string r)∧Below w.heap.size w w':=by
 have HT0:=ζa hT0
 clear hT0
 have HB:=ζa (Below.refl w.heap.size w)
 have H:((strconv_Itoa.f a0).bind fun t201=>(some t201))=some r:=h
 clear h
 replace H:=Option.bind_eq_some_iff.mp H
 obtain ⟨t201,A20,H⟩:=H
 replace H:(some t201)=some r:=H
 have A2:=ζa A20
 clear A20
 obtain rfl:=Option.some.inj H
 go_enter Tryz.func147,Tryz.ntmps147
 go_wp2_with (first|((with_reducible refine δv (f:=190) rfl ?_);refine goesL_ (some 4) rfl rfl Tryz.func190 (by kernel_rfl) rfl #[.int .i64 a0] rfl (by (try simp only [δd,δe,δf]);first|done|rfl|(simp only [δg,δh];rfl)) ?_;(with_reducible refine (strconv_Itoa.calls a0 t201 _ (HT0.out.below (by repeat (first|(with_reducible first|exact HB.out|apply δk|apply δi|apply δj)|exact HB.out))) A2.out).mono ?_);rintro e w3 ⟨rfl,hb⟩;refine ⟨_,rfl,?_⟩;have n0_:=ζa (δr (by repeat (first|(with_reducible first|exact HB.out|apply δk|apply δi|apply δj)|exact HB.out)) hb);clear HB;have HB:=n0_;clear n0_;(try clear hb);(try clear hb2);(try clear hk);(try clear hi)))
 go_ret
 exact ⟨by first|rfl|(simp [errW_none,errW_some] <;> rfl)|(simp [*,errW_none,errW_some] <;> rfl),by repeat (first|(with_reducible first|exact HB.out|apply δk|apply δi|apply δj)|exact HB.out)⟩


open Go.Proofs.YtabmfhnhmoiljaaGreatDoorW.PrintWords renaming pw_below_drewN → δi, below_step → δr

/-! ### impl_readAmount: function 151 -/
/-- The amount that a text tells,and whether it is one. -/
def impl_readAmount.f (a0:ByteArray):Option (Int × Bool) :=
 if a0.size≤281474976710656 then (match Lib.atoiAll a0.data.toList with
  | .ok v=>if 0≤v then (if v≤1000000000000000000 then (if (⟨(Lib.itoa v).toArray⟩:ByteArray).toList=a0.toList then some (v,τ) else some (0,φ)) else some (0,φ)) else some (0,φ)
  | _=>some (0,φ)) else none
theorem impl_readAmount.bad (a0:ByteArray) (hs:a0.size≤281474976710656) (hb:(∀ v,Lib.atoiAll a0.data.toList ≠ .ok v)) (w:World) (hT0:TabsOK w) :
  Calls Tryz.prog 192 #[.string a0] w fun e w' => ∃ (n:Int) (te N:Nat),e = .returned (.tuple #[.int .i64 n,.iface te (.pointer (some ⟨N,0,none⟩))])∧Below w.heap.size w w':=by
 cases hh:Lib.atoiAll a0.data.toList with
 | ok v=>exact absurd hh (hb v)
 | «syntax» =>
  obtain ⟨tp,p,hv⟩:=hT0.2.1
  refine (Tryz.strconv_Atoi_syntax_var a0 hs hh tp p w (hv w (Below.refl _ _))).mono ?_
  rintro e w' ⟨N,rfl,_,_,hb⟩
  exact ⟨_,_,N,rfl,hb⟩
 | range =>
  obtain ⟨tp,p,hv⟩:=hT0.2.2
  refine (Tryz.strconv_Atoi_range_var a0 hs hh tp p w (hv w (Below.refl _ _))).mono ?_
  rintro e w' ⟨N,rfl,_,_,hb⟩
  exact ⟨_,_,N,rfl,hb⟩
theorem impl_readAmount.good (a0:ByteArray) (hs:a0.size≤281474976710656) (v:Int) (hb:Lib.atoiAll a0.data.toList = .ok v) (w:World) :
  Calls Tryz.prog 192 #[.string a0] w fun e w'=>e = .returned (.tuple #[.int .i64 v,.nilIface])∧Below w.heap.size w w':=by
 refine (Tryz.strconv_Atoi_ok a0 (by omega) v hb w).mono ?_
 rintro e w' ⟨rfl,rfl|⟨t,rfl⟩⟩
 · exact ⟨rfl,Below.refl _ _⟩
 ·
  exact ⟨rfl,bytes_below (Below.refl _ _) (Nat.le_refl _) 5 t⟩
set_option maxHeartbeats 4000000 in
set_option maxRecDepth 100000 in
theorem impl_readAmount.calls (a0:ByteArray) (r1:Int) (r2:Bool) (w:World) (hT0:TabsOK w) (h:impl_readAmount.f a0=some (r1,r2)) :
  Calls Tryz.prog 151 #[.string a0] w fun e w'=>e = .returned (.tuple #[.int .i64 r1,.bool r2])∧Below w.heap.size w w':=by
 unfold impl_readAmount.f at h
 by_cases hs:a0.size≤281474976710656
 ·
  rw [if_pos hs] at h
  by_cases hg : ∃ v,Lib.atoiAll a0.data.toList = .ok v
  ·
   obtain ⟨v,hv⟩:=hg
   rw [hv] at h
   have HV:=ζa hv
   have HS:=ζa hs
   have HT:=ζa hT0
   clear hv hs hT0
   dsimp only at h
   by_cases h0:0≤v∧v≤1000000000000000000
   ·
    rw [if_pos h0.1,if_pos h0.2] at h
    have HA:Aside0 (impl_isAmount.f v=some τ):=⟨by
     unfold impl_isAmount.f impl_within.f
     rw [if_pos h0.1,decide_eq_true h0.2]
     rfl⟩
    have HI:Aside0 (impl_amountText.f v=some ⟨(Lib.itoa v).toArray⟩):=⟨by
     unfold impl_amountText.f strconv_Itoa.f
     rw [if_pos (by omega),if_pos (by omega)]
     rfl⟩
    generalize (⟨(Lib.itoa v).toArray⟩:ByteArray)=t at h HI
    by_cases ht:t.toList=a0.toList
    ·
     rw [if_pos ht] at h
     injection h with h
     injection h with e1 e2
     subst e1 e2
     go_enter Tryz.func151,Tryz.ntmps151
     go_wp2_with fail
     refine (impl_readAmount.good a0 HS.out v HV.out _).mono ?_
     rintro e w' ⟨rfl,hb⟩
     have HB:=ζa hb
     clear hb
     go_wp2_with fail
     refine (impl_isAmount.calls v τ _ HA.out).mono ?_
     rintro e w2 ⟨rfl,⟨m,rfl⟩⟩
     go_wp2_with fail
     refine (impl_amountText.calls v t _ (HT.out.below (δi HB.out m)) HI.out).mono ?_
     rintro e w3 ⟨rfl,hb3⟩
     have HB3:=ζa (δr (δi HB.out m) hb3)
     clear hb3
     go_wp2
     go_ret2
     exact ⟨rfl,HB3.out⟩
    ·
     rw [if_neg ht] at h
     have htb:(t.toList == a0.toList)=φ:=beq_eq_false_iff_ne.2 ht
     clear ht
     injection h with h
     injection h with e1 e2
     subst e1 e2
     go_enter Tryz.func151,Tryz.ntmps151
     go_wp2_with fail
     refine (impl_readAmount.good a0 HS.out v HV.out _).mono ?_
     rintro e w' ⟨rfl,hb⟩
     have HB:=ζa hb
     clear hb
     go_wp2_with fail
     refine (impl_isAmount.calls v τ _ HA.out).mono ?_
     rintro e w2 ⟨rfl,⟨m,rfl⟩⟩
     go_wp2_with fail
     refine (impl_amountText.calls v t _ (HT.out.below (δi HB.out m)) HI.out).mono ?_
     rintro e w3 ⟨rfl,hb3⟩
     have HB3:=ζa (δr (δi HB.out m) hb3)
     clear hb3
     go_wp2
     go_ret2
     exact ⟨rfl,HB3.out⟩
   ·
    have e:(some ((0:Int),φ):Option (Int × Bool))=some (r1,r2):=by
     by_cases h1:0≤v
     · rw [if_pos h1,if_neg (fun h2=>h0 ⟨h1,h2⟩)] at h;exact h
     ·
      rw [if_neg h1] at h;exact h
    clear h
    injection e with h
    injection h with e1 e2
    subst e1 e2
    have HA:Aside0 (impl_isAmount.f v=some φ):=⟨by
     unfold impl_isAmount.f impl_within.f
     by_cases h1:0≤v
     · rw [if_pos h1,decide_eq_false (fun h2=>h0 ⟨h1,h2⟩)];rfl
     ·
      rw [if_neg h1];rfl⟩
    clear h0
    go_enter Tryz.func151,Tryz.ntmps151
    go_wp2_with fail
    refine (impl_readAmount.good a0 HS.out v HV.out _).mono ?_
    rintro e w' ⟨rfl,hb⟩
    have HB:=ζa hb
    clear hb
    go_wp2_with fail
    refine (impl_isAmount.calls v φ _ HA.out).mono ?_
    rintro e w2 ⟨rfl,⟨m,rfl⟩⟩
    go_wp2
    go_ret2
    exact ⟨rfl,δi HB.out m⟩
  ·
   have hn : ∀ v,Lib.atoiAll a0.data.toList ≠ .ok v:=fun v hv=>hg ⟨v,hv⟩
   have e:(some ((0:Int),φ):Option (Int × Bool))=some (r1,r2):=by
    cases hh:Lib.atoiAll a0.data.toList with
    | ok v=>exact absurd hh (hn v)
    | «syntax» => rw [hh] at h;exact h
    | range=>rw [hh] at h;exact h
   clear h
   injection e with h
   injection h with e1 e2
   subst e1 e2
   have HN:=ζa (impl_readAmount.bad a0 hs hn w hT0)
   clear hs hn hg hT0
   go_enter Tryz.func151,Tryz.ntmps151
   go_wp2_with fail
   refine HN.out.mono ?_
   rintro e w' ⟨n,te,N,rfl,hb⟩
   have HB:=ζa hb
   clear hb
   go_wp2
   go_ret2
   exact ⟨rfl,HB.out⟩
 · rw [if_neg hs] at h;cases h

end Go.Proofs.YtabmfhnhmoiljaaGreatDoor.Q
