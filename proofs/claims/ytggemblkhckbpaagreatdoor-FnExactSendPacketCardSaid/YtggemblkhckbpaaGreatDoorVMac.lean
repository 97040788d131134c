/- Steps of the walk with their habits: single laws of the print's words whose side conditions are shown by their default proofs. -/
import Derived.Lib.AppendStr
import Derived.Lib.SlBytesConst
import Derived.Lib.SliceRun
import Derived.Test.YtggemblkhckbpaaGreatDoorVWords
import Derived.Test.YtggemblkhckbpaaGreatDoorVLast
import Derived.Test.YtggemblkhckbpaaGreatDoorVTab
import Derived.Test.YtggemblkhckbpaaGreatDoorVMore
import Derived.Test.YtggemblkhckbpaaGreatDoorVGuard
import Derived.Test.YtggemblkhckbpaaGreatDoorVRepsOne
namespace Go.Proofs.YtggemblkhckbpaaGreatDoor.Q
open Go Go.RowKit Go.Proofs.YtggemblkhckbpaaGreatDoorW.PrintWords Go.Proofs.YtggemblkhckbpaaGreatDoorW.PrintLast Go.Proofs.YtggemblkhckbpaaGreatDoorW.PrintMore
set_option linter.unusedVariables false
section
variable {P:Program} {ops:Array Oper} {Q:Exit→Act→World→Prop} {S:World→Prop} {ds:List Nat} {md:Region.Mode} {fuel:Nat} {l:Array Bool} {a a':Act} {w:World} {oi:Oper} {v:Value}
theorem pu (i:Nat) (N:Tmp) (h:wpAnyLast P md ops Q S ds fuel (l.setIfInBounds i true) a' w)
    (hi:ops[i]? = some oi:=by exact rfl) (hN:oi.dst=some N:=by exact rfl) (hc:anyB md ops l (l.setIfInBounds i true) i=true:=by exact any_of HT_.out (by kernel_rfl))
    (hQ : ∀ c a w,Q (.panic c) (a.put oi.dst v) w→Q (.panic c) a w:=by exact fun _ _ _ h=>h) (hy:Yields P ops oi v a:=by exact Or.inl ⟨by rfl,by intro w';go_simp;with_reducible rfl⟩)
    (ha:a.put (some N) v=a':=by simp only [Act.put,List.setIfInBounds_toArray,List.set_cons_zero,List.set_cons_succ,i64_w,i32_w];rfl):wpAnyLast P md ops Q S ds (fuel+1) l a w :=
  pure_ _ hi hN hc hQ hy ha h
theorem ta (i:Nat) (N:Tmp) (h:wpAnyLast P md ops Q S ds fuel (l.setIfInBounds i true) a' w)
    (hi:ops[i]? = some oi:=by exact rfl) (hN:oi.dst=some N:=by exact rfl) (hc:takeB md ops ds l (l.setIfInBounds i true) i=true:=by exact take_ofW HT_.out HW_.out (by kernel_rfl))
    (hQ : ∀ c a w,Q (.panic c) (a.put oi.dst v) w→Q (.panic c) a w:=by exact fun _ _ _ h=>h) (hy:YieldsIf P ops S oi v a:=by exact Or.inl ⟨by rfl,by intro w' s0;(try simp only [and_assoc] at s0);(repeat (obtain ⟨_,s0⟩:=s0));go_simp;with_reducible rfl⟩) (hS:S w:=by exact hHeld)
    (ha:a.put (some N) v=a':=by simp only [Act.put,List.setIfInBounds_toArray,List.set_cons_zero,List.set_cons_succ,i64_w,i32_w];rfl):wpAnyLast P md ops Q S ds (fuel+1) l a w :=
  take_ _ hi hN hc hQ hy hS ha h
variable {o:Oper} {Kc:Act→World→Prop}
theorem on (i N:Nat) (h : ∀ K:Act→World→Prop,Shut (∀ a' w',S w'→(S w'→wpAnyLast P md ops Q S ds fuel (l.setIfInBounds i true) a' w')→K a' w')→if Region.wanted oi (yielded ops a.tmps)=true then Oper.wp P oi a w K Q else K (a.put (some N) undef) w)
    (hi:ops[i]? = some oi:=by exact rfl) (hN:oi.dst=some N:=by exact rfl) (hc:readyB md ops l (l.setIfInBounds i true) i=true:=by exact one_of HT_.out (by kernel_rfl)) (hd:i ∉ ds:=by decide):wpAnyLast P md ops Q S ds (fuel+1) l a w :=
  one_ _ hi hN hc hd h
theorem nm (N:Nat) (h:wpAnyLast P md ops Q S ds fuel l a' w) (ha:a.put (some N) v=a':=by simp only [Act.put,List.setIfInBounds_toArray,List.set_cons_zero,List.set_cons_succ,i64_w,i32_w];rfl):wpAnyLast P md ops Q S ds fuel l (a.put (some N) v) w:=by
  subst ha
  exact h
variable {rest:List Oper} {e:TypeId}
theorem blw {p:Prop} (h:p:=by (repeat (first | (with_reducible exact HB.out) | apply below_alloc | apply below_drew1 | apply pw_below_drewN | (with_reducible exact Below.refl _ _)))):p:=h
theorem bx (w:World) {W:World} (N:Tmp) (cs:Array Value) (t:TypeId)
    (h : ∀ g w1,Aside0 (w1.heap[g]? = some (.cells cs t (0,0)))→Aside0 (w.heap.size≤g)→Aside0 (Below w.heap.size w w1)→Below W.heap.size W w1→wpList P ops Q rest (a.put o.dst (.pointer (some ⟨g,0,none⟩))) w1)
    (hN:o.dst=some N:=by exact rfl) (hgd:o.guard=none:=by exact rfl)
    (hrun:(execOp a.eval o).run P W = .ok (.value (.pointer (some ⟨W.heap.size,0,none⟩))) (W.alloc (.cells cs t (0,0))):=by first | (go_simp;done) | (go_simp;rfl))
    (HB:Below w.heap.size w W:=by exact blw):wpList P ops Q (o :: rest) a W :=
  Kd.event_run hgd hrun (h _ _ ⟨blk_new W _⟩ ⟨HB.size⟩ ⟨below_step HB (below_alloc (Below.refl _ _) _)⟩ (below_alloc (Below.refl _ _) _))
theorem run_ap8 {W:World} (t ty e:TypeId) (ht:P.underlying t=some (.slice e)) (hinfo:(P.info? e).map (fun i=>(i.zero,i.size,i.bytes))=some (some (.int .u8 0),1,1))
    (A B:Option Addr) (c:Nat) (xs ys:List Int) (hx:Kd.C (Kd.int .u8) W A xs.length xs) (hy:Kd.C (Kd.int .u8) W B ys.length ys) (h0:0<xs.length) (h1:0<ys.length) (hl:xs.length+ys.length≤140737488355328) :
    ∃ v1 w1,(Builtin.append_ #[t,t] ty #[.slice A xs.length xs.length,.slice B ys.length c]).run P W = .ok v1 w1∧Kd.R (Kd.int .u8) e w1 W.heap.size (fun _=>True) v1 (xs ++ ys)∧Below W.heap.size W w1:=by
  obtain ⟨i0,hi,hzz⟩:=Option.map_eq_some_iff.1 hinfo
  simp only [Prod.mk.injEq] at hzz
  obtain ⟨hz0,hz1,hz2⟩:=hzz
  obtain ⟨a,rfl,ha⟩:=(Kd.reads_of_C (enc:=Value.int .u8) (d:=0) (h1:=fun _=>rfl) hx).2.2 h0
  obtain ⟨b,rfl,hb⟩:=(Kd.reads_of_C (enc:=Value.int .u8) (d:=0) (h1:=fun _=>rfl) hy).2.2 h1
  have cells : ∀ (zs:List Int) (z:Addr),(∀ j,j<zs.length→W.cell? (z.add j)=some (.int .u8 (zs.getD j 0))) → ∀ j v,(nums .u8 zs)[j]? = some v→W.cell? (z.add j)=some v:=by
    intro zs z hz j v hv
    have hj:j<zs.length:=by
      rcases Nat.lt_or_ge j zs.length with h | h
      · exact h
      · simp [nums,List.getElem?_eq_none h] at hv
    rw [hz j hj]
    simp [nums,List.getElem?_eq_getElem hj] at hv
    simp [List.getD_eq_getElem?_getD,List.getElem?_eq_getElem hj,hv]
  have h63:xs.length+ys.length≤maxLen:=by simp only [maxLen];omega
  have hr:=run_append_grow (P:=P) (w:=W) t ty e i0 (.int .u8 0) ht hi hz0 a xs.length xs.length (nums .u8 xs) (by simp [nums,hz1]) (cells xs a ha) b ys.length c (nums .u8 ys) (by simp [nums,hz1]) (cells ys b hb) (by omega) (by omega) (by rw [hz2];exact growslice_fits (by omega) (by omega))
  refine ⟨_,_,hr,?_,?_⟩
  · have hge:=grownCap_ge W (xs.length+ys.length) xs.length e
    have hcm:grownCap W (xs.length+ys.length) xs.length e≤maxLen:=grownCap_le_maxLen W (xs.length+ys.length) xs.length e h63
    refine Kd.R_of_own ⟨?_,.inr ⟨W.heap.size,_,_,by simp,Nat.le_refl _,heap_alloc_new W.drew _,by simpa using hge,hcm,?_,?_⟩⟩ (fun _ _=>trivial)
    · simp [encs]
    · have hz1:(Value.int IntKind.u8 0).cells.size=1:=rfl
      simp only [Array.size_append,List.size_toArray,size_zeroCells,hz1,nums_length]
      omega
    · have e1:encs (Value.int .u8) (xs ++ ys)=nums .u8 xs ++ nums .u8 ys:=by simp [encs,nums]
      rw [e1]
      simp only [Array.toList_append,List.append_assoc]
      rw [← List.append_assoc]
      have e2:(xs ++ ys).length * 1=(nums .u8 xs ++ nums .u8 ys).length:=by simp [nums]
      rw [e2]
      exact List.take_left
  · exact below_alloc (w:=W) (W:=W.drew) (below_drew (Below.refl _ _)) _
theorem ap8 (w:World) {W:World} (N:Tmp) (s x:Operand) (t e:TypeId) (A B:Option Addr) (c:Nat) (xs ys:List Int)
    (ht:P.underlying t=some (.slice e)) (hinfo:(P.info? e).map (fun i=>(i.zero,i.size,i.bytes))=some (some (.int .u8 0),1,1))
    (hx:Kd.C (Kd.int .u8) W A xs.length xs) (hy:Kd.C (Kd.int .u8) W B ys.length ys) (h0:0<xs.length) (h1:0<ys.length) (hl:xs.length+ys.length≤140737488355328)
    (h : ∀ v1 w1,Aside0 (Kd.R (Kd.int .u8) e w1 w.heap.size (fun _=>True) v1 (xs ++ ys))→Aside0 (Below w.heap.size w w1)→Below W.heap.size W w1→wpList P ops Q rest (a.put o.dst v1) w1)
    (hN:o.dst=some N:=by exact rfl) (hgd:o.guard=none:=by exact rfl)
    (ho:o.op = .call { callee:=.builtin .append,args:=#[s,x],argTypes:=#[t,t] }:=by exact rfl)
    (hs:a.eval s = .slice A xs.length xs.length:=by exact rfl) (hx':a.eval x = .slice B ys.length c:=by exact rfl)
    (HB:Below w.heap.size w W:=by exact blw):wpList P ops Q (o :: rest) a W:=by
  obtain ⟨v1,w1,hr,hR,hB⟩:=run_ap8 (P:=P) t o.type e ht hinfo A B c xs ys hx hy h0 h1 hl
  refine wpList_plain hgd fun K hK => ?_
  unfold Oper.wp execOp
  simp only [ho,resolve,invoke,builtin,Sem.run_bind,Sem.run_pure,Result.andThen_ok,List.map_toArray,List.map_cons,List.map_nil,hs,hx',hr]
  exact hK _ _ (h v1 w1 ⟨Kd.R_lower hR HB.size⟩ ⟨below_step HB hB⟩ hB)
theorem cv8 (w:World) {W:World} (N:Tmp) (x:Operand) (t e:TypeId) (C:Array Value) (n c:Nat) (ht:P.underlying t=some (.slice e)) (he:P.underlying e=some (.int .u8))
    (h : ∀ w1,Aside0 (w1.heap[W.heap.size]? = some (.cells C e (C.size,C.size+1)))→Aside0 (Below w.heap.size w w1)→Below W.heap.size W w1→wpList P ops Q rest (a.put o.dst (.slice (some ⟨W.heap.size,0,none⟩) n c)) w1)
    (hN:o.dst=some N:=by exact rfl) (hgd:o.guard=none:=by exact rfl) (ho:o.op = .convert t t x:=by exact rfl) (hx:a.eval x = .slice (some ⟨W.heap.size,0,none⟩) n c:=by exact rfl)
    (HB:Below w.heap.size w W:=by exact blw):wpList P ops Q (o :: rest) a (W.alloc (.cells C e)):=by
  have hr:=Lib.run_convert_bytes_const (P:=P) W t e C n c ht he
  refine wpList_plain hgd fun K hK => ?_
  unfold Oper.wp execOp
  simp only [ho,Sem.run_bind,Sem.run_pure,Result.andThen_ok,hx,hr]
  exact hK _ _ (h _ ⟨blk_new W _⟩ ⟨below_step HB (below_alloc (Below.refl _ _) _)⟩ (below_alloc (Below.refl _ _) _))
theorem bev {W:World} (N:Tmp) (cs:Array Value) (t:TypeId)
    (h : ∀ g,g=W.heap.size → ∀ w1,w1.heap[g]? = some (.cells cs t (0,0))→Below W.heap.size W w1→wpList P ops Q rest (a.put o.dst (.pointer (some ⟨g,0,none⟩))) w1)
    (hd:o.dst=some N:=by exact rfl) (hgd:o.guard=none:=by exact rfl)
    (hrun:(execOp a.eval o).run P W = .ok (.value (.pointer (some ⟨W.heap.size,0,none⟩))) (W.alloc (.cells cs t (0,0))):=by first | (go_simp;done) | (go_simp;rfl)):wpList P ops Q (o :: rest) a W :=
  box_event hgd hd hrun h
theorem gbw {g:Nat} {w W:World} (hg:g=W.heap.size) (h:Below w.heap.size w W):w.heap.size≤g:=hg ▸ h.size
theorem gl {w:World} (N:Nat) {f:FuncId} {fn:Func} {as:Array Operand} {ts:Array TypeId} (hf:P.funcs[f]? = some fn) (args:Array Value)
    (h:Calls P f args w fun e w' => ∃ v,e = .returned v∧wpList P ops Q rest (a.put (some N) v) w')
    (hd : oi.dst = some N := by exact rfl) (hg : oi.guard = none := by exact rfl) (hname : (fn.name == "runtime.NumGoroutine") = false := by kernel_rfl) (hb : fn.body.isSome = true := by exact rfl)
    (hop:oi.op = .call { callee:=.value (.func f),args:=as,argTypes:=ts }:=by exact rfl) (hargs:as.map a.eval=args:=by (try simp only [List.map_toArray,List.map_cons,List.map_nil]);first | done | rfl | (simp only [List.length_drop,List.length_take];rfl)):wpList P ops Q (oi :: rest) a w :=
  goesL_ (some N) hd hg hf hname hb args hop hargs h
theorem gs {w:World} {N:Option Tmp} {K:Act→World→Prop} {f:FuncId} {fn:Func} {as:Array Operand} {ts:Array TypeId} (hf:P.funcs[f]? = some fn) (args:Array Value)
    (h:Calls P f args w fun e w' => ∃ v,e = .returned v∧K (a.put N v) w')
    (hname : (fn.name == "runtime.NumGoroutine") = false := by kernel_rfl) (hb : fn.body.isSome = true := by exact rfl) (hw : Region.wanted oi (yielded ops a.tmps) = true := by rfl) (hN : oi.dst = N := by exact rfl)
    (hop:oi.op = .call { callee:=.value (.func f),args:=as,argTypes:=ts }:=by exact rfl) (hargs:as.map a.eval=args:=by (try simp only [List.map_toArray,List.map_cons,List.map_nil]);first | done | rfl | (simp only [List.length_drop,List.length_take];rfl)):if Region.wanted oi (yielded ops a.tmps)=true then Oper.wp P oi a w K Q else K (a.put N undef) w :=
  goes_ hf hname hb args hw hN hop hargs h
theorem tw (i j Ni Nj:Nat) {oj:Oper}
    (h1 : ∀ K:Act→World→Prop,Shut (∀ a' w',S w'→(S w'→wpAnyLast P md ops Q S ds fuel (l.setIfInBounds i true) a' w')→K a' w')→if Region.wanted oi (yielded ops a.tmps)=true then Oper.wp P oi a w K Q else K (a.put (some Ni) undef) w)
    (h2 : ∀ K:Act→World→Prop,Shut (∀ a' w',S w'→(S w'→wpAnyLast P md ops Q S ds fuel (l.setIfInBounds j true) a' w')→K a' w')→if Region.wanted oj (yielded ops a.tmps)=true then Oper.wp P oj a w K Q else K (a.put (some Nj) undef) w)
    (hi:ops[i]? = some oi:=by exact rfl) (hj:ops[j]? = some oj:=by exact rfl) (hNi:oi.dst=some Ni:=by exact rfl) (hNj:oj.dst=some Nj:=by exact rfl)
    (hc:(Region.ready md ops l == [i,j] && l.setIfInBounds i true == l.setIfInBounds i true && l.setIfInBounds j true == l.setIfInBounds j true)=true:=by exact two_of HT_.out (by kernel_rfl)) (hdi:i ∉ ds:=by decide) (hdj:j ∉ ds:=by decide):wpAnyLast P md ops Q S ds (fuel+1) l a w :=
  two_ _ _ hi hj hNi hNj hc hdi hdj h1 h2
theorem sta {id:Nat} (n:Nat) (S:World→Prop) (ds:List Nat) {T:Bool × List (List Nat × List Nat)} {B:List Nat} (hT:rtab .any ops=T) (hB:waitsOk T.2 B=true) (hS:S w.drew)
    (h:S w.drew→Aside0 (rtab .any ops=T)→Aside0 (waitsOk T.2 B=true)→wpAnyLast P .any ops Q S ds n (Array.replicate n false) a w.drew)
    (hm:P.follows .mixedOrders=true:=by kernel_rfl) (hn:ops.size=n:=by exact rfl):(Code.region id ops true).wp P Q a w :=
  start_ _ hm hn rfl hS (fun hs=>h hs ⟨hT⟩ ⟨hB⟩)
theorem bsm {α β:Type} {x:Option α} {f:α→Option β} {r:β} (h:x.bind f=some r) : ∃ t,Aside0 (x=some t)∧f t=some r:=by
  obtain ⟨t,h1,h2⟩:=Option.bind_eq_some_iff.mp h
  exact ⟨t,⟨h1⟩,h2⟩
theorem ifT {α:Type} {a b:α} : (if true=true then a else b)=a:=rfl
theorem ifF {α:Type} {a b:α} : (if false=true then a else b)=b:=rfl
end
end Go.Proofs.YtggemblkhckbpaaGreatDoor.Q
