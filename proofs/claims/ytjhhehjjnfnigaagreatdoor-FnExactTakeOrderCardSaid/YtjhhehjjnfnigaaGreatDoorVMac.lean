/- Steps of the walk with their habits: single laws of the print's words whose side conditions are shown by their default proofs. -/
import Derived.Lib.AppendStr
import Derived.Lib.SlBytesConst
import Derived.Test.YtjhhehjjnfnigaaGreatDoorVWords
import Derived.Test.YtjhhehjjnfnigaaGreatDoorVLast
import Derived.Test.YtjhhehjjnfnigaaGreatDoorVTab
import Derived.Test.YtjhhehjjnfnigaaGreatDoorVMore
import Derived.Test.YtjhhehjjnfnigaaGreatDoorVGuard
import Derived.Test.YtjhhehjjnfnigaaGreatDoorVRepsOne
namespace Go.Proofs.YtjhhehjjnfnigaaGreatDoor.Q
open Go Go.RowKit Go.Proofs.YtjhhehjjnfnigaaGreatDoorW.PrintWords Go.Proofs.YtjhhehjjnfnigaaGreatDoorW.PrintLast Go.Proofs.YtjhhehjjnfnigaaGreatDoorW.PrintMore
set_option linter.unusedVariables false
section
variable {P:Program} {ops:Array Oper} {Q:Exit→Act→World→Prop} {S:World→Prop} {ds:List Nat} {md:Region.Mode} {fuel:Nat} {l:Array Bool} {a a':Act} {w:World} {oi:Oper} {v:Value}
theorem pu (i:Nat) (N:Tmp) (h:wpAnyLast P md ops Q S ds fuel (l.setIfInBounds i true) a' w)
    (hi:ops[i]? = some oi:=by exact rfl) (hN:oi.dst=some N:=by exact rfl) (hc:anyB md ops l (l.setIfInBounds i true) i=true:=by exact any_of HT_.out (by kernel_rfl))
    (hQ : ∀ c a w,Q (.panic c) (a.put oi.dst v) w→Q (.panic c) a w:=by exact fun _ _ _ h=>h) (hy:Yields P ops oi v a:=by exact Or.inl ⟨by rfl,by intro w';go_simp;with_reducible rfl⟩)
    (ha:a.put (some N) v=a':=by simp only [Act.put,List.setIfInBounds_toArray,List.set_cons_zero,List.set_cons_succ,i64_w,i32_w];rfl):wpAnyLast P md ops Q S ds (fuel+1) l a w :=
  pure_ _ hi hN hc hQ hy ha h
theorem ta (i:Nat) (N:Tmp) (h:wpAnyLast P md ops Q S ds fuel (l.setIfInBounds i true) a' w)
    (hi:ops[i]? = some oi:=by exact rfl) (hN:oi.dst=some N:=by exact rfl) (hc:takeB md ops ds l (l.setIfInBounds i true) i=true:=by exact take_ofW HT_.out HW_.out (by kernel_rfl))
    (hQ : ∀ c a w,Q (.panic c) (a.put oi.dst v) w→Q (.panic c) a w:=by exact fun _ _ _ h=>h) (hy:YieldsIf P ops S oi v a:=by exact Or.inl ⟨by rfl,by intro w' s0;(try simp only [and_assoc] at s0);(repeat (obtain ⟨_,s0⟩:=s0));go_simp;with_reducible rfl⟩) (hS:S w:=by exact hHeld)
    (ha:a.put (some N) v=a':=by simp only [Act.put,List.setIfInBounds_toArray,List.set_cons_zero,List.set_cons_succ,i64_w,i32_w];rfl):wpAnyLast P md ops Q S ds (fuel+1) l a w :=
  take_ _ hi hN hc hQ hy hS ha h
variable {o:Oper} {Kc:Act→World→Prop}
theorem str_step {w0 W:World} (hw:Region.wanted o (yielded ops a.tmps)=true) (s x:Operand) (t u e:TypeId)
    (ho:o.op = .call { callee:=.builtin .append,args:=#[s,x],argTypes:=#[t,u] })
    (ht:P.underlying t=some (.slice e)) (hu:P.underlying u=some .string) (hinfo:(P.info? e).map (fun i=>(i.zero,i.size,i.bytes))=some (some (.int .u8 0),1,1))
    (v:Value) (xs:List Int) (y:ByteArray) (hs:a.eval s=v) (hx:a.eval x = .string y)
    (HO:Kd.R (Kd.int .u8) e W w0.heap.size (fun _=>True) v xs) (HB:Below w0.heap.size w0 W) (hl:xs.length+y.size≤140737488355328)
    (h : ∀ v1 w1,Kd.R (Kd.int .u8) e w1 w0.heap.size (fun _=>True) v1 (xs ++ bytesOf y)→Below w0.heap.size w0 w1→W.grownBy w1 v.ownBlock→Kc (a.put o.dst v1) w1) :
    if Region.wanted o (yielded ops a.tmps)=true then Oper.wp P o a W Kc Q else Kc (a.put o.dst undef) W:=by
  rw [if_pos hw]
  obtain ⟨i0,hi,hzz⟩:=Option.map_eq_some_iff.1 hinfo
  simp only [Prod.mk.injEq] at hzz
  obtain ⟨hz0,hz1,hz2⟩:=hzz
  have HW:=Kd.own_of_R (enc:=Value.int .u8) (h1:=fun _=>rfl) HO
  obtain ⟨v',w',hr,h2,h3,h4⟩:=Lib.run_append_own_string (P:=P) W w0.heap.size t u o.type e i0 ht hu hi hz0 hz1 hz2 v xs.length (encs (Value.int .u8) xs) HW y (by simp only [maxLen];omega) hl HB.size
  unfold Oper.wp execOp
  simp only [ho,resolve,invoke,builtin,Sem.run_bind,Sem.run_pure,Result.andThen_ok,List.map_toArray,List.map_cons,List.map_nil,hs,hx,hr]
  have hl2:(xs ++ bytesOf y).length=xs.length+y.size:=by rw [List.length_append,bytesOf_length]
  have hc:encs (Value.int .u8) (xs ++ bytesOf y)=encs (Value.int .u8) xs ++ Lib.strCells y:=by
    rw [encs_append]
    congr 1
    simp [encs,bytesOf,Lib.strCells]
  exact h v' w' (Kd.R_of_own (by rw [hl2,hc];exact h2) (fun _ _=>trivial)) (HB.grown h3 HB.size (own_base HW)) h3
theorem on (i N:Nat) (h : ∀ K:Act→World→Prop,Shut (∀ a' w',S w'→(S w'→wpAnyLast P md ops Q S ds fuel (l.setIfInBounds i true) a' w')→K a' w')→if Region.wanted oi (yielded ops a.tmps)=true then Oper.wp P oi a w K Q else K (a.put (some N) undef) w)
    (hi:ops[i]? = some oi:=by exact rfl) (hN:oi.dst=some N:=by exact rfl) (hc:readyB md ops l (l.setIfInBounds i true) i=true:=by exact one_of HT_.out (by kernel_rfl)) (hd:i ∉ ds:=by decide):wpAnyLast P md ops Q S ds (fuel+1) l a w :=
  one_ _ hi hN hc hd h
theorem nm (N:Nat) (h:wpAnyLast P md ops Q S ds fuel l a' w) (ha:a.put (some N) v=a':=by simp only [Act.put,List.setIfInBounds_toArray,List.set_cons_zero,List.set_cons_succ,i64_w,i32_w];rfl):wpAnyLast P md ops Q S ds fuel l (a.put (some N) v) w:=by
  subst ha
  exact h
variable {rest:List Oper} {e:TypeId}
theorem bev {W:World} (N:Tmp) (cs:Array Value) (t:TypeId)
    (h : ∀ g,g=W.heap.size → ∀ w1,w1.heap[g]? = some (.cells cs t (0,0))→Below W.heap.size W w1→wpList P ops Q rest (a.put o.dst (.pointer (some ⟨g,0,none⟩))) w1)
    (hd:o.dst=some N:=by exact rfl) (hgd:o.guard=none:=by exact rfl)
    (hrun:(execOp a.eval o).run P W = .ok (.value (.pointer (some ⟨W.heap.size,0,none⟩))) (W.alloc (.cells cs t (0,0))):=by first | (go_simp;done) | (go_simp;rfl)):wpList P ops Q (o :: rest) a W :=
  box_event hgd hd hrun h
theorem gbw {g:Nat} {w W:World} (hg:g=W.heap.size) (h:Below w.heap.size w W):w.heap.size≤g:=hg ▸ h.size
theorem gl {w:World} (N:Nat) {f:FuncId} {fn:Func} {as:Array Operand} {ts:Array TypeId} (hf:P.funcs[f]? = some fn) (args:Array Value)
    (h:Calls P f args w fun e w' => ∃ v,e = .returned v∧wpList P ops Q rest (a.put (some N) v) w')
    (hd : oi.dst = some N := by exact rfl) (hg : oi.guard = none := by exact rfl) (hname : (fn.name == "runtime.NumGoroutine") = false := by kernel_rfl) (hb : fn.body.isSome = true := by exact rfl)
    (hop:oi.op = .call { callee:=.value (.func f),args:=as,argTypes:=ts }:=by exact rfl) (hargs:as.map a.eval=args:=by (try simp only [List.map_toArray,List.map_cons,List.map_nil]);first | done | rfl | (simp only [List.length_drop,List.length_take];rfl)):wpList P ops Q (oi :: rest) a w :=
  goesL_ (some N) hd hg hf hname hb args hop hargs h
theorem gs {w:World} {N:Option Tmp} {K:Act→World→Prop} {f:FuncId} {fn:Func} {as:Array Operand} {ts:Array TypeId} (hf:P.funcs[f]? = some fn) (args:Array Value)
    (h:Calls P f args w fun e w' => ∃ v,e = .returned v∧K (a.put N v) w')
    (hname : (fn.name == "runtime.NumGoroutine") = false := by kernel_rfl) (hb : fn.body.isSome = true := by exact rfl) (hw : Region.wanted oi (yielded ops a.tmps) = true := by rfl) (hN : oi.dst = N := by exact rfl)
    (hop:oi.op = .call { callee:=.value (.func f),args:=as,argTypes:=ts }:=by exact rfl) (hargs:as.map a.eval=args:=by (try simp only [List.map_toArray,List.map_cons,List.map_nil]);first | done | rfl | (simp only [List.length_drop,List.length_take];rfl)):if Region.wanted oi (yielded ops a.tmps)=true then Oper.wp P oi a w K Q else K (a.put N undef) w :=
  goes_ hf hname hb args hw hN hop hargs h
theorem tw (i j Ni Nj:Nat) {oj:Oper}
    (h1 : ∀ K:Act→World→Prop,Shut (∀ a' w',S w'→(S w'→wpAnyLast P md ops Q S ds fuel (l.setIfInBounds i true) a' w')→K a' w')→if Region.wanted oi (yielded ops a.tmps)=true then Oper.wp P oi a w K Q else K (a.put (some Ni) undef) w)
    (h2 : ∀ K:Act→World→Prop,Shut (∀ a' w',S w'→(S w'→wpAnyLast P md ops Q S ds fuel (l.setIfInBounds j true) a' w')→K a' w')→if Region.wanted oj (yielded ops a.tmps)=true then Oper.wp P oj a w K Q else K (a.put (some Nj) undef) w)
    (hi:ops[i]? = some oi:=by exact rfl) (hj:ops[j]? = some oj:=by exact rfl) (hNi:oi.dst=some Ni:=by exact rfl) (hNj:oj.dst=some Nj:=by exact rfl)
    (hc:(Region.ready md ops l == [i,j] && l.setIfInBounds i true == l.setIfInBounds i true && l.setIfInBounds j true == l.setIfInBounds j true)=true:=by exact two_of HT_.out (by kernel_rfl)) (hdi:i ∉ ds:=by decide) (hdj:j ∉ ds:=by decide):wpAnyLast P md ops Q S ds (fuel+1) l a w :=
  two_ _ _ hi hj hNi hNj hc hdi hdj h1 h2
theorem sta {id:Nat} (n:Nat) (S:World→Prop) (ds:List Nat) {T:Bool × List (List Nat × List Nat)} {B:List Nat} (hT:rtab .any ops=T) (hB:waitsOk T.2 B=true) (hS:S w.drew)
    (h:S w.drew→Aside0 (rtab .any ops=T)→Aside0 (waitsOk T.2 B=true)→wpAnyLast P .any ops Q S ds n (Array.replicate n false) a w.drew)
    (hm:P.follows .mixedOrders=true:=by kernel_rfl) (hn:ops.size=n:=by exact rfl):(Code.region id ops true).wp P Q a w :=
  start_ _ hm hn rfl hS (fun hs=>h hs ⟨hT⟩ ⟨hB⟩)
theorem bsm {α β:Type} {x:Option α} {f:α→Option β} {r:β} (h:x.bind f=some r) : ∃ t,Aside0 (x=some t)∧f t=some r:=by
  obtain ⟨t,h1,h2⟩:=Option.bind_eq_some_iff.mp h
  exact ⟨t,⟨h1⟩,h2⟩
theorem ifT {α:Type} {a b:α} : (if true=true then a else b)=a:=rfl
theorem ifF {α:Type} {a b:α} : (if false=true then a else b)=b:=rfl
end
end Go.Proofs.YtjhhehjjnfnigaaGreatDoor.Q
