/- The steps of printed walks, in few signs: what each step shows of itself, it shows here. -/
import Derived.Test.YtdnpkbhapdkikaaZWTab
import Derived.Test.YtdnpkbhapdkikaaZPlGoesV
set_option linter.unusedVariables false
namespace Go.Proofs.YtdnpkbhapdkikaaW.PrintLast
open Go.RowKit Go.Proofs.YtdnpkbhapdkikaaW.PrintWords
section
variable {P : Program} {ops : Array Oper} {Q : Exit → Act → World → Prop} {md : Region.Mode} {S : World → Prop} {ds : List Nat} {T : Bool × List (List Nat × List Nat)} {B : List Nat}
theorem pu (i : Nat) (N : Option Tmp) {oi : Oper} {v : Value} {fuel : Nat} {l l' : Array Bool} {a a' : Act} {w : World} (hT : Aside0 (rtab md ops = T)) (h : wpAnyLast P md ops Q S ds fuel l' a' w)
    (hi : ops[i]? = some oi := by rfl) (hN : oi.dst = N := by rfl) (hl : l.setIfInBounds i true = l' := by (simp only [List.setIfInBounds_toArray, List.set_cons_zero, List.set_cons_succ]; rfl))
    (hc : anyT T l.toList l'.toList i = true := by kernel_rfl) (hw : Region.wanted oi (yielded ops a.tmps) = true := by rfl)
    (hy : ∀ w', (execOp a.eval oi).run P w' = .ok (.value v) w' := by (intro w'; go_simp; with_reducible rfl)) (hQ : ∀ c a w, Q (.panic c) (a.put oi.dst v) w → Q (.panic c) a w := by exact fun _ _ _ h => h)
    (ha : a.put N v = a' := by (simp only [Act.put, List.setIfInBounds_toArray, List.set_cons_zero, List.set_cons_succ, i64_w, i32_w]; rfl)) : wpAnyLast P md ops Q S ds (fuel + 1) l a w :=
  pure_ l' hi hN (any_of hT.out hc) hQ (Or.inl ⟨hw, hy⟩) ha h
theorem tk (i : Nat) (N : Option Tmp) {oi : Oper} {v : Value} {fuel : Nat} {l l' : Array Bool} {a a' : Act} {w : World} (hT : Aside0 (rtab md ops = T)) (hB : Aside0 (waitsOk T.2 B = true)) (hS : S w) (h : wpAnyLast P md ops Q S ds fuel l' a' w)
    (hi : ops[i]? = some oi := by rfl) (hN : oi.dst = N := by rfl) (hl : l.setIfInBounds i true = l' := by (simp only [List.setIfInBounds_toArray, List.set_cons_zero, List.set_cons_succ]; rfl))
    (hc : takeW T B ds l.toList l'.toList i = true := by kernel_rfl) (hw : Region.wanted oi (yielded ops a.tmps) = true := by rfl)
    (hy : ∀ w', S w' → (execOp a.eval oi).run P w' = .ok (.value v) w') (hQ : ∀ c a w, Q (.panic c) (a.put oi.dst v) w → Q (.panic c) a w := by exact fun _ _ _ h => h)
    (ha : a.put N v = a' := by (simp only [Act.put, List.setIfInBounds_toArray, List.set_cons_zero, List.set_cons_succ, i64_w, i32_w]; rfl)) : wpAnyLast P md ops Q S ds (fuel + 1) l a w :=
  take_ l' hi hN (take_ofW hT.out hB.out hc) hQ (Or.inl ⟨hw, hy⟩) hS ha h
theorem on (i : Nat) (N : Option Tmp) {oi : Oper} {fuel : Nat} {l l' : Array Bool} {a : Act} {w : World} (hT : Aside0 (rtab md ops = T))
    (h : ∀ K : Act → World → Prop, Shut (∀ a' w', S w' → (S w' → wpAnyLast P md ops Q S ds fuel l' a' w') → K a' w') → if Region.wanted oi (yielded ops a.tmps) = true then Oper.wp P oi a w K Q else K (a.put N undef) w)
    (hi : ops[i]? = some oi := by rfl) (hN : oi.dst = N := by rfl) (hl : l.setIfInBounds i true = l' := by (simp only [List.setIfInBounds_toArray, List.set_cons_zero, List.set_cons_succ]; rfl))
    (hc : (readyT T.2 l.toList == [i] && l.toList.set i true == l'.toList) = true := by kernel_rfl) (hd : i ∉ ds := by decide) : wpAnyLast P md ops Q S ds (fuel + 1) l a w :=
  one_ l' hi hN (one_of hT.out hc) hd h
theorem la (i : Nat) (N : Option Tmp) {oi : Oper} {fuel : Nat} {l l' : Array Bool} {a : Act} {w : World} (hT : Aside0 (rtab md ops = T))
    (h : ∀ K : Act → World → Prop, Shut (∀ a' w', wpAnyLast P md ops Q S ds fuel l' a' w' → K a' w') → if Region.wanted oi (yielded ops a.tmps) = true then Oper.wp P oi a w K Q else K (a.put N undef) w)
    (hi : ops[i]? = some oi := by rfl) (hN : oi.dst = N := by rfl) (hl : l.setIfInBounds i true = l' := by (simp only [List.setIfInBounds_toArray, List.set_cons_zero, List.set_cons_succ]; rfl))
    (hc : (readyT T.2 l.toList == [i] && l.toList.set i true == l'.toList) = true := by kernel_rfl) (hd : i ∈ ds := by decide) : wpAnyLast P md ops Q S ds (fuel + 1) l a w :=
  last_ l' hi hN (one_of hT.out hc) hd h
/-- A step that is not wanted. -/
theorem px (i : Nat) (N : Option Tmp) {oi : Oper} {fuel : Nat} {l l' : Array Bool} {a a' : Act} {w : World} (hT : Aside0 (rtab md ops = T)) (h : wpAnyLast P md ops Q S ds fuel l' a' w)
    (hi : ops[i]? = some oi := by rfl) (hN : oi.dst = N := by rfl) (hl : l.setIfInBounds i true = l' := by (simp only [List.setIfInBounds_toArray, List.set_cons_zero, List.set_cons_succ]; rfl))
    (hc : anyT T l.toList l'.toList i = true := by kernel_rfl) (hw : Region.wanted oi (yielded ops a.tmps) = false := by rfl) (hQ : ∀ c a w, Q (.panic c) (a.put oi.dst undef) w → Q (.panic c) a w := by exact fun _ _ _ h => h)
    (ha : a.put N undef = a' := by (simp only [Act.put, List.setIfInBounds_toArray, List.set_cons_zero, List.set_cons_succ]; rfl)) : wpAnyLast P md ops Q S ds (fuel + 1) l a w :=
  pure_ l' hi hN (any_of hT.out hc) hQ (Or.inr ⟨hw, rfl⟩) ha h
theorem nm {fuel : Nat} {l : Array Bool} {a a' : Act} {w : World} (h : wpAnyLast P md ops Q S ds fuel l a' w) (ha : a = a' := by (show Act.put _ (some _) _ = _; simp only [Act.put, List.setIfInBounds_toArray, List.set_cons_zero, List.set_cons_succ, i64_w, i32_w]; rfl)) : wpAnyLast P md ops Q S ds fuel l a w := norm_ ha h
theorem np {fuel : Nat} {l : Array Bool} {a a' : Act} {w : World} (h : wpAnyLast P md ops Q S ds fuel l a' w) (ha : a = a' := by simp only [putAll, Act.put, List.setIfInBounds_toArray, List.set_cons_zero, List.set_cons_succ]) : wpAnyLast P md ops Q S ds fuel l a w := norm_ ha h
theorem gs {oi : Oper} {N : Option Tmp} {a : Act} {w : World} {K : Act → World → Prop} {f : FuncId} {fn : Func} {as : Array Operand} {ts : Array TypeId} (hf : P.funcs[f]? = some fn) (args : Array Value)
    (h : Calls P f args w fun e w' => ∃ v, e = .returned v ∧ K (a.put N v) w') (hname : (fn.name == "runtime.NumGoroutine") = false := by kernel_rfl) (hb : fn.body.isSome = true := by rfl)
    (hw : Region.wanted oi (yielded ops a.tmps) = true := by rfl) (hN : oi.dst = N := by rfl) (hop : oi.op = .call { callee := .value (.func f), args := as, argTypes := ts } := by rfl)
    (hargs : as.map a.eval = args := by ((try simp only [List.map_toArray, List.map_cons, List.map_nil]); first | done | rfl | (simp only [List.length_drop, List.length_take]; rfl))) : if Region.wanted oi (yielded ops a.tmps) = true then Oper.wp P oi a w K Q else K (a.put N undef) w :=
  goes_ hf hname hb args hw hN hop hargs h
theorem gl {rest : List Oper} {oi : Oper} {a : Act} {w : World} (N : Option Tmp) {f : FuncId} {fn : Func} {as : Array Operand} {ts : Array TypeId} (hf : P.funcs[f]? = some fn) (args : Array Value)
    (h : Calls P f args w fun e w' => ∃ v, e = .returned v ∧ wpList P ops Q rest (a.put N v) w') (hd : oi.dst = N := by rfl) (hg : oi.guard = none := by rfl) (hname : (fn.name == "runtime.NumGoroutine") = false := by kernel_rfl) (hb : fn.body.isSome = true := by rfl)
    (hop : oi.op = .call { callee := .value (.func f), args := as, argTypes := ts } := by rfl)
    (hargs : as.map a.eval = args := by ((try simp only [List.map_toArray, List.map_cons, List.map_nil]); first | done | rfl | (simp only [List.length_drop, List.length_take]; rfl))) : wpList P ops Q (oi :: rest) a w :=
  goesL_ N hd hg hf hname hb args hop hargs h
theorem bx {o : Oper} {rest : List Oper} {a : Act} {W : World} (N : Tmp) (cs : Array Value) (t : TypeId)
    (h : ∀ g, g = W.heap.size → ∀ w1, w1.heap[g]? = some (.cells cs t (0, 0)) → Below W.heap.size W w1 → wpList P ops Q rest (a.put o.dst (.pointer (some ⟨g, 0, none⟩))) w1)
    (hd : o.dst = some N := by rfl) (hgd : o.guard = none := by rfl)
    (hrun : (execOp a.eval o).run P W = .ok (.value (.pointer (some ⟨W.heap.size, 0, none⟩))) (W.alloc (.cells cs t (0, 0))) := by first | (go_simp; done) | (go_simp; rfl)) : wpList P ops Q (o :: rest) a W :=
  box_event hgd hd hrun h
theorem bs {o : Oper} {a : Act} {W : World} {Kc : Act → World → Prop} (N : Tmp) (cs : Array Value) (t : TypeId)
    (h : ∀ g, g = W.heap.size → ∀ w1, w1.heap[g]? = some (.cells cs t (0, 0)) → Below W.heap.size W w1 → Kc (a.put o.dst (.pointer (some ⟨g, 0, none⟩))) w1)
    (hd : o.dst = some N := by rfl) (hw : Region.wanted o (yielded ops a.tmps) = true := by rfl)
    (hrun : (execOp a.eval o).run P W = .ok (.value (.pointer (some ⟨W.heap.size, 0, none⟩))) (W.alloc (.cells cs t (0, 0))) := by first | (go_simp; done) | (go_simp; rfl)) : if Region.wanted o (yielded ops a.tmps) = true then Oper.wp P o a W Kc Q else Kc (a.put o.dst undef) W :=
  box_step hw hd hrun h
end
/-- Steps that write into blocks of other types than those of L alone. -/
inductive PlainB (L : List Nat) (w : World) : World → Prop
  | refl : PlainB L w w
  | alloc {w' : World} (h : PlainB L w w') (o : Obj) : PlainB L w (w'.alloc o)
  | drewN {w' : World} (h : PlainB L w w') (n : Nat) : PlainB L w (w'.drewN n)
  | drew {w' : World} (h : PlainB L w w') : PlainB L w w'.drew
  | set {w' : World} (h : PlainB L w w') {g j t : Nat} {cs : Array Value} (hb : w.heap[g]? = some (.cells cs t (0, 0))) (ht : (L.all fun q => q != t) = true) (v : Value) : PlainB L w (w'.setCell ⟨g, j, none⟩ v)
/-- Steps that don't write into g. -/
inductive PlainF (g : Nat) (w : World) : World → Prop
  | refl : PlainF g w w
  | alloc {w' : World} (h : PlainF g w w') (o : Obj) : PlainF g w (w'.alloc o)
  | drewN {w' : World} (h : PlainF g w w') (n : Nat) : PlainF g w (w'.drewN n)
  | drew {w' : World} (h : PlainF g w w') : PlainF g w w'.drew
  | set {w' : World} (h : PlainF g w w') {g' j : Nat} (hn : g ≠ g') (v : Value) : PlainF g w (w'.setCell ⟨g', j, none⟩ v)
section
variable {w w0 w1 w2 : World} {g g' : Nat} {o : Obj} {α : Type} {d : Kd α} {e base : Nat} {ok : Nat → Prop} {v u : Value} {xs : List α}
theorem rx0 (h : d.R e w base ok v xs) (s : PlainB (e :: d.E) w w1) : d.R e w1 base ok v xs := by
  have key : ∀ k, (k < w.heap.size ∧ ∃ q, q ∈ e :: d.E ∧ ∃ cells, w.heap[k]? = some (.cells cells q (0, 0))) → w1.heap[k]? = w.heap[k]? := by
    intro k hk
    obtain ⟨hk, q, hq, cells, hc⟩ := hk
    induction s with
    | refl => rfl
    | alloc _ o ih => exact (blk_alloc (ih.trans hc) o).trans hc.symm
    | drewN _ n ih => exact ih
    | drew _ ih => exact ih
    | @set w' _ g j t cs hb ht v ih =>
      have hne : k ≠ g := by
        rintro rfl
        rw [hc] at hb
        injection hb with hb
        injection hb with _ h2 _
        have := List.all_eq_true.1 ht q hq
        rw [h2] at this
        simp at this
      exact (Below.heap_setCell _ _ v _ hne).trans ih
  exact Kd.R_mono (Kd.R_move (Kd.R_bound h) (fun k hk => key k ⟨hk.2.2.1, hk.2.2.2⟩)) (fun k hk => hk.1)
theorem rx (h : Aside0 (d.R e w base ok v xs)) (s : PlainB (e :: d.E) w w1 := by repeat (first | (with_reducible first | exact PlainB.refl | refine PlainB.drewN ?_ _ | refine PlainB.drew ?_ | refine PlainB.alloc ?_ _ | refine PlainB.set ?_ (Aside0.out (by assumption)) (by decide) _) | exact PlainB.refl)) : d.R e w1 base ok v xs := rx0 h.out s
theorem rxm {ok' : Nat → Prop} (h : Aside0 (d.R e w base ok v xs)) (hm : ∀ k, ok k → ok' k) (s : PlainB (e :: d.E) w w1 := by repeat (first | (with_reducible first | exact PlainB.refl | refine PlainB.drewN ?_ _ | refine PlainB.drew ?_ | refine PlainB.alloc ?_ _ | refine PlainB.set ?_ (Aside0.out (by assumption)) (by decide) _) | exact PlainB.refl)) : d.R e w1 base ok' v xs := Kd.R_mono (rx0 h.out s) hm
theorem bf (h : Aside0 (w.heap[g]? = some o)) (s : PlainF g w w1 := by repeat (first | (with_reducible first | exact PlainF.refl | refine PlainF.drewN ?_ _ | refine PlainF.drew ?_ | refine PlainF.alloc ?_ _ | refine PlainF.set ?_ (Aside0.out (by assumption)) _) | exact PlainF.refl)) : w1.heap[g]? = some o := by
  induction s with
  | refl => exact h.out
  | alloc _ o ih => exact blk_alloc ih _
  | drewN _ n ih => exact blk_drewN ih _
  | drew _ ih => exact blk_drew ih
  | set _ hn v ih => exact (Below.heap_setCell _ _ v _ hn).trans ih
theorem bb (h : Aside0 (w.heap[g]? = some o)) (hb : Below w1.heap.size w1 w2) (s : PlainF g w w1 := by repeat (first | (with_reducible first | exact PlainF.refl | refine PlainF.drewN ?_ _ | refine PlainF.drew ?_ | refine PlainF.alloc ?_ _ | refine PlainF.set ?_ (Aside0.out (by assumption)) _) | exact PlainF.refl)) : Aside0 (w2.heap[g]? = some o) := ⟨blk_below (bf h s) hb⟩
theorem bd (h : Aside0 (w.heap[g]? = some o)) : Aside0 (w.drew.heap[g]? = some o) := ⟨blk_drew h.out⟩
theorem bq (h : Aside0 (w.heap[g]? = some o)) (hq : w2 = w1) (s : PlainF g w w1 := by repeat (first | (with_reducible first | exact PlainF.refl | refine PlainF.drewN ?_ _ | refine PlainF.drew ?_ | refine PlainF.alloc ?_ _ | refine PlainF.set ?_ (Aside0.out (by assumption)) _) | exact PlainF.refl)) : Aside0 (w2.heap[g]? = some o) := ⟨hq ▸ bf h s⟩
theorem rb (h : Aside0 (d.R e w base ok v xs)) (hb : Below w1.heap.size w1 w2) (s : PlainB (e :: d.E) w w1 := by repeat (first | (with_reducible first | exact PlainB.refl | refine PlainB.drewN ?_ _ | refine PlainB.drew ?_ | refine PlainB.alloc ?_ _ | refine PlainB.set ?_ (Aside0.out (by assumption)) (by decide) _) | exact PlainB.refl)) : Aside0 (d.R e w2 base ok v xs) := ⟨Kd.R_below (rx h s) hb⟩
theorem rd0 (h : Aside0 (d.R e w base ok v xs)) : Aside0 (d.R e w.drew base ok v xs) := ⟨Kd.R_drew h.out⟩
theorem rq (h : Aside0 (d.R e w base ok v xs)) (hq : w2 = w1) (s : PlainB (e :: d.E) w w1 := by repeat (first | (with_reducible first | exact PlainB.refl | refine PlainB.drewN ?_ _ | refine PlainB.drew ?_ | refine PlainB.alloc ?_ _ | refine PlainB.set ?_ (Aside0.out (by assumption)) (by decide) _) | exact PlainB.refl)) : Aside0 (d.R e w2 base ok v xs) := ⟨hq ▸ rx h s⟩
theorem re {β : Type} {d' : Kd β} {e' : Nat} {ok' : Nat → Prop} {ys : List β} (h : Aside0 (d.R e w base ok u xs)) (hv : d'.R e' w2 w1.heap.size ok' v ys) (hb : Below w1.heap.size w1 w2) (s : PlainB (e :: d.E) w w1 := by repeat (first | (with_reducible first | exact PlainB.refl | refine PlainB.drewN ?_ _ | refine PlainB.drew ?_ | refine PlainB.alloc ?_ _ | refine PlainB.set ?_ (Aside0.out (by assumption)) (by decide) _) | exact PlainB.refl)) : Aside0 (d.R e w2 base (fun k => ok k ∧ some k ≠ v.ownBlock) u xs) := ⟨Kd.R_elder' (rx h s) (Kd.R_base hv) hb⟩
theorem hs (h : Aside0 (Below w.heap.size w w0)) (hb : Below w1.heap.size w1 w2) (s : PlainS w.heap.size w0 w1 := by repeat (first | (with_reducible first | exact PlainS.refl _ | refine PlainS.drewN ?_ _ | refine PlainS.drew ?_ | refine PlainS.alloc ?_ _ | refine PlainS.set ?_ (Aside0.out (by assumption)) _) | exact PlainS.refl _)) : Aside0 (Below w.heap.size w w2) := ⟨below_step (bks h.out s) hb⟩
theorem hd0 (h : Aside0 (Below w.heap.size w w0)) : Aside0 (Below w.heap.size w w0.drew) := ⟨below_drew1 h.out⟩
theorem hq0 (h : Aside0 (Below w.heap.size w w0)) (hq : w2 = w1) (s : PlainS w.heap.size w0 w1 := by repeat (first | (with_reducible first | exact PlainS.refl _ | refine PlainS.drewN ?_ _ | refine PlainS.drew ?_ | refine PlainS.alloc ?_ _ | refine PlainS.set ?_ (Aside0.out (by assumption)) _) | exact PlainS.refl _)) : Aside0 (Below w.heap.size w w2) := ⟨hq ▸ bks h.out s⟩
theorem ge (h : Aside0 (Below w.heap.size w w0)) (hg : g = w1.heap.size) (s : PlainS w.heap.size w0 w1 := by repeat (first | (with_reducible first | exact PlainS.refl _ | refine PlainS.drewN ?_ _ | refine PlainS.drew ?_ | refine PlainS.alloc ?_ _ | refine PlainS.set ?_ (Aside0.out (by assumption)) _) | exact PlainS.refl _)) : Aside0 (w.heap.size ≤ g) := ⟨by rw [hg]; exact below_size (bks h.out s)⟩
theorem nb (h : Aside0 (w.heap[g]? = some o)) (hg : g' = w1.heap.size) (s : PlainF g w w1 := by repeat (first | (with_reducible first | exact PlainF.refl | refine PlainF.drewN ?_ _ | refine PlainF.drew ?_ | refine PlainF.alloc ?_ _ | refine PlainF.set ?_ (Aside0.out (by assumption)) _) | exact PlainF.refl)) : Aside0 (g ≠ g') ∧ Aside0 (g' ≠ g) := by
  have hl := blk_lt (bf h s)
  subst hg
  exact ⟨⟨Nat.ne_of_lt hl⟩, ⟨Nat.ne_of_gt hl⟩⟩
end
end Go.Proofs.YtdnpkbhapdkikaaW.PrintLast
