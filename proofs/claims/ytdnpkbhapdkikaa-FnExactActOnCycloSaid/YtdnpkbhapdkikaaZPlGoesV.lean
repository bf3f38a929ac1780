/- A call through a function value that the walk holds: by the contract of the function behind it. -/
import Derived.Test.YtdnpkbhapdkikaaZWWords
import Derived.Test.YtdnpkbhapdkikaaZWLast
import Derived.Test.YtdnpkbhapdkikaaZWMore
set_option linter.unusedVariables false
namespace Go.Proofs.YtdnpkbhapdkikaaW.PrintLast
open Go.RowKit Go.Proofs.YtdnpkbhapdkikaaW.PrintWords
section
variable {P : Program} {ops : Array Oper} {Q : Exit → Act → World → Prop}
theorem goesV_ {oi : Oper} {N : Option Tmp} {a : Act} {w : World} {K : Act → World → Prop} {f : FuncId} {fn : Func} {x : Operand} {as : Array Operand} {ts : Array TypeId} (hf : P.funcs[f]? = some fn) (hname : (fn.name == "runtime.NumGoroutine") = false) (hb : fn.body.isSome = true) (args cap : Array Value)
    (hw : Region.wanted oi (yielded ops a.tmps) = true) (hN : oi.dst = N) (hop : oi.op = .call { callee := .value x, args := as, argTypes := ts }) (hx : a.eval x = .func (.func f) #[] cap) (hargs : as.map a.eval = args)
    (h : Calls P f (args ++ cap) w fun e w' => ∃ v, e = .returned v ∧ K (a.put N v) w') : if Region.wanted oi (yielded ops a.tmps) = true then Oper.wp P oi a w K Q else K (a.put N undef) w := by
  refine call_ f (args ++ cap) hw hN ?_ h
  have he := enters_ hf hname hb (args ++ cap) w
  unfold execOp
  simp [hop, resolve, Deferred.ofValue, invoke, hx, hargs, he]
theorem goesLV_ {rest : List Oper} {oi : Oper} {a : Act} {w : World} (N : Option Tmp) (hd : oi.dst = N) (hg : oi.guard = none) {f : FuncId} {fn : Func} {x : Operand} {as : Array Operand} {ts : Array TypeId} (hf : P.funcs[f]? = some fn) (hname : (fn.name == "runtime.NumGoroutine") = false) (hb : fn.body.isSome = true) (args cap : Array Value)
    (hop : oi.op = .call { callee := .value x, args := as, argTypes := ts }) (hx : a.eval x = .func (.func f) #[] cap) (hargs : as.map a.eval = args)
    (h : Calls P f (args ++ cap) w fun e w' => ∃ v, e = .returned v ∧ wpList P ops Q rest (a.put N v) w') : wpList P ops Q (oi :: rest) a w := by
  refine wpList_plain hg fun K hK => ?_
  have he := enters_ hf hname hb (args ++ cap) w
  have hrun : (execOp a.eval oi).run P w = .ok (.enter f (args ++ cap)) w := by
    unfold execOp
    simp [hop, resolve, Deferred.ofValue, invoke, hx, hargs, he]
  unfold Oper.wp
  rw [hrun, Oper.upon_enter]
  refine h.mono fun e w'' hh => ?_
  obtain ⟨v, rfl, hk⟩ := hh
  subst hd
  exact hK _ _ hk
end
/-- w' is w behind some steps that write nothing. -/
inductive Plain : World → World → Prop
  | refl (w : World) : Plain w w
  | alloc {w w' : World} (h : Plain w w') (o : Obj) : Plain w (w'.alloc o)
  | drewN {w w' : World} (h : Plain w w') (n : Nat) : Plain w (w'.drewN n)
  | drew {w w' : World} (h : Plain w w') : Plain w w'.drew
/-- The same, and stores into blocks from n on. -/
inductive PlainS (n : Nat) : World → World → Prop
  | refl (w : World) : PlainS n w w
  | alloc {w w' : World} (h : PlainS n w w') (o : Obj) : PlainS n w (w'.alloc o)
  | drewN {w w' : World} (h : PlainS n w w') (k : Nat) : PlainS n w (w'.drewN k)
  | drew {w w' : World} (h : PlainS n w w') : PlainS n w w'.drew
  | set {w w' : World} (h : PlainS n w w') {g j : Nat} (hp : n ≤ g) (v : Value) : PlainS n w (w'.setCell ⟨g, j, none⟩ v)
theorem pk {w w' : World} {g : Nat} {o : Obj} (h : w.heap[g]? = some o) (s : Plain w w' := by repeat (first | (with_reducible first | exact Plain.refl _ | refine Plain.drewN ?_ _ | refine Plain.drew ?_ | refine Plain.alloc ?_ _) | exact Plain.refl _)) : w'.heap[g]? = some o := by
  induction s with
  | refl => exact h
  | alloc _ o ih => exact blk_alloc (ih) _
  | drewN _ n ih => exact blk_drewN (ih) _
  | drew _ ih => exact blk_drew (ih)
theorem rk {w w' : World} {α : Type} {d : Kd α} {e base : Nat} {ok : Nat → Prop} {v : Value} {xs : List α} (h : d.R e w base ok v xs) (s : Plain w w' := by repeat (first | (with_reducible first | exact Plain.refl _ | refine Plain.drewN ?_ _ | refine Plain.drew ?_ | refine Plain.alloc ?_ _) | exact Plain.refl _)) : d.R e w' base ok v xs := by
  induction s with
  | refl => exact h
  | alloc _ o ih => exact Kd.R_alloc (ih) _
  | drewN _ n ih => exact Kd.R_drewN (ih) _
  | drew _ ih => exact Kd.R_drew (ih)
theorem bk {w w1 w2 : World} (h : Below w.heap.size w w1) (s : Plain w1 w2 := by repeat (first | (with_reducible first | exact Plain.refl _ | refine Plain.drewN ?_ _ | refine Plain.drew ?_ | refine Plain.alloc ?_ _) | exact Plain.refl _)) : Below w.heap.size w w2 := by
  induction s with
  | refl => exact h
  | alloc _ o ih => exact below_alloc (ih) _
  | drewN _ n ih => exact pw_below_drewN (ih) _
  | drew _ ih => exact below_drew1 (ih)
theorem bks {w w1 w2 : World} (h : Below w.heap.size w w1) (s : PlainS w.heap.size w1 w2 := by repeat (first | (with_reducible first | exact PlainS.refl _ | refine PlainS.drewN ?_ _ | refine PlainS.drew ?_ | refine PlainS.alloc ?_ _ | refine PlainS.set ?_ (Aside0.out (by assumption)) _) | exact PlainS.refl _)) : Below w.heap.size w w2 := by
  induction s with
  | refl => exact h
  | alloc _ o ih => exact below_alloc (ih) _
  | drewN _ n ih => exact pw_below_drewN (ih) _
  | drew _ ih => exact below_drew1 (ih)
  | set _ hp v ih => exact below_set (ih) hp
end Go.Proofs.YtdnpkbhapdkikaaW.PrintLast
