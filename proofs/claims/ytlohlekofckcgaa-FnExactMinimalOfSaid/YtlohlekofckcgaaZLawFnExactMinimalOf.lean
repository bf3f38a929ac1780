/- The law FnExactMinimalOf answers true, whatever it is given; its arguments read as they did. -/
import Derived.Test.YtlohlekofckcgaaZT2
import Derived.Test.YtlohlekofckcgaaZF2
import Derived.Test.YtlohlekofckcgaaRows
import Derived.Test.YtlohlekofckcgaaChecked
import Derived.WalkKit
import Derived.ProofKit
import Derived.OpenShut
import Derived.ShutString
import Derived.ChangeOld
import Derived.Below
import Derived.SizedLaws
import Derived.Carry
import Derived.Lib.SmallJoins
namespace Go.Proofs.Ytlohlekofckcgaa.fnExactMinimalOf
open Go.ChangeShapes Go.WideShapes Go.ChangeAt Go.RowKit Go.Joins Go.Deep
open Go.ChangeMaps (open_string shut_string)
open Go.Proofs.Ytlohlekofckcgaa.R (IsRow plain_calls int_pr bool_pr row_pr agg_pr PRs_nil PRs_cons row_len row_in int_in row_cell int_cell)
set_option linter.unusedVariables false
theorem own : ownKnob Try.prog.godebug = none := by kernel_rfl
theorem laidOut : laidOutB Try.prog = true := by kernel_rfl
theorem cells2 : Try.prog.cellsOf 2 = 1 := by kernel_rfl
theorem cells24 : Try.prog.cellsOf 24 = 2 := by kernel_rfl
theorem walk {w : World} {a0_0 : Int} {a0_1 : Option Addr} {len0_1 cap0_1 : Nat} {z0_1 : List Int} (w0_0 : (Lit.int .i64 a0_0).wf = true) (w0_1 : IsRow .i64 w a0_1 len0_1 cap0_1 z0_1) :
    Calls Try.prog 3 #[.agg #[.int .i64 a0_0, .slice a0_1 len0_1 cap0_1]] w fun e w' => e = .returned (.bool true) ∧ Below w.heap.size w w' := by
  refine plain_calls (f := 3) (by rfl) (R.laws_FnExactMinimalOf.ok 3000000) (vals := [.agg #[.int .i64 a0_0, .slice a0_1 len0_1 cap0_1]]) (x := ((a0_0, (z0_1.take len0_1, ())), ())) (List.all_eq_true.1 rfl) (PRs_cons (agg_pr (PRs_cons int_pr (PRs_cons (row_pr w0_1) PRs_nil))) PRs_nil) ?_
  show R.laws_FnExactMinimalOf False 3000000 a0_0 (z0_1.take len0_1) _
  rw [F.law_eq False a0_0 (row_len w0_1) 3000000 (by omega)]
  exact ⟨rfl, rfl⟩
set_option maxRecDepth 100000 in
theorem lifted (os : Os) (started : os.Started) (H : Type) (enc : TypeId × Value → H) :
    ReturnsInHanded {} Try.checked os 3 .any (Rows.fnExactMinimalOfSpec.pre6 enc Try.prog Try.f3 Rows.fnExactMinimalOfRow.domain false) (Rows.fnExactMinimalOfSpec.post enc Try.prog Try.f3 false true false false) := by
  refine returnsInHanded_of_change_sized (C := Try.checked) own started (by kernel_rfl) Try.func3
    (ChangeSpec.witness6 (enc := enc) (C := Try.checked) false ⟨#[], #[.agg #[.int .i64 0, .slice none 0 0]], []⟩ 8 (by kernel_rfl) (by kernel_rfl) (by kernel_rfl) (by kernel_rfl)) ?_
  intro W base args ds gs before hval0 hW hcnd hsz0 _
  have hval : ∀ (j : Nat) t v, Try.f3.params[j]? = some t → args[j]? = some v → Value.okWide Try.prog W .any base t v := hval0
  have hW' := hW
  obtain ⟨p, q, hA0, hV, rfl, hfz, hnd⟩ := hW
  have hA : DataW.TrodAll enc Try.prog W 0 (fun _ => true) true Try.f3.params.toList args.toList ds p := hA0
  rw [Try.params3] at hA hval
  obtain ⟨v0, vs0, d0, ds0, p0, q0, hargs, rfl, rfl, h0, r0⟩ := trodAll_cons hA
  obtain ⟨rfl, rfl, rfl⟩ := trodAll_nil r0
  obtain rfl : args = #[v0] := by cases args; simp_all
  obtain ⟨rfl, rfl⟩ := trodVars_none hV
  have k0 := h0
  have lt0 : ∀ x ∈ p0, x.block < W.heap.size := by obtain ⟨m, hm⟩ := k0; exact DataW.trod_lt m _ _ _ hm
  obtain ⟨cs0, rfl, hs0⟩ := okWide_struct Try.underlying24 (hval 0 24 v0 rfl rfl)
  obtain ⟨c0_0, c0_1, rfl⟩ := array2 (hs0.trans cells24)
  obtain ⟨fu0, hf0⟩ := h0
  obtain ⟨_, _, _, _, _, g0_1_0, g0_1_1⟩ := trod_struct2 Try.underlying24 hf0
  replace g0_1_0 : DataW.trod enc Try.prog W 0 (fun _ => true) true _ 2 [c0_0] = some _ := g0_1_0
  obtain ⟨a0_0, rfl, w0_0⟩ := int_cell Try.underlying2 g0_1_0
  replace g0_1_1 : DataW.trod enc Try.prog W 0 (fun _ => true) true _ 22 [c0_1] = some _ := g0_1_1
  obtain ⟨a0_1, len0_1, cap0_1, z0_1, rfl, w0_1⟩ := row_cell Try.underlying22 Try.underlying2 cells2 g0_1_1
  clear hA0 hval0 hsz0
  refine (walk w0_0 w0_1).mono fun e W' ⟨he, bel⟩ => ?_
  subst he
  exact ⟨_, rfl, _, _, _, [], _, [], hW', trodAll_mk1 (shut_bool Try.underlying4 _), (trodAll_cons_mk (Below.trod laidOut (by kernel_rfl) (of_decide_eq_true (by kernel_rfl)) k0 bel lt0) trodAll_mk0), rfl, bel.frame _, fun h => by cases h⟩
theorem over : Rows.fnExactMinimalOfRow.holds Try.pinned (OpenSpec.ofChange Rows.fnExactMinimalOfSpec) :=
  OpenClaim.holds_of_wide 3 Try.f3 rfl rfl rfl rfl rfl rfl rfl ⟨rfl, rfl, rfl, rfl, rfl⟩ rfl rfl rfl rfl rfl (by kernel_rfl) Try.func3 (by kernel_rfl)
    (of_decide_eq_true (by kernel_rfl)) (by unfold Func.isWrapper; first | (rw [if_pos (by decide +kernel)]; kernel_rfl) | (rw [if_neg (by decide +kernel)]; exact ⟨rfl, rfl⟩))
    (fun os started H enc _ => lifted os started H enc)
theorem proved : Rows.FnExactMinimalOfSaid := over
#print axioms proved
end Go.Proofs.Ytlohlekofckcgaa.fnExactMinimalOf
namespace Go.Proofs.Ytlohlekofckcgaa
/-- The row, under a short name, for the claim. -/
theorem fnExactMinimalOf_holds : Rows.FnExactMinimalOfSaid := fnExactMinimalOf.proved
end Go.Proofs.Ytlohlekofckcgaa
