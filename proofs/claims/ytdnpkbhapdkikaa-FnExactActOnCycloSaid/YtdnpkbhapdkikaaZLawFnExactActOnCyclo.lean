-- LAID BY pp.py (a program of this repo): what the kit's print tells of this seat's functions, with contracts by hand
import Derived.Test.YtdnpkbhapdkikaaRows
import Derived.Test.YtdnpkbhapdkikaaZPFnExactActOnCyclox13
import Derived.Test.YtdnpkbhapdkikaaZPureFnExactActOnCyclo
import Derived.Test.YtdnpkbhapdkikaaZPlOpen
import Derived.WalkKit
import Derived.ProofKit
import Derived.OpenShut
import Derived.ShutString
import Derived.ChangeOld
import Derived.Below
import Derived.SizedLaws
import Derived.Carry
namespace Go.Proofs.Ytdnpkbhapdkikaa.fnExactActOnCyclo
open Go.ChangeShapes Go.WideShapes Go.ChangeAt Go.RowKit Go.Joins Go.Deep Go.Proofs.Ytdnpkbhapdkikaa.Opens
open Go.ChangeMaps (open_string shut_string)
set_option linter.unusedVariables false
theorem own : ownKnob Try.prog.godebug = none := by kernel_rfl
theorem laidOut : laidOutB Try.prog = true := by kernel_rfl
theorem cells2 : Try.prog.cellsOf 2 = 1 := by kernel_rfl
theorem cells24 : Try.prog.cellsOf 24 = 2 := by kernel_rfl
theorem cells26 : Try.prog.cellsOf 26 = 2 := by kernel_rfl
set_option maxRecDepth 100000 in
theorem lifted (os : Os) (started : os.Started) (H : Type) (enc : TypeId × Value → H) :
    ReturnsInHanded {} Try.checked os 3 .any (Rows.fnExactActOnCycloSpec.pre6 enc Try.prog Try.f3 Rows.fnExactActOnCycloRow.domain false) (Rows.fnExactActOnCycloSpec.post enc Try.prog Try.f3 false true false false) := by
  refine returnsInHanded_of_change_sized (C := Try.checked) own started (by kernel_rfl) Try.func3
    (ChangeSpec.witness6 (enc := enc) (C := Try.checked) false ⟨#[], #[.agg #[.int .i64 0, .slice none 0 0], .agg #[.int .i64 0, .slice none 0 0]], []⟩ 8 (by kernel_rfl) (by kernel_rfl) (by kernel_rfl) (by kernel_rfl)) ?_
  intro W base args ds gs before hval0 hW hcnd hsz0 _
  have hval : ∀ (j : Nat) t v, Try.f3.params[j]? = some t → args[j]? = some v → Value.okWide Try.prog W .any base t v := hval0
  have hW' := hW
  obtain ⟨p, q, hA0, hV, rfl, hfz, hnd⟩ := hW
  have hA : DataW.TrodAll enc Try.prog W 0 (fun _ => true) true Try.f3.params.toList args.toList ds p := hA0
  rw [Try.params3] at hA hval
  obtain ⟨v0, vs0, d0, ds0, p0, q0, hargs, rfl, rfl, h0, r0⟩ := trodAll_cons hA
  obtain ⟨v1, vs1, d1, ds1, p1, q1, rfl, rfl, rfl, h1, r1⟩ := trodAll_cons r0
  obtain ⟨rfl, rfl, rfl⟩ := trodAll_nil r1
  obtain rfl : args = #[v0, v1] := by cases args; simp_all
  obtain ⟨rfl, rfl⟩ := trodVars_none hV
  have k0 := h0
  have lt0 : ∀ x ∈ p0, x.block < W.heap.size := by obtain ⟨m, hm⟩ := k0; exact DataW.trod_lt m _ _ _ hm
  obtain ⟨cs0, rfl, hs0⟩ := okWide_struct Try.underlying24 (hval 0 24 v0 rfl rfl)
  obtain ⟨c0_0, c0_1, rfl⟩ := array2 (hs0.trans cells24)
  obtain ⟨fu0, hf0⟩ := h0
  obtain ⟨_, _, _, _, _, g0_1_0, g0_1_1⟩ := trod_struct2 Try.underlying24 hf0
  replace g0_1_0 : DataW.trod enc Try.prog W 0 (fun _ => true) true _ 2 [c0_0] = some _ := g0_1_0
  obtain ⟨a0_0, rfl, w0_0⟩ := int_cell Try.underlying2 g0_1_0
  replace g0_1_1 : DataW.trod enc Try.prog W 0 (fun _ => true) true _ 22 [c0_1] = some _ := g0_1_1
  obtain ⟨a0_1, len0_1, cap0_1, z0_1, rfl, w0_1⟩ := row_cell Try.underlying22 Try.underlying2 cells2 g0_1_1
  have k1 := h1
  have lt1 : ∀ x ∈ p1, x.block < W.heap.size := by obtain ⟨m, hm⟩ := k1; exact DataW.trod_lt m _ _ _ hm
  obtain ⟨cs1, rfl, hs1⟩ := okWide_struct Try.underlying26 (hval 1 26 v1 rfl rfl)
  obtain ⟨c1_0, c1_1, rfl⟩ := array2 (hs1.trans cells26)
  obtain ⟨fu1, hf1⟩ := h1
  obtain ⟨_, _, _, _, _, g1_1_0, g1_1_1⟩ := trod_struct2 Try.underlying26 hf1
  replace g1_1_0 : DataW.trod enc Try.prog W 0 (fun _ => true) true _ 2 [c1_0] = some _ := g1_1_0
  obtain ⟨a1_0, rfl, w1_0⟩ := int_cell Try.underlying2 g1_1_0
  replace g1_1_1 : DataW.trod enc Try.prog W 0 (fun _ => true) true _ 22 [c1_1] = some _ := g1_1_1
  obtain ⟨a1_1, len1_1, cap1_1, z1_1, rfl, w1_1⟩ := row_cell Try.underlying22 Try.underlying2 cells2 g1_1_1
  clear hA0 hval0 hsz0
  refine (PFnExactActOnCyclo.laws_FnExactActOnCyclo.walk Pure.FnExactActOnCyclo a0_0 a0_1 len0_1 cap0_1 z0_1 a1_0 a1_1 len1_1 cap1_1 z1_1 W w0_0 w0_1 w1_0 w1_1).mono fun e W' ⟨he, bel⟩ => ?_
  subst he
  exact ⟨_, rfl, _, _, _, [], _, [], hW', trodAll_mk1 (shut_bool Try.underlying4 _), (trodAll_cons_mk (Below.trod laidOut (by kernel_rfl) (of_decide_eq_true (by kernel_rfl)) k0 bel lt0) (trodAll_cons_mk (Below.trod laidOut (by kernel_rfl) (of_decide_eq_true (by kernel_rfl)) k1 bel lt1) trodAll_mk0)), rfl, bel.frame _, fun h => by cases h⟩
theorem over : Rows.fnExactActOnCycloRow.holds Try.pinned (OpenSpec.ofChange Rows.fnExactActOnCycloSpec) :=
  OpenClaim.holds_of_wide 3 Try.f3 rfl rfl rfl rfl rfl rfl rfl ⟨rfl, rfl, rfl, rfl, rfl⟩ rfl rfl rfl rfl rfl (by kernel_rfl) Try.func3 (by kernel_rfl)
    (of_decide_eq_true (by kernel_rfl)) (by unfold Func.isWrapper; first | (rw [if_pos (by decide +kernel)]; kernel_rfl) | (rw [if_neg (by decide +kernel)]; exact ⟨rfl, rfl⟩))
    (fun os started H enc _ => lifted os started H enc)
theorem proved : Rows.FnExactActOnCycloSaid := over
#print axioms proved
end Go.Proofs.Ytdnpkbhapdkikaa.fnExactActOnCyclo
namespace Go.Proofs.Ytdnpkbhapdkikaa
/-- The row, under a short name, for the claim. -/
theorem fnExactActOnCyclo_holds : Rows.FnExactActOnCycloSaid := fnExactActOnCyclo.proved
end Go.Proofs.Ytdnpkbhapdkikaa
