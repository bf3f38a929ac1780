/- How the code is read: plain states and the machine. Texts joined, in their order. -/
import Derived.Test.YtlpooghphoohcaaZR2
/- Calls: what a function does to its arguments' memory, said once; the caller's side. -/
namespace Go.Proofs.Ytlpooghphoohcaa.R
open Go.RowKit
set_option linter.unusedVariables false
set_option linter.unusedSimpArgs false

abbrev env0 : Nat → Value := fun _ => undef
abbrev D0 : Nat → Prop := fun _ => False
/-- A value without names, and the memory that it brings along. -/
def CR1 (w : World) (O : Foot) (p : PV) (v : Value) (F : Foot) : Prop := OB env0 D0 w O v p F
def Dj (Fs : Nat → Foot) : Prop := ∀ i j b o, i ≠ j → Fs i b o → ¬ Fs j b o
def Un (Fs : Nat → Foot) : Foot := fun b o => ∃ i, Fs i b o
def CRs (w : World) (O : Foot) (ps : List PV) (us : List Value) (Fs : Nat → Foot) : Prop :=
  ps.length = us.length ∧ (∀ (i : Nat) p u, ps[i]? = some p → us[i]? = some u → CR1 w O p u (Fs i)) ∧ (∀ i, ps.length ≤ i → Fs i = fun _ _ => False) ∧ Dj Fs
def CR2 (w : World) (O : Foot) (p : PV) (v : Value) (F : Foot) : Prop :=
  ∃ (us : List Value) (Fs : Nat → Foot), CRs w O p.cells us Fs ∧ F = Un Fs ∧ ((∃ cs, p = .agg cs) → v = .agg us.toArray) ∧ ((∀ cs, p ≠ .agg cs) → us = [v])
def CR3 (w : World) (O : Foot) (p : PV) (v : Value) (H : Nat → Foot) : Prop :=
  match p with
  | .tup ps => ∃ (us : List Value), v = .tuple us.toArray ∧ ps.length = us.length ∧ (∀ (i : Nat) q u, ps[i]? = some q → us[i]? = some u → CR2 w O q u (H i)) ∧ (∀ i, ps.length ≤ i → H i = fun _ _ => False) ∧ Dj H
  | p => CR2 w O p v (H 0) ∧ ∀ i, 0 < i → H i = fun _ _ => False
structure FnPost (X : Foot) (w w' : World) (args outs : List PV) (vals : List Value) (Fs : Nat → Foot) (res : PV) (v : Value) (H : Nat → Foot) : Prop where
  len : outs.length = (ioIdx args 0).length
  out : ∀ (j i : Nat) q u, (ioIdx args 0)[j]? = some i → outs[j]? = some q → vals[i]? = some u → CR1 w' (fun b o => X b o ∨ Un Fs b o ∨ Un H b o) q u (Fs i)
  res : CR3 w' (fun b o => X b o ∨ Un Fs b o ∨ Un H b o) res v H
  new : ∀ i b o, H i b o → w.heap.size ≤ b ∧ b < w'.heap.size
  kp : Keep (Un Fs) w w'
/-- What is asked of a caller. -/
structure FnPre (X : Foot) (w : World) (args : List PV) (vals : List Value) (Fs : Nat → Foot) : Prop where
  arg : CRs w (fun b o => X b o ∨ Un Fs b o) args vals Fs
  xf : ∀ i b o, Fs i b o → ¬ X b o
  lt : ∀ i b o, Fs i b o → b < w.heap.size
  xl : ∀ b o, X b o → b < w.heap.size
def FnRel0 (P : Program) (f : FuncId) (args outs : List PV) (res : PV) : Prop :=
  (∀ args w, (callFunc f args).run P w = .ok (.enter f args) w) ∧ ∀ (X : Foot) (w : World) (vals : List Value) (Fs : Nat → Foot), FnPre X w args vals Fs → Calls P f vals.toArray w fun e w' => ∃ v H, e = .returned v ∧ FnPost X w w' args outs vals Fs res v H
/-- The same of a call whose first argument is the struct of all cells but the last. -/
def FnRelP (P : Program) (f : FuncId) (args outs : List PV) (res : PV) : Prop :=
  (∀ args w, (callFunc f args).run P w = .ok (.enter f args) w) ∧ ∀ (X : Foot) (w : World) (us : List Value) (u : Value) (Fs : Nat → Foot), FnPre X w args (us ++ [u]) Fs → Calls P f #[.agg us.toArray, u] w fun e w' => ∃ v H, e = .returned v ∧ FnPost X w w' args outs (us ++ [u]) Fs res v H
/-- Names behind all names stand for such calls. -/
def FnRel (P : Program) (f : Nat) (args outs : List PV) (res : PV) : Prop :=
  if Nat.blt f 1000000 = true then FnRel0 P f args outs res else FnRelP P (f - 1000000) args outs res
theorem FnRel.lt {P : Program} {f : Nat} {args outs : List PV} {res : PV} (h : FnRel P f args outs res) (hf : Nat.blt f 1000000 = true) : FnRel0 P f args outs res := by
  unfold FnRel at h
  rwa [if_pos hf] at h
theorem FnRel0.up {P : Program} {f : Nat} {args outs : List PV} {res : PV} (h : FnRel0 P f args outs res) (hf : Nat.blt f 1000000 = true) : FnRel P f args outs res := by
  unfold FnRel
  rwa [if_pos hf]
theorem FnRel.packed {P : Program} {f : Nat} {args outs : List PV} {res : PV} : FnRel P (pk f) args outs res ↔ FnRelP P f args outs res := by
  unfold FnRel pk
  rw [if_neg (fun h => by have := Nat.le_of_ble_eq_true h; omega), Nat.add_sub_cancel]

/-! updates of objects -/
theorem look_apply : (us : List Upd) → (σ : St) → (N : Nat) → look (σ.apply us).ob N = (lastOb us N).getD (look σ.ob N)
  | [], σ, N => rfl
  | .ob M p :: us, σ, N => by
    rw [St.apply_cons, look_apply us]
    simp only [lastOb]
    cases lastOb us N with
    | some q => rfl
    | none =>
      simp only [St.upd, look_upd, Option.getD_none]
      split <;> rfl
  | .sl _ _ :: us, σ, N => by
    rw [St.apply_cons, look_apply us]
    rfl
theorem lastOb_append : (us vs : List Upd) → (N : Nat) → lastOb (us ++ vs) N = (match lastOb vs N with | some q => some q | none => lastOb us N)
  | [], vs, N => by simp only [List.nil_append, lastOb]; cases lastOb vs N <;> rfl
  | .ob M p :: us, vs, N => by
    simp only [List.cons_append, lastOb, lastOb_append us vs N]
    cases lastOb vs N <;> rfl
  | .sl _ _ :: us, vs, N => by
    simp only [List.cons_append, lastOb, lastOb_append us vs N]
def noSl (us : List Upd) : Prop := ∀ u ∈ us, ∃ N p, u = Upd.ob N p
theorem noSl.sl : (us : List Upd) → noSl us → (σ : St) → (σ.apply us).sl = σ.sl
  | [], _, σ => rfl
  | u :: us, h, σ => by
    obtain ⟨N, p, rfl⟩ := h u (by simp)
    rw [St.apply_cons, noSl.sl us (fun v hv => h v (by simp [hv]))]
    rfl
theorem frz_last {h : Nat → PV} {L0 : List Nat} : (L : List Nat) → (N : Nat) → lastOb (L.flatMap (frzC h L0)) N = if N ∈ L then frzCV h L0 (h N) else none
  | [], N => rfl
  | M :: L, N => by
    rw [List.flatMap_cons, lastOb_append, frz_last L N]
    have h1 : lastOb (frzC h L0 M) N = if M = N then frzCV h L0 (h M) else none := by
      unfold frzC
      by_cases e : M = N
      · subst e
        cases frzCV h L0 (h M) <;> simp [lastOb]
      · rw [if_neg e]
        cases frzCV h L0 (h M) <;> simp [lastOb, e]
    rw [h1]
    simp only [List.mem_cons]
    by_cases hL : N ∈ L
    · simp only [hL, if_true, or_true]
      cases hq : frzCV h L0 (h N) with
      | some q => rfl
      | none =>
        simp only
        by_cases e : M = N
        · subst e; rw [if_pos rfl, hq]
        · rw [if_neg e]
    · simp only [hL, if_false, or_false]
      by_cases e : M = N
      · simp [e]
      · simp [e, Ne.symm e]
theorem frz_noSl (h : Nat → PV) (L0 L : List Nat) : noSl (L.flatMap (frzC h L0)) := by
  intro u hu
  obtain ⟨N, _, hN⟩ := List.mem_flatMap.1 hu
  unfold frzC at hN
  split at hN <;> simp at hN
  exact ⟨_, _, hN⟩
end Go.Proofs.Ytlpooghphoohcaa.R
/- Calls: what the caller hands over. -/
namespace Go.Proofs.Ytlpooghphoohcaa.R
open Go.RowKit
set_option linter.unusedVariables false
set_option linter.unusedSimpArgs false

section
variable {X W0 : Foot} {w0 : World} {D : Nat → Prop} {σ : St} {a : Act} {w : World} {env : Nat → Value} {F : Nat → Foot}
theorem PRs_len {env : Nat → Value} {D : Nat → Prop} {w : World} {O : Foot} {ps : List PV} {us : List Value} (h : PRs env D w O ps us) : ps.length = us.length := ((PRs_iff _ _).1 h).1
/-- The cells from a place on: no one's own, or the named object's. -/
theorem Rl.at2 (hR : Rl X W0 w0 D σ a w env F) {h : Nat → PV} (hv : Vw h σ) {p : PV} {v : Value} (hp : PR env D w (Ow X F) p v) (hne : atP h p ≠ []) :
    ∃ b o us, v = .pointer (some ⟨b, o, none⟩) ∧ PRs env D w (Ow X F) (atP h p) us ∧ ∀ j u, us[j]? = some u → cl w b (o + j) = some u ∧ (¬ Ow X F b (o + j) ∨ ∃ N, N ∈ p.nm1 ∧ h N ≠ .dead ∧ F N b (o + j)) := by
  obtain ⟨b, o, us, hvv, h1, h2⟩ := hR.at_ hv hp hne
  refine ⟨b, o, us, hvv, h1, fun j u hu => ⟨h2 j u hu, ?_⟩⟩
  subst hvv
  have hlen := PRs_len h1
  have hju := (List.getElem?_eq_some_iff.1 hu).1
  have val_case : ∀ (N : Nat) (t : Ty) (xs : List t.El), h N = .val (.sl t) xs → ∀ (b' o' l : Nat), hb (env N) = some (b', o') → l < xs.length * t.sz → ¬ Ow X F b' (o' + l) := by
    intro N t xs hN b' o' l hbb hl
    have hob := hR.ob N
    rw [hv.eq hN (by simp)] at hob
    simp only [OB, PR] at hob
    obtain ⟨aa, c, us', he, hr, hm, _⟩ := RV_sl.1 hob.1
    rw [he] at hbb
    have hne' : us' ≠ [] := by
      intro e
      have := hr.1
      rw [e] at this
      simp at this
      have := this
      omega
    obtain ⟨b'', o'', rfl, hli⟩ := hm hne'
    simp only [hb, Option.some.injEq, Prod.mk.injEq] at hbb
    obtain ⟨rfl, rfl⟩ := hbb
    have hl' : l < us'.length := by rw [hr.1]; exact hl
    exact (hli l us'[l] (List.getElem?_eq_getElem hl')).2
  cases p with
  | pt cs =>
    simp only [PR] at hp
    obtain ⟨b', o', us', he, k1, k2⟩ := hp
    injection he with he; injection he with he; injection he with e1 e2 _; subst e1 e2
    left
    have : us'.length = us.length := by rw [← PRs_len k1, ← hlen]; rfl
    exact (k2 j us'[j] (List.getElem?_eq_getElem (by omega))).2
  | ref N =>
    simp only [PR] at hp
    obtain ⟨hd, hen⟩ := hp
    have hob := hR.ob N
    cases hN : h N with
    | box cs =>
      rw [hv.eq hN (by simp)] at hob
      simp only [OB] at hob
      obtain ⟨b', o', us', he, k1, k2, hF⟩ := hob
      rw [he] at hen
      injection hen with hen; injection hen with hen; injection hen with e1 e2 _; subst e1 e2
      right
      refine ⟨N, by simp [PV.nm1], by rw [hN]; simp, ?_⟩
      rw [hF]
      simp only [atP, hN] at hlen
      exact ⟨rfl, by omega, by omega⟩
    | pt cs =>
      rw [hv.eq hN (by simp)] at hob
      simp only [OB, PR] at hob
      obtain ⟨⟨b', o', us', he, k1, k2⟩, hF⟩ := hob
      rw [he] at hen
      injection hen with hen; injection hen with hen; injection hen with e1 e2 _; subst e1 e2
      left
      simp only [atP, hN] at hlen
      have := PRs_len k1
      exact (k2 j us'[j] (List.getElem?_eq_getElem (by omega))).2
    | _ => simp [atP, hN] at hne
  | cp N i s k =>
    simp only [PR] at hp
    obtain ⟨hd, hi, b', o', hbb, hen⟩ := hp
    injection hen with hen; injection hen with hen; injection hen with e1 e2 _; subst e1 e2
    have hob := hR.ob N
    cases hN : h N with
    | box cs =>
      rw [hv.eq hN (by simp)] at hob
      simp only [OB] at hob
      obtain ⟨b'', o'', us', he, k1, k2, hF⟩ := hob
      rw [he] at hbb
      simp only [hb, Option.some.injEq, Prod.mk.injEq] at hbb
      obtain ⟨rfl, rfl⟩ := hbb
      right
      refine ⟨N, by simp [PV.nm1], by rw [hN]; simp, ?_⟩
      rw [hF]
      simp only [atP, hN] at hlen hne
      by_cases hz : i * s = 0
      · simp only [hz, if_true, List.length_drop] at hlen
        exact ⟨rfl, by omega, by omega⟩
      · simp [hz] at hne
    | pt cs =>
      rw [hv.eq hN (by simp)] at hob
      simp only [OB, PR] at hob
      obtain ⟨⟨b'', o'', us', he, k1, k2⟩, hF⟩ := hob
      rw [he] at hbb
      simp only [hb, Option.some.injEq, Prod.mk.injEq] at hbb
      obtain ⟨rfl, rfl⟩ := hbb
      left
      simp only [atP, hN] at hlen hne
      by_cases hz : i * s = 0
      · simp only [hz, if_true, List.length_drop] at hlen
        have := PRs_len k1
        have hk := (k2 (k + j) us'[k + j] (List.getElem?_eq_getElem (by omega))).2
        rwa [show o'' + (i * s + k) + j = o'' + (k + j) by omega]
      · simp [hz] at hne
    | row e t xs =>
      rw [hv.eq hN (by simp)] at hob
      simp only [OB] at hob
      obtain ⟨us', ho, hr, hF⟩ := hob
      right
      refine ⟨N, by simp [PV.nm1], by rw [hN]; simp, ?_⟩
      rw [hF]
      obtain ⟨aa, c, he, hcap, hg⟩ := own_form ho
      rw [he] at hbb ⊢
      have hne' : us' ≠ [] := by
        intro e0
        have h3 := hr.1
        rw [e0] at h3
        simp only [he, R.hlen] at hi
        have := t.sz_pos
        have := Nat.mul_pos (show 0 < xs.length by omega) this
        simp at h3
        omega
      obtain ⟨g, rfl⟩ := hg hne'
      simp only [hb, Option.some.injEq, Prod.mk.injEq] at hbb
      obtain ⟨rfl, rfl⟩ := hbb
      rfl
    | val t xs =>
      cases t with
      | sl t =>
        left
        simp only [atP, hN] at hlen hne
        by_cases hs : s = t.sz
        · have hlx : i < xs.length := by
            rw [hv.eq hN (by simp)] at hob
            simp only [OB, PR] at hob
            obtain ⟨aa, c, us', he, hr, hm, _⟩ := RV_sl.1 hob.1
            rw [he] at hi
            exact hi
          rw [if_pos hs, List.length_drop, cellsOf_len] at hlen
          have h4 := Nat.mul_le_mul_right t.sz (show i + 1 ≤ xs.length from hlx)
          rw [Nat.succ_mul] at h4
          have := val_case N t xs hN _ _ (i * s + k + j) hbb (by rw [hs]; omega)
          rwa [show o' + (i * s + k) + j = o' + (i * s + k + j) by omega]
        · simp [hs] at hne
      | _ => simp [atP, hN] at hne
    | _ => simp [atP, hN] at hne
  | _ => simp [atP] at hne
/-- A value read, without names, as one who owns less sees it. -/
theorem Rl.rd (hR : Rl X W0 w0 D σ a w env F) {h : Nat → PV} (hv : Vw h σ) {O' : Foot} (hO : ∀ b o, O' b o → Ow X F b o) {p : PV} {v : Value}
    (hn : ∀ N, N ∈ closure h [p] → h N ≠ .dead → ∀ b o, F N b o → ¬ O' b o) (hp : PR env D w (Ow X F) p v) : PR env0 D0 w O' (Go.Proofs.Ytlpooghphoohcaa.R.rd h p) v := by
  have hc1 : ∀ N, N ∈ p.nms → N ∈ closure h [p] := fun N hN => by simp [closure, hN]
  have hc2 : ∀ N M, N ∈ p.nms → M ∈ (h N).nms → M ∈ closure h [p] := fun N M hN hM => by
    simp only [closure, List.flatMap_cons, List.flatMap_nil, List.append_nil, List.mem_append, List.mem_flatMap]
    exact .inr ⟨N, hN, hM⟩
  have one : ∀ q u, (∀ N, N ∈ q.nm1 → N ∈ closure h [p]) → PR env D w (Ow X F) q u → PR env0 D0 w O' (Go.Proofs.Ytlpooghphoohcaa.R.rd1 h q) u :=
    fun q u hq hu => hR.rd1 hv hO (fun N hN hd => hn N (hq N hN) hd) hu
  have many : ∀ (cs : List PV) us, (∀ N, N ∈ nmL cs → N ∈ closure h [p]) → PRs env D w (Ow X F) cs us → PRs env0 D0 w O' (cs.map (Go.Proofs.Ytlpooghphoohcaa.R.rd1 h)) us := by
    intro cs us hq hu
    exact PRs_map cs us hu fun q hqc u hqu => one q u (fun N hN => hq N (nmL_mem hqc hN)) hqu
  have refb : ∀ N v, N ∈ p.nms → PR env D w (Ow X F) (.ref N) v → PR env0 D0 w O' (Go.Proofs.Ytlpooghphoohcaa.R.rdb h (.ref N)) v := by
    intro N v hNp hp
    simp only [Go.Proofs.Ytlpooghphoohcaa.R.rdb]
    split
    · rename_i cs hN
      have hob := hR.ob N
      rw [hv.eq hN (by simp)] at hob
      simp only [OB] at hob
      obtain ⟨b, o, us, he, k1, k2, hF⟩ := hob
      simp only [PR] at hp
      obtain ⟨hd, rfl⟩ := hp
      simp only [PR]
      refine ⟨b, o, us, he, many cs us (fun M hM => hc2 N M hNp (by rw [hN]; exact hM)) k1, fun j u hu => ⟨(k2 j u hu).1, ?_⟩⟩
      refine hn N (hc1 N hNp) (by rw [hN]; simp) _ _ ?_
      have := (List.getElem?_eq_some_iff.1 hu).1
      have := PRs_len k1
      rw [hF]
      exact ⟨rfl, by omega, by omega⟩
    · exact one _ _ (fun M hM => hc1 M (by
        simp only [PV.nm1, List.mem_singleton] at hM
        rw [hM]
        exact hNp)) hp
  cases p with
  | ref N => exact refb N v (by simp [PV.nms, PV.nm2, PV.nm1]) hp
  | cp N i z j =>
    simp only [Go.Proofs.Ytlpooghphoohcaa.R.rd, PR]
    by_cases hne : atP h (.cp N i z j) = []
    · rw [hne]
      simp only [PR] at hp
      obtain ⟨hd, hi, b, o, hbb, rfl⟩ := hp
      exact ⟨b, _, [], rfl, by simp [PRs], fun j u hu => by simp at hu⟩
    · obtain ⟨b, o, us, rfl, k1, k2⟩ := hR.at2 hv hp hne
      refine ⟨b, o, us, rfl, ?_, fun l u hu => ?_⟩
      · refine many _ us (fun M hM => ?_) k1
        have hsub : nmL (atP h (.cp N i z j)) ⊆ (h N).nms ++ [] := by
          intro M hM
          simp only [List.append_nil]
          simp only [atP] at hM
          have cl0 : ∀ (t : Ty) (x : t.El) k, nmL ((cellsOf t x).drop k) = [] := by
            intro t x k
            have h0 : ∀ (t : Ty) (x : t.El) q, q ∈ cellsOf t x → q.nm1 = [] := by
              intro t
              induction t with
              | pair a b iha ihb => intro x q hq; simp only [cellsOf, List.mem_append] at hq; exact hq.elim (iha _ _) (ihb _ _)
              | _ => intro x q hq; simp only [cellsOf, List.mem_singleton] at hq; subst hq; rfl
            refine List.flatMap_eq_nil_iff.2 fun q hq => h0 t x q (List.mem_of_mem_drop hq)
          have sb : ∀ (cs : List PV) k, nmL (cs.drop k) ⊆ nmL cs := by
            intro cs k L hL
            obtain ⟨q, hq, hL⟩ := List.mem_flatMap.1 hL
            exact nmL_mem (List.mem_of_mem_drop hq) hL
          split at hM
          · rename_i cs hN
            rw [hN]
            split at hM
            · exact sb _ _ hM
            · simp [nmL] at hM
          · rename_i cs hN
            rw [hN]
            split at hM
            · exact sb _ _ hM
            · simp [nmL] at hM
          · split at hM
            · rw [cl0] at hM; cases hM
            · simp [nmL] at hM
          · split at hM
            · rw [cl0] at hM; cases hM
            · simp [nmL] at hM
          · simp [nmL] at hM
        have := hsub hM
        simp only [List.append_nil] at this
        exact hc2 N M (by simp [PV.nms, PV.nm2, PV.nm1]) this
      · obtain ⟨k3, k4⟩ := k2 l u hu
        refine ⟨k3, fun hx => ?_⟩
        rcases k4 with k4 | ⟨M, hM, hMd, hMF⟩
        · exact k4 (hO _ _ hx)
        · exact hn M (hc1 M (by simpa [PV.nms, PV.nm2] using hM)) hMd _ _ hMF hx
  | agg cs =>
    simp only [Go.Proofs.Ytlpooghphoohcaa.R.rd, PR] at hp ⊢
    obtain ⟨us, rfl, k1⟩ := hp
    exact ⟨us, rfl, many cs us (fun M hM => hc1 M hM) k1⟩
  | clo f cs =>
    simp only [Go.Proofs.Ytlpooghphoohcaa.R.rd, PR] at hp ⊢
    obtain ⟨us, rfl, k1⟩ := hp
    refine ⟨us, rfl, PRs_map cs us k1 fun q hqc u hqu => ?_⟩
    have hq1 : ∀ N, N ∈ q.nm1 → N ∈ closure h [PV.clo f cs] := fun N hN => hc1 N (nmL_mem hqc hN)
    cases q with
    | ref N => exact refb N u (nmL_mem hqc (by simp [PV.nm1])) hqu
    | _ => exact one _ _ hq1 hqu
  | val t x => exact one (.val t x) _ (fun M (hM : M ∈ []) => absurd hM (by simp)) hp
  | tst c d => exact one (.tst c d) _ (fun M (hM : M ∈ []) => absurd hM (by simp)) hp
  | nil => exact one (.nil) _ (fun M (hM : M ∈ []) => absurd hM (by simp)) hp
  | row e t xs => exact one (.row e t xs) _ (fun M (hM : M ∈ []) => absurd hM (by simp)) hp
  | mat e e' t xs => simp only [PR] at hp
  | hol e e' t xs i M => simp only [PR] at hp
  | dead => exact one (.dead) _ (fun M (hM : M ∈ []) => absurd hM (by simp)) hp
  | box cs => exact one (.box cs) _ (fun M (hM : M ∈ []) => absurd hM (by simp)) hp
  | pt cs => exact one (.pt cs) _ (fun M (hM : M ∈ []) => absurd hM (by simp)) hp
  | tup cs => exact one (.tup cs) _ (fun M (hM : M ∈ []) => absurd hM (by simp)) hp
  | win N s lo n => exact one (.win N s lo n) _ (fun M (hM : M ∈ [N]) => hc1 M (by simpa [PV.nms, PV.nm2, PV.nm1] using hM)) hp
end
end Go.Proofs.Ytlpooghphoohcaa.R
/- Calls: the arguments and their memory. -/
namespace Go.Proofs.Ytlpooghphoohcaa.R
open Go.RowKit
set_option linter.unusedVariables false
set_option linter.unusedSimpArgs false

def fpOf (env : Nat → Value) (F : Nat → Foot) : PV → Foot
  | .ref N => F N
  | .cp N i s _ => fun b o => ∃ o0, hb (env N) = some (b, o0) ∧ o0 + i * s ≤ o ∧ o < o0 + i * s + s
  | _ => fun _ _ => False
def ioAt (io : List Bool) (i : Nat) : Bool := io.getD i false
def fsOf (env : Nat → Value) (F : Nat → Foot) (io : List Bool) (ps : List PV) (i : Nat) : Foot := fun b o => ioAt io i = true ∧ fpOf env F (ps.getD i .dead) b o

theorem argsP_get {h : Nat → PV} : (io : List Bool) → (ps : List PV) → (i : Nat) → (argsP h io ps)[i]? = (ps[i]?).map (argP h (ioAt io i))
  | io, [], i => by cases io <;> simp [argsP]
  | [], p :: ps, 0 => by simp [argsP, ioAt]
  | [], p :: ps, i + 1 => by simp only [argsP, List.getElem?_cons_succ]; rw [argsP_get [] ps i]; simp [ioAt]
  | b :: io, p :: ps, 0 => by simp [argsP, ioAt]
  | b :: io, p :: ps, i + 1 => by simp only [argsP, List.getElem?_cons_succ]; rw [argsP_get io ps i]; simp [ioAt]
theorem ioNames_mem : (io : List Bool) → (ps : List PV) → (i : Nat) → (p : PV) → ps[i]? = some p → ioAt io i = true → ∀ N, N ∈ ioNm p → N ∈ ioNames io ps
  | io, [], i, p, h, _, _, _ => by simp at h
  | [], q :: ps, i, p, h, hi, _, _ => by simp [ioAt] at hi
  | b :: io, q :: ps, 0, p, h, hi, N, hN => by
    simp [ioAt] at hi h
    subst hi h
    simp [ioNames, hN]
  | b :: io, q :: ps, i + 1, p, h, hi, N, hN => by
    have := ioNames_mem io ps i p (by simpa using h) (by simpa [ioAt] using hi) N hN
    cases b <;> simp [ioNames, this]
theorem rdNames_mem {h : Nat → PV} : (io : List Bool) → (ps : List PV) → (i : Nat) → (p : PV) → ps[i]? = some p → ioAt io i = false → ∀ N, N ∈ closure h [p] → N ∈ rdNames h io ps
  | io, [], i, p, h, _, _, _ => by simp at h
  | [], q :: ps, 0, p, h, hi, N, hN => by
    simp at h; subst h
    simp [rdNames, hN]
  | [], q :: ps, i + 1, p, h, hi, N, hN => by
    have := rdNames_mem [] ps i p (by simpa using h) (by simp [ioAt]) N hN
    simp [rdNames, this]
  | b :: io, q :: ps, 0, p, h, hi, N, hN => by
    simp [ioAt] at hi h
    subst hi h
    simp [rdNames, hN]
  | b :: io, q :: ps, i + 1, p, h, hi, N, hN => by
    have := rdNames_mem io ps i p (by simpa using h) (by simpa [ioAt] using hi) N hN
    cases b <;> simp [rdNames, this]
theorem ioFits_get {h : Nat → PV} : (io : List Bool) → (ps : List PV) → ioFits h io ps = true → (i : Nat) → (p : PV) → ps[i]? = some p → ioAt io i = true → ioFit h p = true
  | io, [], _, i, p, h, _ => by simp at h
  | [], q :: ps, _, i, p, h, hi => by simp [ioAt] at hi
  | b :: io, q :: ps, hf, 0, p, h, hi => by
    simp [ioAt] at hi h
    subst hi h
    simp only [ioFits, Bool.and_eq_true] at hf
    exact hf.1
  | b :: io, q :: ps, hf, i + 1, p, h, hi => by
    refine ioFits_get io ps ?_ i p (by simpa using h) (by simpa [ioAt] using hi)
    cases b <;> simp only [ioFits, Bool.and_eq_true] at hf
    · exact hf
    · exact hf.2
theorem distinct_append : (l m : List Nat) → distinct (l ++ m) = true → distinct m = true ∧ ∀ N, N ∈ l → N ∉ m
  | [], m, h => ⟨h, fun N hN => by cases hN⟩
  | M :: l, m, h => by
    simp only [List.cons_append, distinct, Bool.and_eq_true, Bool.not_eq_true', List.contains_eq_mem] at h
    obtain ⟨h1, h2⟩ := distinct_append l m h.2
    refine ⟨h1, fun N hN => ?_⟩
    simp only [List.mem_cons] at hN
    rcases hN with rfl | hN
    · have := h.1
      simp at this
      exact this.2
    · exact h2 N hN
theorem ioNames_ne : (io : List Bool) → (ps : List PV) → distinct (ioNames io ps) = true → (i j : Nat) → (p q : PV) → i < j → ps[i]? = some p → ps[j]? = some q → ioAt io i = true → ioAt io j = true → ∀ N, N ∈ ioNm p → N ∉ ioNm q
  | io, [], _, i, j, p, q, _, h, _, _, _, _, _ => by simp at h
  | [], _ :: ps, _, i, j, p, q, _, h, _, hi, _, _, _ => by simp [ioAt] at hi
  | b :: io, r :: ps, hd, 0, j + 1, p, q, _, h, k, hi, hj, N, hN => by
    simp [ioAt] at hi h
    subst hi h
    simp only [ioNames] at hd
    intro hq
    exact (distinct_append _ _ hd).2 N hN (ioNames_mem io ps j q (by simpa using k) (by simpa [ioAt] using hj) N hq)
  | b :: io, r :: ps, hd, i + 1, j + 1, p, q, hl, h, k, hi, hj, N, hN => by
    refine ioNames_ne io ps ?_ i j p q (by omega) (by simpa using h) (by simpa using k) (by simpa [ioAt] using hi) (by simpa [ioAt] using hj) N hN
    cases b <;> simp only [ioNames] at hd
    · exact hd
    · exact (distinct_append _ _ hd).1
def PV.plain : PV → Bool
  | .row _ _ _ => false
  | .box _ => false
  | .mat _ _ _ _ => false
  | .hol _ _ _ _ _ _ => false
  | _ => true
theorem OB_plain {env : Nat → Value} {D : Nat → Prop} {w : World} {O F : Foot} {v : Value} {p : PV} (hp : p.plain = true) : OB env D w O v p F ↔ PR env D w O p v ∧ F = fun _ _ => False := by
  cases p <;> first | exact Iff.rfl | cases hp
theorem rd_plain (h : Nat → PV) (p : PV) : (rd h p).plain = true := by
  have r1 : ∀ q, (rd1 h q).plain = true := by
    intro q
    unfold rd1
    repeat' split
    all_goals rfl
  cases p <;> simp only [rd] <;> first | rfl | exact r1 _ | skip
  split
  · rfl
  · exact r1 _

section
variable {X W0 : Foot} {w0 : World} {D : Nat → Prop} {σ : St} {a : Act} {w : World} {env : Nat → Value} {F : Nat → Foot}
/-- Memory of an argument that may be written is of its object. -/
theorem Rl.fp (hR : Rl X W0 w0 D σ a w env F) {h : Nat → PV} (hv : Vw h σ) {p : PV} (hf : ioFit h p = true) {b o : Nat} (hb' : fpOf env F p b o) : ∃ N, N ∈ ioNm p ∧ h N ≠ .dead ∧ F N b o := by
  unfold ioFit at hf
  split at hf
  · rename_i N
    refine ⟨N, by simp [ioNm], ?_, hb'⟩
    intro e
    simp [e] at hf
  · rename_i N i s
    split at hf
    · rename_i e t xs hN
      refine ⟨N, by simp [ioNm], by rw [hN]; simp, ?_⟩
      have hob := hR.ob N
      rw [hv.eq hN (by simp)] at hob
      simp only [OB] at hob
      obtain ⟨us, ho, hr, hF⟩ := hob
      simp only [fpOf] at hb'
      obtain ⟨o0, hbb, _, _⟩ := hb'
      rw [hF]
      obtain ⟨aa, c, he, hcap, hg⟩ := own_form ho
      rw [he] at hbb ⊢
      cases aa with
      | none => simp [hb] at hbb
      | some ad =>
        obtain ⟨b1, o1, sp⟩ := ad
        cases sp with
        | none =>
          simp only [hb, Option.some.injEq, Prod.mk.injEq] at hbb
          obtain ⟨rfl, rfl⟩ := hbb
          rfl
        | some _ => simp [hb] at hbb
    · cases hf
  · cases hf
/-- What the callee must leave alone. -/
def xOf (X : Foot) (F : Nat → Foot) (env : Nat → Value) (h : Nat → PV) (io : List Bool) (ps : List PV) : Foot :=
  fun b o => X b o ∨ ((∃ N, (N ∈ rdNames h io ps → h N = .dead) ∧ F N b o) ∧ ¬ Un (fsOf env F io ps) b o)
theorem Rl.fs (hR : Rl X W0 w0 D σ a w env F) {h : Nat → PV} (hv : Vw h σ) {io : List Bool} {ps : List PV} (hok : callOk h io ps = true) {i b o : Nat} (hb' : fsOf env F io ps i b o) :
    ∃ p N, ps[i]? = some p ∧ ioAt io i = true ∧ N ∈ ioNm p ∧ h N ≠ .dead ∧ F N b o ∧ N ∉ rdNames h io ps := by
  obtain ⟨h1, h2⟩ := hb'
  simp only [callOk, Bool.and_eq_true] at hok
  obtain ⟨⟨hok1, hok2⟩, hok3⟩ := hok
  have hget : ∃ p, ps[i]? = some p := by
    cases e : ps[i]? with
    | some p => exact ⟨p, rfl⟩
    | none => simp [List.getD_eq_getElem?_getD, e, fpOf] at h2
  obtain ⟨p, hp⟩ := hget
  have : ps.getD i .dead = p := by simp [List.getD_eq_getElem?_getD, hp]
  rw [this] at h2
  obtain ⟨N, k1, k2, k3⟩ := hR.fp hv (ioFits_get io ps hok1 i p hp h1) h2
  refine ⟨p, N, hp, h1, k1, k2, k3, fun hL => ?_⟩
  have := List.all_eq_true.1 hok3 N (ioNames_mem io ps i p hp h1 N k1)
  simp at this
  exact this hL
theorem Rl.pre (hR : Rl X W0 w0 D σ a w env F) {h : Nat → PV} (hv : Vw h σ) {io : List Bool} {ps : List PV} {vals : List Value} (hps : PRs env D w (Ow X F) ps vals) (hok : callOk h io ps = true) :
    FnPre (xOf X F env h io ps) w (argsP h io ps) vals (fsOf env F io ps) := by
  have hl := PRs_len hps
  have hFs := fun i b o (hb' : fsOf env F io ps i b o) => hR.fs hv hok hb'
  have hdj : Dj (fsOf env F io ps) := by
    intro i j b o hne h1 h2
    obtain ⟨p, N, k1, k2, k3, k4, k5, _⟩ := hFs i b o h1
    obtain ⟨q, M, l1, l2, l3, l4, l5, _⟩ := hFs j b o h2
    have hnm : N ≠ M := by
      rintro rfl
      simp only [callOk, Bool.and_eq_true] at hok
      rcases Nat.lt_or_gt_of_ne hne with hlt | hgt
      · exact ioNames_ne io ps hok.1.2 i j p q hlt k1 l1 k2 l2 N k3 l3
      · exact ioNames_ne io ps hok.1.2 j i q p hgt l1 k1 l2 k2 N l3 k3
    exact hR.dj N M b o hnm k5 l5
  have hO : ∀ b o, (xOf X F env h io ps b o ∨ Un (fsOf env F io ps) b o) → Ow X F b o := by
    rintro b o ((hx | ⟨⟨N, _, hN⟩, _⟩) | ⟨i, hi⟩)
    · exact .inl hx
    · exact .inr ⟨N, hN⟩
    · obtain ⟨p, N, _, _, _, _, k5, _⟩ := hFs i b o hi
      exact .inr ⟨N, k5⟩
  have hs : Stb w (Ow X F) w (fun b o => xOf X F env h io ps b o ∨ Un (fsOf env F io ps) b o) := fun b o u h1 h2 => ⟨h1, fun h3 => h2 (hO b o h3)⟩
  refine ⟨⟨?_, fun i p' u hp' hu => ?_, fun i hi => ?_, hdj⟩, ?_, ?_, ?_⟩
  · have : (argsP h io ps).length = ps.length := by
      apply Nat.le_antisymm
      · rw [← List.getElem?_eq_none_iff, argsP_get]; simp
      · rw [← List.getElem?_eq_none_iff, ← Option.map_eq_none_iff (f := argP h (ioAt io (argsP h io ps).length)), ← argsP_get]; simp
    rw [this, hl]
  · rw [argsP_get] at hp'
    obtain ⟨p, hp, rfl⟩ := Option.map_eq_some_iff.1 hp'
    have hpu := ((PRs_iff _ _).1 hps).2 i p u hp hu
    have hgd : ps.getD i .dead = p := by simp [List.getD_eq_getElem?_getD, hp]
    cases hio : ioAt io i with
    | false =>
      simp only [argP, CR1]
      refine (OB_plain (rd_plain h p)).2 ⟨?_, ?_⟩
      · refine hR.rd hv hO (fun N hN hd b o hF hx => ?_) hpu
        have hL := rdNames_mem io ps i p hp hio N hN
        rcases hx with (hx | ⟨⟨M, hM, hMF⟩, _⟩) | ⟨j, hj⟩
        · exact hR.xf N b o hF hx
        · have : N ≠ M := by rintro rfl; exact hd (hM hL)
          exact hR.dj N M b o this hF hMF
        · obtain ⟨q, M, _, _, _, _, k5, k6⟩ := hFs j b o hj
          have : N ≠ M := by rintro rfl; exact k6 hL
          exact hR.dj N M b o this hF k5
      · funext b o
        simp [fsOf, hio]
    | true =>
      have hfs : fsOf env F io ps i = fpOf env F p := by
        funext b o
        simp only [fsOf, hio, hgd, true_and]
      rw [hfs]
      simp only [callOk, Bool.and_eq_true] at hok
      have hfit := ioFits_get io ps hok.1.1 i p hp hio
      unfold ioFit at hfit
      split at hfit
      · rename_i N
        simp only [PR] at hpu
        obtain ⟨hd, rfl⟩ := hpu
        have hob := hR.ob N
        split at hfit
        · rename_i e t xs hN
          rw [hv.eq hN (by simp)] at hob
          simp only [OB] at hob
          obtain ⟨us, ho, hr, hF⟩ := hob
          simp only [argP, hN, CR1, OB, fpOf]
          exact ⟨us, ho, hr.mono hs, hF⟩
        · rename_i cs hN
          rw [hv.eq hN (by simp)] at hob
          simp only [OB] at hob
          obtain ⟨b, o, us, he, k1, k2, hF⟩ := hob
          simp only [argP, hN, CR1, OB, fpOf]
          simp only [Bool.and_eq_true, List.isEmpty_iff] at hfit
          refine ⟨b, o, us, he, PRs_map cs us k1 fun q hq v hqv => hR.rd1 hv hO (fun M hM => ?_) hqv, k2, ?_⟩
          · have := nmL_mem hq hM
            rw [hfit.1] at this
            cases this
          · rw [hF, List.length_map]
        · cases hfit
      · rename_i N j s
        split at hfit
        · rename_i e t xs hN
          have hsz : s = t.sz := by simpa using hfit
          simp only [PR] at hpu
          obtain ⟨hd, hi, b, o, hbb, rfl⟩ := hpu
          have hob := hR.ob N
          rw [hv.eq hN (by simp)] at hob
          simp only [OB] at hob
          obtain ⟨us, ho, hr, hF⟩ := hob
          obtain ⟨aa, c, he, hcap, hg⟩ := own_form ho
          rw [he] at hi hbb
          simp only [hlen] at hi
          obtain ⟨g, rfl⟩ := hg (hr.pos hi)
          simp only [hb, Option.some.injEq, Prod.mk.injEq] at hbb
          obtain ⟨rfl, rfl⟩ := hbb
          simp only [argP, hN, if_pos hsz, CR1, OB, fpOf]
          rw [he] at ho
          have h4 := Nat.mul_le_mul_right t.sz (show j + 1 ≤ xs.length from hi)
          rw [Nat.succ_mul] at h4
          refine ⟨g, _, _, rfl, (PRs_cellsOf _ _ _).2 (RV.mono hs t (hr.lies hi)), fun l u hu => ?_, ?_⟩
          · rw [List.getElem?_take, List.getElem?_drop] at hu
            split at hu
            · rename_i hlt
              refine ⟨?_, ho.frozenAt _⟩
              rw [hsz, show 0 + (j * t.sz + 0) + l = j * t.sz + l by omega]
              exact (ho.cellAt _ (by omega)).trans hu
            · cases hu
          · funext b' o'
            rw [cellsOf_len, hsz]
            simp only [he, hb, Option.some.injEq, Prod.mk.injEq, Nat.add_zero, eq_iff_iff]
            constructor
            · rintro ⟨o0, ⟨rfl, rfl⟩, h2, h3⟩; exact ⟨rfl, h2, h3⟩
            · rintro ⟨rfl, h2, h3⟩; exact ⟨0, ⟨rfl, rfl⟩, h2, h3⟩
        · cases hfit
      · cases hfit
  · funext b o
    apply propext
    constructor
    · intro hb'
      obtain ⟨p, _, hp, _⟩ := hFs i b o hb'
      have hlen : (argsP h io ps)[i]? = none := List.getElem?_eq_none_iff.2 hi
      rw [argsP_get, hp] at hlen
      cases hlen
    · intro hb'; exact hb'.elim
  · rintro i b o hb' (hx | ⟨_, hx⟩)
    · obtain ⟨p, N, _, _, _, _, k5, _⟩ := hFs i b o hb'
      exact hR.xf N b o k5 hx
    · exact hx ⟨i, hb'⟩
  · intro i b o hb'
    obtain ⟨p, N, _, _, _, _, k5, _⟩ := hFs i b o hb'
    exact hR.lt N b o k5
  · rintro b o (hx | ⟨⟨N, _, hN⟩, _⟩)
    · exact Nat.lt_of_lt_of_le (hR.xl b o hx) hR.kp.size
    · exact hR.lt N b o hN
end
end Go.Proofs.Ytlpooghphoohcaa.R
/- Calls: what comes back, by names. -/
namespace Go.Proofs.Ytlpooghphoohcaa.R
open Go.RowKit
set_option linter.unusedVariables false
set_option linter.unusedSimpArgs false

theorem argP_isIo {h : Nat → PV} {b : Bool} {p : PV} (hf : b = true → ioFit h p = true) : isIo (argP h b p) = b := by
  cases b with
  | false =>
    have := rd_plain h p
    simp only [argP]
    revert this
    cases rd h p <;> intro this <;> first | rfl | cases this
  | true =>
    have hf := hf rfl
    unfold ioFit at hf
    split at hf
    · simp only [argP]
      split at hf <;> rename_i hN
      · simp [hN, isIo]
      · simp [hN, isIo]
      · cases hf
    · simp only [argP]
      split at hf
      · rename_i hN
        simp only [beq_iff_eq] at hf
        simp [hN, isIo, hf]
      · cases hf
    · cases hf
/-- What an io argument's object is told to be. -/
theorem backP_spec {h : Nat → PV} {p out : PV} {us : List Upd} (hb : backP h p out = some us) : ∃ N q, ioNm p = [N] ∧ us = [.ob N q] ∧
    ((p = .ref N ∧ q = out ∧ isIo out = true) ∨ ∃ i z cs e t xs x, p = .cp N i z 0 ∧ out = .box cs ∧ h N = .row e t xs ∧ ofCells t cs = some (x, []) ∧ q = .row e t (List.set xs i x)) := by
  unfold backP at hb
  split at hb
  · injection hb with hb; subst hb; exact ⟨_, _, rfl, rfl, .inl ⟨rfl, rfl, rfl⟩⟩
  · injection hb with hb; subst hb; exact ⟨_, _, rfl, rfl, .inl ⟨rfl, rfl, rfl⟩⟩
  · split at hb
    · rename_i hN
      split at hb
      · rename_i hx
        injection hb with hb; subst hb
        exact ⟨_, _, rfl, rfl, .inr ⟨_, _, _, _, _, _, _, rfl, rfl, hN, hx, rfl⟩⟩
      · cases hb
    · cases hb
  · cases hb
theorem backs_spec {h : Nat → PV} : (ps : List PV) → (io : List Bool) → (outs : List PV) → (us : List Upd) → backs h ps io outs = some us → distinct (ioNames io ps) = true → ioFits h io ps = true → (k : Nat) →
    noSl us ∧ (∀ N, N ∉ ioNames io ps → lastOb us N = none) ∧ ∀ (i : Nat) p, ps[i]? = some p → ioAt io i = true →
      ∃ (j : Nat) (out : PV) (N : Nat) (q : PV), (ioIdx (argsP h io ps) k)[j]? = some (k + i) ∧ outs[j]? = some out ∧ ioNm p = [N] ∧ backP h p out = some [.ob N q] ∧ lastOb us N = some q
  | [], io, outs, us, hb, _, _, k => by
    cases outs with
    | nil =>
      have : us = [] := by cases io <;> (simp [backs] at hb; exact hb)
      subst this
      exact ⟨fun u hu => (by cases hu), fun _ _ => rfl, fun i p hp => by simp at hp⟩
    | cons out outs => cases io <;> simp [backs] at hb
  | p :: ps, [], outs, us, hb, hd, hf, k => by
    simp only [backs] at hb
    obtain ⟨h1, h2, h3⟩ := backs_spec ps [] outs us hb (by cases ps <;> rfl) (by cases ps <;> rfl) k
    exact ⟨h1, fun N _ => h2 N (by cases ps <;> simp [ioNames]), fun i q hq hi => by simp [ioAt] at hi⟩
  | p :: ps, false :: io, outs, us, hb, hd, hf, k => by
    have hb : backs h ps io outs = some us := by
      cases outs <;> simpa [backs] using hb
    simp only [ioNames, ioFits] at hd hf
    obtain ⟨h1, h2, h3⟩ := backs_spec ps io outs us hb hd hf (k + 1)
    refine ⟨h1, fun N hN => h2 N (by simpa [ioNames] using hN), fun i q hq hi => ?_⟩
    cases i with
    | zero => simp [ioAt] at hi
    | succ i =>
      obtain ⟨j, out, N, r, e1, e2, e3, e4, e5⟩ := h3 i q (by simpa using hq) (by simpa [ioAt] using hi)
      refine ⟨j, out, N, r, ?_, e2, e3, e4, e5⟩
      simp only [argsP, ioIdx, argP_isIo (h := h) (b := false) (p := p) (fun h => by cases h)]
      rw [show k + (i + 1) = k + 1 + i by omega]
      exact e1
  | p :: ps, true :: io, [], us, hb, hd, hf, k => by simp [backs] at hb
  | p :: ps, true :: io, out :: outs, us, hb, hd, hf, k => by
    simp only [backs] at hb
    simp only [ioNames, ioFits, Bool.and_eq_true] at hd hf
    split at hb
    · rename_i us1 us2 hb1 hb2
      injection hb with hb
      subst hb
      obtain ⟨hd1, hd2⟩ := distinct_append _ _ hd
      obtain ⟨h1, h2, h3⟩ := backs_spec ps io outs us2 hb2 hd1 hf.2 (k + 1)
      obtain ⟨N, q, hN, rfl, hq⟩ := backP_spec hb1
      refine ⟨fun u hu => ?_, fun M hM => ?_, fun i r hr hi => ?_⟩
      · rcases List.mem_append.1 hu with hu | hu
        · simp at hu; exact ⟨_, _, hu⟩
        · exact h1 u hu
      · rw [ioNames, List.mem_append, not_or] at hM
        rw [lastOb_append, h2 M hM.2]
        rw [hN] at hM
        simp only [lastOb]
        rw [if_neg]
        rintro rfl
        exact hM.1 (by simp)
      · cases i with
        | zero =>
          simp at hr
          subst hr
          refine ⟨0, out, N, q, ?_, rfl, hN, hb1, ?_⟩
          · simp only [argsP, ioIdx, argP_isIo (h := h) (b := true) (p := p) (fun _ => hf.1), if_true]
            rfl
          · rw [lastOb_append, h2 N (hd2 N (by simp [hN]))]
            simp [lastOb]
        | succ i =>
          obtain ⟨j, out', M, r', e1, e2, e3, e4, e5⟩ := h3 i r (by simpa using hr) (by simpa [ioAt] using hi)
          refine ⟨j + 1, out', M, r', ?_, e2, e3, e4, ?_⟩
          · simp only [argsP, ioIdx, argP_isIo (h := h) (b := true) (p := p) (fun _ => hf.1), if_true]
            rw [show k + (i + 1) = k + 1 + i by omega]
            exact e1
          · rw [lastOb_append, e5]
    · cases hb

/-! results -/
theorem matL_ob : (cs : List PV) → (nm N : Nat) → lastOb (matL nm cs).2 N = if nm ≤ N then (match cs[N - nm]? with | some p => if isIo p then some p else none | none => none) else none
  | [], nm, N => by simp [matL, lastOb]
  | p :: ps, nm, N => by
    simp only [matL, lastOb_append, matL_ob ps]
    by_cases h1 : nm + 1 ≤ N
    · rw [if_pos h1, if_pos (by omega)]
      obtain ⟨d, hd⟩ : ∃ d, N - nm = d + 1 := ⟨N - nm - 1, by omega⟩
      rw [hd, show N - (nm + 1) = d by omega, List.getElem?_cons_succ]
      have hm : lastOb (mat1 nm p).2 N = none := by
        have : nm ≠ N := by omega
        cases p <;> simp [mat1, lastOb, this]
      rw [hm]
      cases ps[d]? with
      | none => rfl
      | some q => by_cases e : isIo q = true <;> simp [e]
    · rw [if_neg h1]
      by_cases h2 : nm = N
      · subst h2
        simp only [Nat.le_refl, if_true, Nat.sub_self, List.getElem?_cons_zero]
        cases p <;> simp [mat1, lastOb, isIo]
      · rw [if_neg (by omega)]
        cases p <;> simp [mat1, lastOb, h2]
theorem matL_noSl : (cs : List PV) → (nm : Nat) → noSl (matL nm cs).2
  | [], nm => fun u hu => by simp [matL] at hu
  | p :: ps, nm => fun u hu => by
    simp only [matL, List.mem_append] at hu
    rcases hu with hu | hu
    · cases p <;> simp [mat1] at hu
      · exact ⟨_, _, hu⟩
      · exact ⟨_, _, hu⟩
      · exact ⟨_, _, hu⟩
      · exact ⟨_, _, hu⟩
    · exact matL_noSl ps _ u hu
theorem mat2_ob (nm : Nat) (p : PV) : (mat2 nm p).2 = (matL nm p.cells).2 := by
  cases p <;> simp [mat2, PV.cells, matL, mat1]
theorem mat2_get (nm : Nat) (p : PV) (hp : ∀ cs, p ≠ .agg cs) : mat2 nm p = mat1 nm p := by
  cases p <;> first | rfl | exact absurd rfl (hp _)
def cellAt (nm : Nat) (ps : List PV) (N : Nat) : Option PV := if nm ≤ N then (ps[(N - nm) / 16]?).bind fun q => q.cells[(N - nm) % 16]? else none
theorem matT_ob : (ps : List PV) → (∀ q, q ∈ ps → q.cells.length ≤ 16) → (nm N : Nat) → lastOb (matT nm ps).2 N = (match cellAt nm ps N with | some p => if isIo p then some p else none | none => none)
  | [], _, nm, N => by
    simp only [matT, lastOb, cellAt]
    by_cases e : nm ≤ N <;> simp [e]
  | q :: ps, hl, nm, N => by
    simp only [matT, lastOb_append, matT_ob ps (fun r hr => hl r (by simp [hr])), mat2_ob, matL_ob]
    have hq := hl q (by simp)
    by_cases h1 : nm + 16 ≤ N
    · have e1 : cellAt nm (q :: ps) N = cellAt (nm + 16) ps N := by
        simp only [cellAt, if_pos h1, if_pos (show nm ≤ N by omega)]
        rw [show (N - nm) / 16 = (N - (nm + 16)) / 16 + 1 by omega, show (N - nm) % 16 = (N - (nm + 16)) % 16 by omega, List.getElem?_cons_succ]
      rw [e1]
      have h3 : q.cells[N - nm]? = none := List.getElem?_eq_none_iff.2 (by omega)
      rw [h3]
      cases cellAt (nm + 16) ps N with
      | none => simp
      | some r => by_cases e : isIo r = true <;> simp [e]
    · have e1 : cellAt (nm + 16) ps N = none := by simp only [cellAt, if_neg h1]
      rw [e1]
      by_cases h2 : nm ≤ N
      · have e2 : cellAt nm (q :: ps) N = q.cells[N - nm]? := by
          simp only [cellAt, if_pos h2]
          rw [show (N - nm) / 16 = 0 by omega, show (N - nm) % 16 = N - nm by omega]
          rfl
        rw [e2, if_pos h2]
      · simp only [cellAt, if_neg h2]
theorem matT_noSl : (ps : List PV) → (nm : Nat) → noSl (matT nm ps).2
  | [], nm => fun u hu => by simp [matT] at hu
  | p :: ps, nm => fun u hu => by
    simp only [matT, List.mem_append] at hu
    rcases hu with hu | hu
    · rw [mat2_ob] at hu; exact matL_noSl _ _ u hu
    · exact matT_noSl ps _ u hu
theorem mat_ob (nm : Nat) (p : PV) : (mat nm p).2 = (matT nm p.comps).2 := by
  cases p <;> simp [mat, PV.comps, matT]
theorem matL_get : (cs : List PV) → (nm i : Nat) → (matL nm cs).1[i]? = (cs[i]?).map fun p => (mat1 (nm + i) p).1
  | [], nm, i => by simp [matL]
  | p :: ps, nm, 0 => by simp [matL]
  | p :: ps, nm, i + 1 => by
    simp only [matL, List.getElem?_cons_succ, matL_get ps]
    rw [show nm + 1 + i = nm + (i + 1) by omega]
theorem matT_get : (cs : List PV) → (nm i : Nat) → (matT nm cs).1[i]? = (cs[i]?).map fun p => (mat2 (nm + 16 * i) p).1
  | [], nm, i => by simp [matT]
  | p :: ps, nm, 0 => by simp [matT]
  | p :: ps, nm, i + 1 => by
    simp only [matT, List.getElem?_cons_succ, matT_get ps]
    rw [show nm + 16 + 16 * i = nm + 16 * (i + 1) by omega]
theorem matL_len : (cs : List PV) → (nm : Nat) → (matL nm cs).1.length = cs.length
  | [], nm => rfl
  | p :: ps, nm => by simp [matL, matL_len ps]
theorem matT_len : (cs : List PV) → (nm : Nat) → (matT nm cs).1.length = cs.length
  | [], nm => rfl
  | p :: ps, nm => by simp [matT, matT_len ps]

/-! what shares nothing is the same for every owner -/
theorem RV.nosh {w : World} {O O' : Foot} : (t : Ty) → t.hasSl = false → {x : t.El} → {vs : List Value} → RV w O t x vs → RV w O' t x vs
  | .int _, _, _, _, h => by simp only [RV] at h ⊢; exact h
  | .bool, _, _, _, h => by simp only [RV] at h ⊢; exact h
  | .str, _, _, _, h => by simp only [RV] at h ⊢; exact h
  | .flt _, _, _, _, h => by simp only [RV] at h ⊢; exact h
  | .sl t, hn, _, _, _ => by simp [Ty.hasSl] at hn
  | .pair a b, hn, _, _, h => by
    simp only [Ty.hasSl, Bool.or_eq_false_iff] at hn
    simp only [RV] at h ⊢
    obtain ⟨us, us', rfl, h1, h2⟩ := h
    exact ⟨us, us', rfl, RV.nosh a hn.1 h1, RV.nosh b hn.2 h2⟩
section
variable {env : Nat → Value} {D : Nat → Prop} {w : World} {O O' F : Foot}
theorem PR_mv {p : PV} {v : Value} (hs : p.sh1 = true → Stb w O w O') (h : PR env0 D0 w O p v) : PR env D w O' p v := by
  by_cases hp : p.sh1 = true
  · exact PR.mono (hs hp) (fun _ h => h.elim) (fun _ h => h.elim) _ _ h
  · cases p <;> simp [PV.sh1] at hp <;> simp only [PR] at h ⊢
    case val t x => exact RV.nosh t hp h
    all_goals first | exact h | exact h.1.elim
theorem PRs_mv {ps : List PV} {us : List Value} (hs : ps.any PV.sh1 = true → Stb w O w O') (h : PRs env0 D0 w O ps us) : PRs env D w O' ps us := by
  refine (PRs_iff _ _).2 ⟨PRs_len h, fun i p u hp hu => PR_mv (fun hsh => hs ?_) (((PRs_iff _ _).1 h).2 i p u hp hu)⟩
  exact List.any_eq_true.2 ⟨p, List.mem_of_getElem? hp, hsh⟩
/-- A cell that shares. -/
def PV.shc : PV → Bool
  | .agg _ => true
  | .tup _ => true
  | p => p.sh2
theorem OB_mv {p : PV} {v : Value} (hs : p.shc = true → Stb w O w O') (h : OB env0 D0 w O v p F) : OB env D w O' v p F := by
  cases p with
  | row e t xs =>
    simp only [OB] at h ⊢
    obtain ⟨us, h1, h2, h3⟩ := h
    refine ⟨us, h1, ?_, h3⟩
    cases ht : t.hasSl with
    | true => exact h2.mono (hs (by simp [PV.shc, PV.sh2, PV.sh1, ht]))
    | false => exact ⟨h2.1, fun i hi => RV.nosh t ht (h2.2 i hi)⟩
  | box cs =>
    simp only [OB] at h ⊢
    obtain ⟨b, o, us, h1, h2, h3⟩ := h
    exact ⟨b, o, us, h1, PRs_mv (fun hsh => hs (by simp only [PV.shc, PV.sh2, hsh])) h2, h3⟩
  | mat e e' t xs =>
    simp only [OB] at h ⊢
    obtain ⟨us, h1, h2⟩ := h
    exact ⟨us, h1.mono (Keep.refl (fun _ _ => False) w) (fun _ h => h.elim) (fun _ h => h.elim) (fun _ _ _ h => h), h2⟩
  | hol e e' t xs i M =>
    simp only [OB] at h ⊢
    obtain ⟨us, h1, h2⟩ := h
    exact ⟨us, h1.mono (Keep.refl (fun _ _ => False) w) (fun _ h => h.elim) (fun _ h => h.elim) (fun _ _ _ h => h), h2⟩
  | _ =>
    refine (OB_plain rfl).2 ?_
    obtain ⟨h1, h2⟩ := (OB_plain rfl).1 h
    exact ⟨PR_mv (fun hsh => hs (by first | rfl | exact hsh)) h1, h2⟩
theorem sh_cell {res q p : PV} (hq : q ∈ res.comps) (hp : p ∈ q.cells) (h : p.shc = true) : res.sh = true := by
  have h1 : q.sh2 = true := by
    by_cases hag : ∃ cs, q = .agg cs
    · obtain ⟨cs, rfl⟩ := hag
      simp only [PV.sh2]
      refine List.any_eq_true.2 ⟨p, hp, ?_⟩
      cases p <;> first | rfl | exact h
    · have : q.cells = [q] := by cases q <;> first | rfl | exact absurd ⟨_, rfl⟩ hag
      rw [this, List.mem_singleton] at hp
      subst hp
      cases p <;> first | exact h | rfl | exact absurd ⟨_, rfl⟩ hag
  cases res with
  | tup ps => exact List.any_eq_true.2 ⟨q, hq, h1⟩
  | _ =>
    simp only [PV.comps, List.mem_singleton] at hq
    subst hq
    exact h1
end
theorem ioNames_inv {N : Nat} : (io : List Bool) → (ps : List PV) → N ∈ ioNames io ps → ∃ (i : Nat) (p : PV), ps[i]? = some p ∧ ioAt io i = true ∧ N ∈ ioNm p
  | io, [], h => by cases io <;> simp [ioNames] at h
  | [], _ :: _, h => by simp [ioNames] at h
  | true :: io, p :: ps, h => by
    simp only [ioNames, List.mem_append] at h
    rcases h with h | h
    · exact ⟨0, p, rfl, rfl, h⟩
    · obtain ⟨i, q, h1, h2, h3⟩ := ioNames_inv io ps h
      exact ⟨i + 1, q, by simpa using h1, by simpa [ioAt] using h2, h3⟩
  | false :: io, p :: ps, h => by
    simp only [ioNames] at h
    obtain ⟨i, q, h1, h2, h3⟩ := ioNames_inv io ps h
    exact ⟨i + 1, q, by simpa using h1, by simpa [ioAt] using h2, h3⟩
/-- The results, component by component. -/
theorem CR3.comps {w : World} {O : Foot} {res : PV} {v : Value} {H : Nat → Foot} (h : CR3 w O res v H) :
    ∃ vs : List Value, res.comps.length = vs.length ∧ (∀ (i : Nat) q u, res.comps[i]? = some q → vs[i]? = some u → CR2 w O q u (H i)) ∧ (∀ i, res.comps.length ≤ i → H i = fun _ _ => False) ∧ Dj H ∧
      ((∃ ps, res = .tup ps) → v = .tuple vs.toArray) ∧ ((∀ ps, res ≠ .tup ps) → vs = [v]) := by
  by_cases ht : ∃ ps, res = .tup ps
  · obtain ⟨ps, rfl⟩ := ht
    obtain ⟨us, h1, h2, h3, h4, h5⟩ := h
    exact ⟨us, h2, h3, h4, h5, fun _ => h1, fun hn => absurd rfl (hn ps)⟩
  · have hc : res.comps = [res] := by cases res <;> first | rfl | exact absurd ⟨_, rfl⟩ ht
    have h' : CR2 w O res v (H 0) ∧ ∀ i, 0 < i → H i = fun _ _ => False := by
      cases res <;> first | exact h | exact absurd ⟨_, rfl⟩ ht
    refine ⟨[v], by rw [hc]; rfl, fun i q u hq hu => ?_, fun i hi => ?_, fun i j b o hne h1 h2 => ?_, fun h => absurd h ht, fun _ => rfl⟩
    · rw [hc] at hq
      cases i with
      | zero => simp at hq hu; subst hq hu; exact h'.1
      | succ i => simp at hq
    · rw [hc] at hi
      exact h'.2 i hi
    · by_cases hi : 0 < i
      · rw [h'.2 i hi] at h1; exact h1
      · rw [h'.2 j (by omega)] at h2; exact h2
end Go.Proofs.Ytlpooghphoohcaa.R
/- Calls: the caller goes on. -/
namespace Go.Proofs.Ytlpooghphoohcaa.R
open Go.RowKit
set_option linter.unusedVariables false
set_option linter.unusedSimpArgs false

section
variable {X W0 : Foot} {w0 : World} {D : Nat → Prop} {σ : St} {a : Act} {w : World} {env : Nat → Value} {F : Nat → Foot}
/-- The results' cells, their values and their memory, by names. -/
structure Cells (w w' : World) (O : Foot) (res : PV) (v : Value) (nm : Nat) (vs : List Value) (us2 : Nat → List Value) (F2 : Nat → Nat → Foot) : Prop where
  len : res.comps.length = vs.length
  comp : ∀ (i : Nat) q u, res.comps[i]? = some q → vs[i]? = some u → q.cells.length = (us2 i).length ∧ ((∃ cs, q = .agg cs) → u = .agg (us2 i).toArray) ∧ ((∀ cs, q ≠ .agg cs) → us2 i = [u])
  cell : ∀ (i j : Nat) q p u, res.comps[i]? = some q → q.cells[j]? = some p → (us2 i)[j]? = some u → CR1 w' O p u (F2 i j)
  new : ∀ (i j : Nat) q p, res.comps[i]? = some q → q.cells[j]? = some p → ∀ b o, F2 i j b o → w.heap.size ≤ b ∧ b < w'.heap.size
  dj : ∀ (i j i' j' : Nat) q p q' p', res.comps[i]? = some q → q.cells[j]? = some p → res.comps[i']? = some q' → q'.cells[j']? = some p' → (i, j) ≠ (i', j') → ∀ b o, F2 i j b o → ¬ F2 i' j' b o
  tup : (∃ ps, res = .tup ps) → v = .tuple vs.toArray
  one : (∀ ps, res ≠ .tup ps) → vs = [v]
theorem cells_of {w w' : World} {O : Foot} {res : PV} {v : Value} {H : Nat → Foot} (h : CR3 w' O res v H) (hn : ∀ i b o, H i b o → w.heap.size ≤ b ∧ b < w'.heap.size) (nm : Nat) :
    ∃ vs us2 F2, Cells w w' O res v nm vs us2 F2 ∧ ∀ i j q p, res.comps[i]? = some q → q.cells[j]? = some p → ∀ b o, F2 i j b o → H i b o := by
  obtain ⟨vs, h1, h2, h3, h4, h5, h6⟩ := h.comps
  have hx : ∀ i, ∃ (x : List Value × (Nat → Foot)), ∀ q u, res.comps[i]? = some q → vs[i]? = some u → CRs w' O q.cells x.1 x.2 ∧ H i = Un x.2 ∧ ((∃ cs, q = .agg cs) → u = .agg x.1.toArray) ∧ ((∀ cs, q ≠ .agg cs) → x.1 = [u]) := by
    intro i
    cases hq : res.comps[i]? with
    | none => exact ⟨([], fun _ _ _ => False), fun q u h => by cases h⟩
    | some q =>
      have hi : i < vs.length := by have := (List.getElem?_eq_some_iff.1 hq).1; omega
      obtain ⟨us, Fs, k1, k2, k3, k4⟩ := h2 i q vs[i] hq (List.getElem?_eq_getElem hi)
      refine ⟨(us, Fs), fun q' u h' hu => ?_⟩
      injection h' with h'
      rw [List.getElem?_eq_getElem hi] at hu
      injection hu with hu
      subst h' hu
      exact ⟨k1, k2, k3, k4⟩
  obtain ⟨x, hx⟩ := Classical.axiomOfChoice hx
  have hv : ∀ (i : Nat) q, res.comps[i]? = some q → ∃ u, vs[i]? = some u := by
    intro i q hq
    have hi : i < vs.length := by have := (List.getElem?_eq_some_iff.1 hq).1; omega
    exact ⟨_, List.getElem?_eq_getElem hi⟩
  have hsub : ∀ i j q p, res.comps[i]? = some q → q.cells[j]? = some p → ∀ b o, (x i).2 j b o → H i b o := by
    intro i j q p hq hp b o hb'
    obtain ⟨u, hu⟩ := hv i q hq
    rw [(hx i q u hq hu).2.1]
    exact ⟨j, hb'⟩
  refine ⟨vs, fun i => (x i).1, fun i => (x i).2, ⟨h1, fun i q u hq hu => ?_, fun i j q p u hq hp hu => ?_, fun i j q p hq hp b o hb' => hn i b o (hsub i j q p hq hp b o hb'), ?_, h5, h6⟩, hsub⟩
  · have := hx i q u hq hu
    exact ⟨this.1.1, this.2.2.1, this.2.2.2⟩
  · obtain ⟨u', hu'⟩ := hv i q hq
    exact (hx i q u' hq hu').1.2.1 j p u hp hu
  · intro i j i' j' q p q' p' hq hp hq' hp' hne b o k1 k2
    by_cases hi : i = i'
    · subst hi
      have hj : j ≠ j' := fun e => hne (by rw [e])
      obtain ⟨u, hu⟩ := hv i q hq
      exact (hx i q u hq hu).1.2.2.2 j j' b o hj k1 k2
    · exact h4 i i' b o hi (hsub i j q p hq hp b o k1) (hsub i' j' q' p' hq' hp' b o k2)
theorem cellAt_some {nm : Nat} {ps : List PV} {N : Nat} {p : PV} (h : cellAt nm ps N = some p) : nm ≤ N ∧ ∃ q, ps[(N - nm) / 16]? = some q ∧ q.cells[(N - nm) % 16]? = some p := by
  unfold cellAt at h
  split at h
  · refine ⟨by assumption, ?_⟩
    cases hq : ps[(N - nm) / 16]? with
    | none => rw [hq] at h; cases h
    | some q => rw [hq] at h; exact ⟨q, rfl, h⟩
  · cases h
theorem cellAt_at {nm : Nat} {ps : List PV} {i j : Nat} {q p : PV} (hq : ps[i]? = some q) (hp : q.cells[j]? = some p) (hj : j < 16) : cellAt nm ps (nm + 16 * i + j) = some p := by
  unfold cellAt
  rw [if_pos (by omega), show (nm + 16 * i + j - nm) / 16 = i by omega, show (nm + 16 * i + j - nm) % 16 = j by omega, hq]
  exact hp
theorem OB_hd {env : Nat → Value} {D : Nat → Prop} {w : World} {O F : Foot} {v : Value} {p : PV} (hp : isIo p = true) (h : OB env D w O v p F) : IsHd v := by
  cases p <;> first | cases hp | skip
  · simp only [OB] at h
    obtain ⟨us, ho, _⟩ := h
    obtain ⟨aa, c, he, _⟩ := own_form ho
    exact .inl ⟨_, _, _, he⟩
  · simp only [OB] at h
    obtain ⟨b, o, us, he, _⟩ := h
    exact .inr ⟨_, he⟩
  · simp only [OB] at h
    obtain ⟨us, hm, _⟩ := h
    obtain ⟨aa, c, he, _⟩ := own_form hm.own
    exact .inl ⟨_, _, _, he⟩
  · simp only [OB] at h
    obtain ⟨us, hm, _⟩ := h
    obtain ⟨aa, c, he, _⟩ := own_form hm.own
    exact .inl ⟨_, _, _, he⟩
theorem hasPlain {p : PV} (h : isIo p = false) : p.plain = true := by cases p <;> first | rfl | cases h
/-- A row after an element of it was written elsewhere. -/
theorem own_cp {w w' : World} {V : Foot} {e : TypeId} {sz n cap g j : Nat} {us vs : List Value} (h : w.ownsRow 0 e sz (.slice (some ⟨g, 0, none⟩) n cap) n us) (hk : Keep V w w') (hj : j < n)
    (hV : ∀ o, V g o → j * sz ≤ o ∧ o < j * sz + sz) (hl : vs.length = sz) (hc : ∀ l u, vs[l]? = some u → cl w' g (j * sz + l) = some u) : w'.ownsRow 0 e sz (.slice (some ⟨g, 0, none⟩) n cap) n (spl us (j * sz) vs) := by
  obtain ⟨h1, h2⟩ := h
  rcases h2 with ⟨h2, _⟩ | ⟨g', cap', cur, he, hg, hh, hnc, hcm, hcs, hct⟩
  · cases h2
  · injection he with e1 _ e3
    injection e1 with e1
    injection e1 with e1 _ _
    subst e1 e3
    have hm := Nat.mul_le_mul_right sz (show j + 1 ≤ n from hj)
    rw [Nat.succ_mul] at hm
    have hm2 := Nat.mul_le_mul_right sz hnc
    have hgl : g < w.heap.size := (Array.getElem?_eq_some_iff.1 hh).1
    have hle : j * sz + vs.length ≤ us.length := by omega
    have fin : ∀ cur' : Array Value, w'.heap[g]? = some (.cells cur' e (0, 0)) → cur'.size = cur.size → (∀ i, ¬ V g i → cur'[i]? = cur[i]?) → w'.ownsRow 0 e sz (.slice (some ⟨g, 0, none⟩) n cap) n (spl us (j * sz) vs) := by
      intro cur' hh' hs' hc'
      refine ⟨by rw [spl_len hle]; exact h1, .inr ⟨g, cap, cur', rfl, Nat.zero_le _, hh', hnc, hcm, by omega, ?_⟩⟩
      apply List.ext_getElem?
      intro m
      rw [spl_get hle, List.getElem?_take]
      have hcur : ∀ i, i < n * sz → us[i]? = cur[i]? := by
        intro i hi
        rw [← hct, List.getElem?_take, if_pos hi, Array.getElem?_toList]
      by_cases hm' : m < n * sz
      · rw [if_pos hm', Array.getElem?_toList]
        by_cases hin : j * sz ≤ m ∧ m < j * sz + vs.length
        · rw [if_pos hin]
          have hlt : m - j * sz < vs.length := by omega
          have := hc (m - j * sz) vs[m - j * sz] (List.getElem?_eq_getElem hlt)
          rw [show j * sz + (m - j * sz) = m by omega] at this
          simp only [cl, World.cell?, hh'] at this
          rw [List.getElem?_eq_getElem hlt]
          simpa using this
        · rw [if_neg hin, hc' m (fun hv => hin ⟨(hV m hv).1, by have := (hV m hv).2; omega⟩)]
          exact (hcur m hm').symm
      · rw [if_neg hm', if_neg (by omega), List.getElem?_eq_none_iff.2 (by omega)]
    rcases hk.block g hgl with hall | he | ⟨c, c', e', f', k1, k2, k3, k4⟩
    · have := (hV (j * sz + sz) (hall _)).2
      omega
    · exact fin cur (he.symm.trans hh) rfl (fun _ _ => rfl)
    · rw [hh] at k1
      injection k1 with k1
      injection k1 with k1 k5 k6
      subst k1 k5 k6
      exact fin c' k2 k3.symm k4
end
end Go.Proofs.Ytlpooghphoohcaa.R
/- Calls: the caller's great step, and calls. -/
namespace Go.Proofs.Ytlpooghphoohcaa.R
open Go.RowKit
set_option linter.unusedVariables false
set_option linter.unusedSimpArgs false

section
variable {X W0 : Foot} {w0 : World} {D : Nat → Prop} {σ : St} {a : Act} {w : World} {env : Nat → Value} {F : Nat → Foot}
theorem Rl.back (hR : Rl X W0 w0 D σ a w env F) {h : Nat → PV} (hv : Vw h σ) {io : List Bool} {ps : List PV} {vals : List Value} (hps : PRs env D w (Ow X F) ps vals) (hok : callOk h io ps = true)
    {w' : World} {outs : List PV} {res : PV} {v : Value} {H : Nat → Foot} (post : FnPost (xOf X F env h io ps) w w' (argsP h io ps) outs vals (fsOf env F io ps) res v H) (hres : resOk res = true) {us : List Upd} (hus : backs h ps io outs = some us)
    {nm : Nat} (hfr : ∀ M, nm ≤ M → M < nm + 64 → ¬ D M) (o : Oper) {fl : Bool} (hfl : (res.sh || outs.any PV.sh) = fl) :
    R X W0 w0 (Fresh D nm) (σ.apply ((if fl then (rdNames h io ps).flatMap (frzC h (rdNames h io ps)) else []) ++ us ++ (mat nm res).2 ++ Go.Proofs.Ytlpooghphoohcaa.R.put o (mat nm res).1)) (a.put o.dst v) w' := by
  classical
  have hok' := hok
  simp only [callOk, Bool.and_eq_true] at hok'
  obtain ⟨⟨hok1, hok2⟩, hok3⟩ := hok'
  simp only [resOk, Bool.and_eq_true, decide_eq_true_eq, List.all_eq_true] at hres
  obtain ⟨hr4, hr16⟩ := hres
  obtain ⟨vs, us2, F2, C, hFH⟩ := cells_of (w := w) post.res post.new nm
  obtain ⟨hns, hnone, hsome⟩ := backs_spec ps io outs us hus hok2 hok1 0
  let L := rdNames h io ps
  let fr : List Upd := if fl then L.flatMap (frzC h L) else []
  let U := fr ++ us ++ (mat nm res).2
  let new : Nat → Prop := fun N => ∃ p, cellAt nm res.comps N = some p ∧ isIo p = true
  let fz : Nat → Prop := fun N => lastOb fr N ≠ none
  let newV : Nat → Value := fun N => ((us2 ((N - nm) / 16))[(N - nm) % 16]?).getD undef
  let newF : Nat → Foot := fun N => F2 ((N - nm) / 16) ((N - nm) % 16)
  let F' : Nat → Foot := fun N => if new N then newF N else if fz N then fun _ _ => False else F N
  let env' : Nat → Value := fun N => if new N then newV N else env N
  let D' : Nat → Prop := fun N => D N ∨ new N
  let O' : Foot := fun b o => xOf X F env h io ps b o ∨ Un (fsOf env F io ps) b o ∨ Un H b o
  have hcellv : ∀ (i j : Nat) q p, res.comps[i]? = some q → q.cells[j]? = some p → ∃ u, (us2 i)[j]? = some u := by
    intro i j q p hq hp
    have hi : i < vs.length := by have := (List.getElem?_eq_some_iff.1 hq).1; have := C.len; omega
    obtain ⟨h1, _⟩ := C.comp i q vs[i] hq (List.getElem?_eq_getElem hi)
    have hj : j < (us2 i).length := by have := (List.getElem?_eq_some_iff.1 hp).1; omega
    exact ⟨_, List.getElem?_eq_getElem hj⟩
  have hcell : ∀ N p, cellAt nm res.comps N = some p → CR1 w' O' p (newV N) (newF N) := by
    intro N p hN
    obtain ⟨_, q, hq, hp⟩ := cellAt_some hN
    obtain ⟨u, hu⟩ := hcellv _ _ q p hq hp
    have := C.cell _ _ q p u hq hp hu
    simp only [newV, newF, hu, Option.getD_some]
    exact this
  have hnewN : ∀ N, new N → nm ≤ N ∧ N < nm + 64 := by
    rintro N ⟨p, hN, _⟩
    obtain ⟨h1, q, hq, hp⟩ := cellAt_some hN
    have := (List.getElem?_eq_some_iff.1 hq).1
    exact ⟨h1, by omega⟩
  have hnewD : ∀ N, new N → ¬ D N := fun N hN => hfr N (hnewN N hN).1 (hnewN N hN).2
  have hnewF : ∀ N, new N → ∀ b o, newF N b o → w.heap.size ≤ b ∧ b < w'.heap.size := by
    rintro N ⟨p, hN, _⟩ b o hb'
    obtain ⟨h1, q, hq, hp⟩ := cellAt_some hN
    exact C.new _ _ q p hq hp b o hb'
  have hmu : ∀ N, lastOb (mat nm res).2 N = (match cellAt nm res.comps N with | some p => if isIo p then some p else none | none => none) := fun N => by
    rw [mat_ob, matT_ob _ hr16]
    all_goals rfl
  have hmu1 : ∀ N p, cellAt nm res.comps N = some p → isIo p = true → lastOb (mat nm res).2 N = some p := by
    intro N p h1 h2
    rw [hmu, h1]
    simp [h2]
  have hmu2 : ∀ N, ¬ new N → lastOb (mat nm res).2 N = none := by
    intro N hN
    rw [hmu]
    cases hc : cellAt nm res.comps N with
    | none => rfl
    | some p =>
      have : ¬ isIo p = true := fun hp => hN ⟨p, hc, hp⟩
      simp [this]
  have hUl : ∀ N, lastOb U N = (match lastOb (mat nm res).2 N with | some q => some q | none => match lastOb us N with | some q => some q | none => lastOb fr N) := fun N => by
    simp only [U, lastOb_append]
    all_goals rfl
  have hfrz : ∀ N, lastOb fr N = if fl = true ∧ N ∈ L then frzCV h L (h N) else none := by
    intro N
    simp only [fr]
    cases fl with
    | true =>
      simp only [if_true, frz_last, true_and]
      all_goals rfl
    | false => simp [lastOb]
  have hfzL : ∀ N, fz N → fl = true ∧ N ∈ L ∧ ∃ q, frzCV h L (h N) = some q := by
    intro N hN
    simp only [fz, hfrz] at hN
    split at hN
    · rename_i hc
      refine ⟨hc.1, hc.2, ?_⟩
      cases hq : frzCV h L (h N) with
      | some q => exact ⟨q, rfl⟩
      | none => exact absurd hq hN
    · exact absurd rfl hN
  have hdom : ∀ N, h N ≠ .dead → D N := by
    intro N hN
    refine hR.dom ?_
    rcases hv N with e | e
    · rwa [← e]
    · exact absurd e hN
  have hfzD : ∀ N, fz N → D N := by
    intro N hN
    obtain ⟨q, h1⟩ := (hfzL N hN).2.2
    exact hdom N (by intro e; rw [e] at h1; cases h1)
  have hio : ∀ N, lastOb us N ≠ none → ∃ i p, ps[i]? = some p ∧ ioAt io i = true ∧ N ∈ ioNm p ∧ N ∉ L ∧ D N := by
    intro N hN
    have hmem : N ∈ ioNames io ps := Classical.byContradiction fun hc => hN (hnone N hc)
    obtain ⟨i, p, h1, h2, h3⟩ := ioNames_inv io ps hmem
    refine ⟨i, p, h1, h2, h3, fun hL => ?_, ?_⟩
    · have := List.all_eq_true.1 hok3 N hmem
      simp at this
      exact this hL
    · have hfit := ioFits_get io ps hok1 i p h1 h2
      refine hdom N fun hd => ?_
      unfold ioFit at hfit
      split at hfit
      · simp only [ioNm, List.mem_singleton] at h3; subst h3; simp [hd] at hfit
      · simp only [ioNm, List.mem_singleton] at h3; subst h3; simp [hd] at hfit
      · cases hfit
  have hFold : ∀ N b o, F' N b o → new N ∧ w.heap.size ≤ b ∧ b < w'.heap.size ∨ ¬ new N ∧ ¬ fz N ∧ F N b o := by
    intro N b o hb'
    simp only [F'] at hb'
    by_cases hn : new N
    · rw [if_pos hn] at hb'
      exact .inl ⟨hn, hnewF N hn b o hb'⟩
    · rw [if_neg hn] at hb'
      by_cases hz : fz N
      · rw [if_pos hz] at hb'; exact hb'.elim
      · rw [if_neg hz] at hb'; exact .inr ⟨hn, hz, hb'⟩
  -- one who shares knows that what he shares is no longer written
  have hsh : fl = true → Stb w' O' w' (Ow X F') := by
    intro hf b o u h1 h2
    refine ⟨h1, fun h3 => h2 ?_⟩
    rcases h3 with hx | ⟨N, hN⟩
    · exact .inl (.inl hx)
    · simp only [F'] at hN
      by_cases hn : new N
      · rw [if_pos hn] at hN
        obtain ⟨p, hc, _⟩ := hn
        obtain ⟨_, q, hq, hp⟩ := cellAt_some hc
        exact .inr (.inr ⟨_, hFH _ _ q p hq hp b o hN⟩)
      · rw [if_neg hn] at hN
        by_cases hz : fz N
        · rw [if_pos hz] at hN; exact hN.elim
        · rw [if_neg hz] at hN
          by_cases hun : Un (fsOf env F io ps) b o
          · exact .inr (.inl hun)
          · refine .inl (.inr ⟨⟨N, fun hL => ?_, hN⟩, hun⟩)
            have hob := hR.ob N
            have hnz : lastOb fr N = none := Classical.not_not.1 hz
            rw [hfrz, if_pos ⟨hf, hL⟩] at hnz
            cases hh : h N with
            | dead => rfl
            | row e t xs => rw [hh] at hnz; cases hnz
            | box cs => rw [hh] at hnz; cases hnz
            | mat e e' t xs => rw [hh] at hnz; cases hnz
            | hol e e' t xs i M => rw [hh] at hnz; cases hnz
            | _ =>
              rw [hv.eq hh (by simp)] at hob
              have := (OB_plain rfl).1 hob
              rw [this.2] at hN
              exact hN.elim
  have hresh : ∀ (i j : Nat) q p, res.comps[i]? = some q → q.cells[j]? = some p → p.shc = true → Stb w' O' w' (Ow X F') := by
    intro i j q p hq hp hs
    have := sh_cell (List.mem_of_getElem? hq) (List.mem_of_getElem? hp) hs
    exact hsh (by rw [← hfl, this]; rfl)
  have hkp := post.kp
  have hVF : ∀ b o, Un (fsOf env F io ps) b o → ∃ N, lastOb U N ≠ none ∧ F N b o := by
    rintro b o ⟨i, hi⟩
    obtain ⟨p, N, h1, h2, h3, h4, h5, h6⟩ := hR.fs hv hok hi
    obtain ⟨j, out, N', q, _, _, k3, _, k5⟩ := hsome i p h1 h2
    rw [k3, List.mem_singleton] at h3
    subst h3
    refine ⟨N, ?_, h5⟩
    rw [hUl, k5]
    cases lastOb (mat nm res).2 N <;> simp
  have hstep := hR.step' (σ' := σ.apply U) (D' := D') (env' := env') (F' := F') (V := Un (fsOf env F io ps)) (w' := w') (fun N => lastOb U N ≠ none)
    (noSl.sl U (by
      intro u hu
      simp only [U, List.mem_append] at hu
      rcases hu with (hu | hu) | hu
      · simp only [fr] at hu
        split at hu
        · exact frz_noSl h L L u hu
        · cases hu
      · exact hns u hu
      · rw [mat_ob] at hu
        exact matT_noSl _ _ u hu) σ) hkp hVF
    (by
      intro N hN
      have hN := Classical.not_not.1 hN
      have hn : ¬ new N := by
        rintro ⟨p, h1, h2⟩
        rw [hUl, hmu1 N p h1 h2] at hN
        cases hN
      have hz : ¬ fz N := by
        intro hz
        rw [hUl, hmu2 N hn] at hN
        simp only at hN
        cases hlu : lastOb us N with
        | none => rw [hlu] at hN; exact hz hN
        | some q => rw [hlu] at hN; cases hN
      refine ⟨by rw [look_apply, hN]; rfl, ?_, ?_⟩
      · simp only [F', if_neg hn, if_neg hz]
      · simp only [env', if_neg hn])
    (by
      intro N hN b o hb'
      rcases hFold N b o hb' with ⟨_, h1, _⟩ | ⟨_, _, h1⟩
      · exact .inr h1
      · exact .inl ⟨N, hN, h1⟩)
    (by
      intro N hN b o hb'
      rcases hFold N b o hb' with ⟨_, _, h1⟩ | ⟨_, _, h1⟩
      · exact h1
      · exact Nat.lt_of_lt_of_le (hR.lt N b o h1) hkp.size)
    (by
      intro M N b o _ _ hne h1 h2
      have k1 := hFold M b o h1
      have k2 := hFold N b o h2
      rcases k1 with ⟨m1, m2, m3⟩ | ⟨m1, m2, m3⟩ <;> rcases k2 with ⟨n1, n2, n3⟩ | ⟨n1, n2, n3⟩
      · simp only [F', if_pos m1, if_pos n1, newF] at h1 h2
        obtain ⟨p, hp, _⟩ := m1
        obtain ⟨p', hp', _⟩ := n1
        obtain ⟨a1, q, a2, a3⟩ := cellAt_some hp
        obtain ⟨b1, q', b2, b3⟩ := cellAt_some hp'
        refine C.dj _ _ _ _ q p q' p' a2 a3 b2 b3 (fun e => hne ?_) b o h1 h2
        injection e with e1 e2
        omega
      · have := hR.lt N b o n3; omega
      · have := hR.lt M b o m3; omega
      · exact hR.dj M N b o hne m3 n3)
    (by
      intro N hN
      simp only [env']
      rw [if_neg]
      exact fun hn => hnewD N hn hN)
    (fun N hN => .inl hN)
    (by
      rintro N (hN | hN)
      · simp only [env']
        rw [if_neg (fun hn => hnewD N hn hN)]
        exact hR.hd N hN
      · simp only [env', if_pos hN]
        obtain ⟨p, h1, h2⟩ := hN
        exact OB_hd h2 (hcell N p h1))
    (by
      intro N hN
      simp only [D', not_or] at hN
      rw [look_apply, hUl, hmu2 N hN.2]
      have h1 : lastOb us N = none := Classical.byContradiction fun hc => by
        obtain ⟨i, p, _, _, _, _, h6⟩ := hio N hc
        exact hN.1 h6
      have h2 : lastOb fr N = none := Classical.byContradiction fun hc => hN.1 (hfzD N hc)
      rw [h1]
      simp only [h2, Option.getD_none]
      exact hR.dm N hN.1)
    (by
      intro hs N hN
      by_cases hn : new N
      · obtain ⟨p, h1, h2⟩ := hn
        have hn : new N := ⟨p, h1, h2⟩
        rw [look_apply, hUl, hmu1 N p h1 h2]
        simp only [Option.getD_some, env', F', if_pos hn]
        obtain ⟨_, q, hq, hp⟩ := cellAt_some h1
        exact OB_mv (hresh _ _ q p hq hp) (hcell N p h1)
      · rw [look_apply, hUl, hmu2 N hn]
        simp only [env', if_neg hn]
        cases hlu : lastOb us N with
        | some q0 =>
          obtain ⟨i, p, h1, h2, h3, h4, h5⟩ := hio N (by rw [hlu]; simp)
          have hz : ¬ fz N := fun hz => h4 (hfzL N hz).2.1
          have hF' : F' N = F N := by simp only [F', if_neg hn, if_neg hz]
          rw [hF']
          simp only [Option.getD_some]
          obtain ⟨j, out, N', q, k1, k2, k3, k4, k5⟩ := hsome i p h1 h2
          rw [k3, List.mem_singleton] at h3
          subst h3
          rw [hlu] at k5
          injection k5 with k5
          subst k5
          have hiv : i < vals.length := by have := (List.getElem?_eq_some_iff.1 h1).1; have := PRs_len hps; omega
          have hval : vals[i]? = some vals[i] := List.getElem?_eq_getElem hiv
          have hpu := ((PRs_iff _ _).1 hps).2 i p _ h1 hval
          rw [Nat.zero_add] at k1
          have hout := post.out j i out vals[i] k1 k2 hval
          have hshout : out.shc = true → Stb w' O' w' (Ow X F') := by
            intro hs'
            refine hsh ?_
            rw [← hfl, Bool.or_eq_true]
            refine .inr (List.any_eq_true.2 ⟨out, List.mem_of_getElem? k2, ?_⟩)
            obtain ⟨_, _, _, _, hq⟩ := backP_spec k4
            have hoi : isIo out = true := by
              rcases hq with ⟨_, _, hq⟩ | ⟨_, _, _, _, _, _, _, _, hq, _⟩
              · exact hq
              · rw [hq]; rfl
            cases out <;> first | exact hs' | cases hoi
          have hmv := OB_mv (env := env') (D := D') hshout hout
          have hgd : ps.getD i .dead = p := by simp [List.getD_eq_getElem?_getD, h1]
          have hfs : fsOf env F io ps i = fpOf env F p := by
            funext b o
            simp only [fsOf, h2, hgd, true_and]
          rw [hfs] at hmv
          obtain ⟨N2, q2, l1, l2, l3⟩ := backP_spec k4
          rw [k3] at l1
          injection l1 with l1 _
          injection l2 with l2 _
          injection l2 with _ l2
          subst l1 l2
          rcases l3 with ⟨rfl, rfl, _⟩ | ⟨c, z, cs, e, t, xs, x, rfl, rfl, l4, l5, rfl⟩
          · simp only [PR] at hpu
            rw [hpu.2] at hmv
            exact hmv
          · have hfit := ioFits_get io ps hok1 i _ h1 h2
            simp only [ioFit, l4, beq_iff_eq] at hfit
            subst hfit
            simp only [PR] at hpu
            obtain ⟨hd, hi, b, oo, hbb, hvi⟩ := hpu
            have hob := hR.ob N
            rw [hv.eq l4 (by simp)] at hob
            simp only [OB] at hob
            obtain ⟨us0, ho, hr, hF⟩ := hob
            obtain ⟨aa, cap, he, hcap, hg⟩ := own_form ho
            rw [he] at hi hbb ho
            simp only [hlen] at hi
            obtain ⟨g, rfl⟩ := hg (hr.pos hi)
            simp only [hb, Option.some.injEq, Prod.mk.injEq] at hbb
            obtain ⟨rfl, rfl⟩ := hbb
            rw [hvi] at hmv
            simp only [OB] at hmv
            obtain ⟨b', o', us', m1, m2, m3, m4⟩ := hmv
            injection m1 with m1
            injection m1 with m1
            injection m1 with m1 m5 _
            subst m1 m5
            obtain ⟨us1, us2', n1, n2, n3⟩ := ofCells_ok t cs x [] us' l5 m2
            simp only [PRs] at n3
            subst n3
            rw [List.append_nil] at n1
            subst n1
            have hl' := n2.len
            have him := Nat.mul_le_mul_right t.sz (show c + 1 ≤ xs.length from hi)
            rw [Nat.succ_mul] at him
            have hgV : ∀ o, Un (fsOf env F io ps) g o → c * t.sz ≤ o ∧ o < c * t.sz + t.sz := by
              rintro o ⟨i', hi'⟩
              by_cases e : i' = i
              · subst e
                rw [hfs] at hi'
                simp only [fpOf] at hi'
                obtain ⟨o0, q1, q2, q3⟩ := hi'
                rw [he] at q1
                simp only [hb, Option.some.injEq, Prod.mk.injEq, true_and] at q1
                subst q1
                omega
              · obtain ⟨p', M, r1, r2, r3, r4, r5, r6⟩ := hR.fs hv hok hi'
                have hMN : M ≠ N := by
                  rintro rfl
                  rcases Nat.lt_or_gt_of_ne e with hlt | hgt
                  · exact ioNames_ne io ps hok2 i' i p' _ hlt r1 h1 r2 h2 M r3 (by rw [k3]; simp)
                  · exact ioNames_ne io ps hok2 i i' _ p' hgt h1 r1 h2 r2 M (by rw [k3]; simp) r3
                refine absurd ?_ (hR.dj M N g o hMN r5)
                rw [hF, he]
                rfl
            have hnew := own_cp ho hkp hi hgV hl' (fun l u hu => by
              have := (m3 l u hu).1
              rwa [show 0 + (c * t.sz + 0) + l = c * t.sz + l by omega] at this)
            simp only [OB]
            refine ⟨_, by rw [he, List.length_set]; exact hnew, ?_, hF⟩
            have hset := RVs.set (w := w') (O := Ow X F') (hr.mono hs) hi (x := x) (vs := us') (j := 0) (by omega) (by
              have : spl ((us0.drop (c * t.sz)).take t.sz) 0 us' = us' := by
                have h00 := hr.1
                simp only [spl, List.take_zero, List.nil_append, Nat.zero_add]
                rw [List.drop_eq_nil_of_le (by simp only [List.length_take]; omega), List.append_nil]
              rw [this]
              exact n2)
            exact hset
        | none =>
          simp only
          cases hlf : lastOb fr N with
          | none =>
            exfalso
            refine hN ?_
            rw [hUl, hmu2 N hn]
            simp only [hlu, hlf]
          | some q0 =>
            have hz : fz N := by simp only [fz, hlf]; simp
            have hF' : F' N = fun _ _ => False := by simp only [F', if_neg hn, if_pos hz]
            rw [hF']
            obtain ⟨z1, z2, z3⟩ := hfzL N hz
            rw [hfrz, if_pos ⟨z1, z2⟩] at hlf
            simp only [Option.getD_some]
            have hown : ∀ p, h N = p → p ≠ .dead → OB env' D' w' (Ow X F') (env N) p (F N) := by
              intro p hh hpd
              have hob := hR.ob N
              rw [hv.eq hh hpd] at hob
              exact OB.mono (env' := env') (D' := D') hs (fun M hM => by
                simp only [env']
                rw [if_neg (fun hn => hnewD M hn hM)]) (fun M hM => .inl hM) hkp (fun b o hb' => ⟨hR.lt N b o hb', by
                rintro ⟨i', hi'⟩
                obtain ⟨p', M, r1, r2, r3, r4, r5, r6⟩ := hR.fs hv hok hi'
                have : M ≠ N := by rintro rfl; exact r6 z2
                exact hR.dj M N b o this r5 hb'⟩) _ hob
            have hno : ∀ b o, F N b o → ¬ Ow X F' b o := by
              rintro b o hFN (hx | ⟨M, hM⟩)
              · exact hR.xf N b o hFN hx
              · rcases hFold M b o hM with ⟨_, m2, _⟩ | ⟨_, m2, m3⟩
                · have := hR.lt N b o hFN; omega
                · have : M ≠ N := by rintro rfl; exact m2 hz
                  exact hR.dj M N b o this m3 hFN
            have z4 : (∃ e t xs, h N = .row e t xs) ∨ (∃ cs, h N = .box cs) ∨ (∃ e e' t xs, h N = .mat e e' t xs) ∨ ∃ e e' t xs i M, h N = .hol e e' t xs i M := by
              obtain ⟨q, z3⟩ := z3
              cases hh : h N <;> rw [hh] at z3 <;> simp only [frzCV, reduceCtorEq] at z3
              · exact .inl ⟨_, _, _, rfl⟩
              · exact .inr (.inl ⟨_, rfl⟩)
              · exact .inr (.inr (.inl ⟨_, _, _, _, rfl⟩))
              · exact .inr (.inr (.inr ⟨_, _, _, _, _, _, rfl⟩))
            rcases z4 with ⟨e, t, xs, hh⟩ | ⟨cs, hh⟩ | ⟨e, e', t, xs, hh⟩ | ⟨e, e', t, xs, i, M, hh⟩
            rotate_left 2
            · rw [hh] at hlf
              injection hlf with hlf
              subst hlf
              have hob' := hown _ hh (by simp)
              simp only [OB] at hob' ⊢
              obtain ⟨us0, hm, hF⟩ := hob'
              refine ⟨?_, trivial⟩
              simp only [PR]
              exact mat_val hm fun b o hb' => hno b o (by rw [hF]; exact hb')
            · rw [hh] at hlf
              injection hlf with hlf
              subst hlf
              simp only [OB, PR]
              exact ⟨trivial, trivial⟩
            · rw [hh] at hlf
              injection hlf with hlf
              subst hlf
              have hob := hR.ob N
              rw [hv.eq hh (by simp)] at hob
              have hob' := OB.mono (env' := env') (D' := D') hs (fun M hM => by
                simp only [env']
                rw [if_neg (fun hn => hnewD M hn hM)]) (fun M hM => .inl hM) hkp (fun b o hb' => ⟨hR.lt N b o hb', by
                rintro ⟨i', hi'⟩
                obtain ⟨p', M, r1, r2, r3, r4, r5, r6⟩ := hR.fs hv hok hi'
                have : M ≠ N := by rintro rfl; exact r6 z2
                exact hR.dj M N b o this r5 hb'⟩) _ hob
              simp only [OB] at hob hob' ⊢
              obtain ⟨us0, ho, hr, _⟩ := hob'
              obtain ⟨_, _, _, hF⟩ := hob
              refine ⟨?_, trivial⟩
              simp only [PR]
              refine row_val (env' := env') (D' := D') ho hr fun b o hb' => ?_
              have hFN : F N b o := by rw [hF]; exact hb'
              rintro (hx | ⟨M, hM⟩)
              · exact hR.xf N b o hFN hx
              · rcases hFold M b o hM with ⟨_, m2, _⟩ | ⟨_, m2, m3⟩
                · have := hR.lt N b o hFN; omega
                · have : M ≠ N := by rintro rfl; exact m2 hz
                  exact hR.dj M N b o this m3 hFN
            · rw [hh] at hlf
              injection hlf with hlf
              subst hlf
              unfold frzB
              split
              · rename_i hall
                let O1 : Foot := fun b o => Ow X F b o ∧ ¬ ∃ M, M ∈ L ∧ h M ≠ .dead ∧ F M b o
                have hs1 : Stb w O1 w' (Ow X F') := by
                  intro b o u hc hno
                  by_cases how : Ow X F b o
                  · obtain ⟨M, hML, hMd, hMF⟩ : ∃ M, M ∈ L ∧ h M ≠ .dead ∧ F M b o := Classical.byContradiction fun hc => hno ⟨how, hc⟩
                    have hfzM : fz M := by
                      simp only [fz]
                      rw [hfrz, if_pos ⟨z1, hML⟩]
                      have hobM := hR.ob M
                      cases hhM : h M with
                      | row e t xs => simp [frzCV]
                      | box cs => simp [frzCV]
                      | mat e e' t xs => simp [frzCV]
                      | hol e e' t xs i M => simp [frzCV]
                      | dead => exact absurd hhM hMd
                      | _ =>
                        rw [hv.eq hhM (by simp)] at hobM
                        have := (OB_plain rfl).1 hobM
                        rw [this.2] at hMF
                        exact hMF.elim
                    refine ⟨hkp.cell hc ?_, ?_⟩
                    · rintro ⟨i', hi'⟩
                      obtain ⟨p', M', r1, r2, r3, r4, r5, r6⟩ := hR.fs hv hok hi'
                      have : M' ≠ M := by rintro rfl; exact r6 hML
                      exact hR.dj M' M b o this r5 hMF
                    · rintro (hx | ⟨K, hK⟩)
                      · exact hR.xf M b o hMF hx
                      · rcases hFold K b o hK with ⟨_, m2, _⟩ | ⟨_, m2, m3⟩
                        · have := hR.lt M b o hMF; omega
                        · have : K ≠ M := by rintro rfl; exact m2 hfzM
                          exact hR.dj K M b o this m3 hMF
                  · exact hs b o u hc how
                have hob := hR.ob N
                rw [hv.eq hh (by simp)] at hob
                simp only [OB] at hob
                obtain ⟨b, o, us0, he, k1, k2, hF⟩ := hob
                refine (OB_plain rfl).2 ⟨?_, rfl⟩
                simp only [PR]
                refine ⟨b, o, us0, he, PRs.mono hs1 (fun _ h => h.elim) (fun _ h => h.elim) _ _ (PRs_map (env' := env0) (D' := D0) (O' := O1) cs us0 k1 fun q hq u hu => hR.rd1 hv (fun b o h => h.1) (fun M hM hMd b o hMF hO => hO.2 ⟨M, ?_, hMd, hMF⟩) hu), fun j u hu => ?_⟩
                · have := List.all_eq_true.1 hall M (nmL_mem hq hM)
                  simpa using this
                · refine hs1 b (o + j) u (k2 j u hu).1 fun hO => hO.2 ⟨N, z2, by rw [hh]; simp, ?_⟩
                  have := (List.getElem?_eq_some_iff.1 hu).1
                  have := PRs_len k1
                  rw [hF]
                  exact ⟨rfl, by omega, by omega⟩
              · simp only [OB, PR]
                exact ⟨trivial, trivial⟩)
  obtain ⟨hR', hs⟩ := hstep
  have hval : PR env' D' w' (Ow X F') (mat nm res).1 v := by
    have hc1 : ∀ (i j : Nat) q p u, res.comps[i]? = some q → q.cells[j]? = some p → (us2 i)[j]? = some u → PR env' D' w' (Ow X F') (mat1 (nm + 16 * i + j) p).1 u := by
      intro i j q p u hq hp hu
      have hc := C.cell i j q p u hq hp hu
      cases hpi : isIo p with
      | true =>
        have hj : j < 16 := by have := (List.getElem?_eq_some_iff.1 hp).1; have := hr16 q (List.mem_of_getElem? hq); omega
        have hca := cellAt_at (nm := nm) hq hp hj
        have hn : new (nm + 16 * i + j) := ⟨p, hca, hpi⟩
        have : (mat1 (nm + 16 * i + j) p).1 = .ref (nm + 16 * i + j) := by cases p <;> first | rfl | cases hpi
        rw [this]
        simp only [PR, env', if_pos hn, newV]
        refine ⟨.inr hn, ?_⟩
        rw [show (nm + 16 * i + j - nm) / 16 = i by omega, show (nm + 16 * i + j - nm) % 16 = j by omega, hu]
        rfl
      | false =>
        have : (mat1 (nm + 16 * i + j) p).1 = p := by cases p <;> first | rfl | cases hpi
        rw [this]
        have := OB_mv (env := env') (D := D') (hresh i j q p hq hp) hc
        exact ((OB_plain (hasPlain hpi)).1 this).1
    have hc2 : ∀ (i : Nat) q u, res.comps[i]? = some q → vs[i]? = some u → PR env' D' w' (Ow X F') (mat2 (nm + 16 * i) q).1 u := by
      intro i q u hq hu
      obtain ⟨k1, k2, k3⟩ := C.comp i q u hq hu
      by_cases hag : ∃ cs, q = .agg cs
      · have hu' := k2 hag
        obtain ⟨cs, rfl⟩ := hag
        subst hu'
        simp only [mat2, PR]
        refine ⟨us2 i, rfl, (PRs_iff _ _).2 ⟨by rw [matL_len]; exact k1, fun j p' u' hp' hu' => ?_⟩⟩
        rw [matL_get] at hp'
        obtain ⟨p, hp, rfl⟩ := Option.map_eq_some_iff.1 hp'
        exact hc1 i j _ p u' hq hp hu'
      · have hne : ∀ cs, q ≠ .agg cs := fun cs e => hag ⟨cs, e⟩
        rw [mat2_get _ _ hne]
        have hcs : q.cells = [q] := by cases q <;> first | rfl | exact absurd rfl (hne _)
        have := hc1 i 0 q q u hq (by rw [hcs]; rfl) (by rw [k3 hne]; rfl)
        exact this
    by_cases ht : ∃ qs, res = .tup qs
    · have hv' := C.tup ht
      obtain ⟨qs, rfl⟩ := ht
      subst hv'
      simp only [mat, PR]
      refine ⟨vs, rfl, (PRs_iff _ _).2 ⟨by rw [matT_len]; exact C.len, fun i p' u' hp' hu' => ?_⟩⟩
      rw [matT_get] at hp'
      obtain ⟨q, hq, rfl⟩ := Option.map_eq_some_iff.1 hp'
      exact hc2 i q u' hq hu'
    · have hne : ∀ qs, res ≠ .tup qs := fun qs e => ht ⟨qs, e⟩
      have hcs : res.comps = [res] := by cases res <;> first | rfl | exact absurd rfl (hne _)
      have hm : mat nm res = mat2 nm res := by cases res <;> first | rfl | exact absurd rfl (hne _)
      rw [hm]
      exact hc2 0 res v (by rw [hcs]; rfl) (by rw [C.one hne]; rfl)
  rw [St.apply_append]
  exact R.grow (R.of (hR'.puto o hval)) (fun M hM => hM.imp id (hnewN M))
end
attribute [local irreducible] FnRel
theorem callP_ok {P : Program} {C : Hd Prop} {io : FuncId → List Bool} (hC : ∀ f args Φ, C f args Φ → ∃ outs res, Φ outs res ∧ FnRel P f args outs res) {o : Oper} {σ : St} {h : Nat → PV} (hv : Vw h σ) {fid : FuncId} {ps : List PV} {nm : Nat} {k : List Upd → Prop}
    (hk : callP C io False h nm o fid ps k) : ∃ us outs res, k us ∧ FnRel P fid (argsP h (io fid) ps) outs res ∧ callOk h (io fid) ps = true ∧
      ∀ (X W0 : Foot) (w0 : World) (D : Nat → Prop) (a : Act) (w : World) (env : Nat → Value) (F : Nat → Foot) (vals : List Value) (K : Act → World → Prop), (∀ M, nm ≤ M → M < nm + 64 → ¬ D M) → Rl X W0 w0 D σ a w env F → PRs env D w (Ow X F) ps vals →
        (∀ a' w', R X W0 w0 (Fresh D nm) (σ.apply us) a' w' → K a' w') → ∀ v H w', FnPost (xOf X F env h (io fid) ps) w w' (argsP h (io fid) ps) outs vals (fsOf env F (io fid) ps) res v H → K (a.put o.dst v) w' := by
  unfold callP at hk
  split at hk
  · rename_i hok
    obtain ⟨outs, res, hk, hrel⟩ := hC _ _ _ hk
    split at hk
    · rename_i us hres hus
      exact ⟨_, outs, res, hk, hrel, hok, fun X W0 w0 D a w env F vals K hfr hR hps hk' v H w' post => hk' _ _ (hR.back hv hps hok post hres hus hfr o rfl)⟩
    · exact hk.elim
  · exact hk.elim
theorem callQ_or (io : FuncId → List Bool) (h : Nat → PV) (nm : Nat) (o : Oper) (f : FuncId) (ps : List PV) :
    (∃ cs p, ps = [.agg cs, p] ∧ ∀ (C : Hd Prop) k, callQ C io False h nm o f ps k = callP C io False h nm o (pk f) (cs ++ [p]) k) ∨
    ∀ (C : Hd Prop) k, callQ C io False h nm o f ps k = if Nat.blt f 1000000 = true then callP C io False h nm o f ps k else False := by
  cases hb : (io f).headD false with
  | false => exact .inr fun C k => by simp only [callQ, hb]
  | true =>
    rcases ps with _ | ⟨q, _ | ⟨p, _ | ⟨r, l⟩⟩⟩
    · exact .inr fun C k => by simp only [callQ, hb]
    · exact .inr fun C k => by cases q <;> simp only [callQ, hb]
    · cases q with
      | agg cs => exact .inl ⟨cs, p, rfl, fun C k => by simp only [callQ, hb]⟩
      | _ => exact .inr fun C k => by simp only [callQ, hb]
    · exact .inr fun C k => by cases q <;> simp only [callQ, hb]
theorem call_ok {P : Program} {C : Hd Prop} {io : FuncId → List Bool} (hC : ∀ f args Φ, C f args Φ → ∃ outs res, Φ outs res ∧ FnRel P f args outs res) {o : Oper} {c : Call} {x : Operand} {fid : FuncId} {caps : List PV} {σ : St} {h : Nat → PV}
    (hv : Vw h σ) (ho : o.op = .call c) (hcal : c.callee = .value x) (hx : σ.eval x = .clo fid caps) {nm : Nat} {k : List Upd → Prop} (hk : callQ C io False h nm o fid (c.args.toList.map σ.eval ++ caps) k) : ∃ us, k us ∧ OpOk P nm o σ us := by
  have args : ∀ {X W0 : Foot} {w0 : World} {D : Nat → Prop} {a : Act} {w : World} {env : Nat → Value} {F : Nat → Foot}, Rl X W0 w0 D σ a w env F → ∃ cus, a.eval x = .func (.func fid) #[] cus.toArray ∧ PRs env D w (Ow X F) (c.args.toList.map σ.eval ++ caps) (c.args.toList.map a.eval ++ cus) := by
    intro X W0 w0 D a w env F hR
    have hxe := hR.ev x
    rw [hx] at hxe
    simp only [PR] at hxe
    obtain ⟨cus, hxe, hcus⟩ := hxe
    refine ⟨cus, hxe, (PRs_append _ _ _).2 ⟨_, _, rfl, ?_, hcus⟩⟩
    refine (PRs_iff _ _).2 ⟨by simp, fun i p u hp hu => ?_⟩
    rw [List.getElem?_map] at hp hu
    obtain ⟨y, hy, rfl⟩ := Option.map_eq_some_iff.1 hp
    rw [hy] at hu
    simp only [Option.map_some, Option.some.injEq] at hu
    subst hu
    exact hR.ev y
  have run : ∀ {a : Act} {w : World} {cus : List Value}, (∀ args w, (callFunc fid args).run P w = .ok (.enter fid args) w) → a.eval x = .func (.func fid) #[] cus.toArray → (execOp a.eval o).run P w = .ok (.enter fid (c.args.toList.map a.eval ++ cus).toArray) w := by
    intro a w cus hfn hxe
    have e1 : (execOp a.eval o) = (do let d ← resolve a.eval c o.type; invoke d.target d.args) := by simp only [execOp, ho]
    rw [e1, Sem.run_bind]
    simp only [resolve, hcal, hxe, Deferred.ofValue, Sem.run_pure, Result.andThen_ok, invoke]
    rw [hfn]
    congr 2
    apply Array.ext'
    simp
  rcases callQ_or io h nm o fid (c.args.toList.map σ.eval ++ caps) with ⟨cs, p, hps2, hq⟩ | hq
  · rw [hq] at hk
    obtain ⟨us, outs, res, hk, hrel, hok, hback⟩ := callP_ok hC hv hk
    have hrel2 := (FnRel.packed (P := P) (f := fid)).1 hrel
    obtain ⟨hfn, hrel⟩ := hrel2
    refine ⟨_, hk, ?_⟩
    intro X W0 w0 D a w K Q hfr hR hk'
    obtain ⟨env, F, hR⟩ := hR
    obtain ⟨cus, hxe, hps⟩ := args hR
    rw [hps2] at hps
    simp only [PRs, PR] at hps
    obtain ⟨_, _, hvals, ⟨vs, rfl, hvs⟩, u, _, rfl, hu, rfl⟩ := hps
    have hps' : PRs env D w (Ow X F) (cs ++ [p]) (vs ++ [u]) := (PRs_append _ _ _).2 ⟨_, _, rfl, hvs, by simp only [PRs]; exact ⟨u, [], rfl, hu, rfl⟩⟩
    have hpre := hR.pre hv hps' hok
    unfold Oper.wp
    rw [run hfn hxe, Oper.upon_enter, hvals]
    refine Calls.mono (hrel _ _ _ _ _ hpre) ?_
    rintro e w' ⟨v, H, rfl, post⟩
    exact hback _ _ _ _ _ _ _ _ _ _ hfr hR hps' hk' v H w' post
  · rw [hq] at hk
    split at hk
    · rename_i hf
      obtain ⟨us, outs, res, hk, hrel, hok, hback⟩ := callP_ok hC hv hk
      refine ⟨_, hk, ?_⟩
      intro X W0 w0 D a w K Q hfr hR hk'
      obtain ⟨env, F, hR⟩ := hR
      obtain ⟨cus, hxe, hps⟩ := args hR
      have hpre := hR.pre hv hps hok
      obtain ⟨hfn, hrel⟩ := hrel.lt hf
      unfold Oper.wp
      rw [run hfn hxe, Oper.upon_enter]
      refine Calls.mono (hrel _ _ _ _ hpre) ?_
      rintro e w' ⟨v, H, rfl, post⟩
      exact hback _ _ _ _ _ _ _ _ _ _ hfr hR hps hk' v H w' post
    · exact hk.elim
end Go.Proofs.Ytlpooghphoohcaa.R
