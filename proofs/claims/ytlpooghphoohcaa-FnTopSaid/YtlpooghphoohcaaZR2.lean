/- How the code is read: plain states and the machine. Texts joined, in their order. -/
import Derived.Test.YtlpooghphoohcaaZR1
import Derived.Laws.IdiomCopy
import Derived.Great.BuildSlice
import Derived.Maps.AppendAt
import Derived.Laws.Tables
/- Writing: new variables and rows, stores, what is no longer written. -/
namespace Go.Proofs.Ytlpooghphoohcaa.R
open Go.RowKit
set_option linter.unusedVariables false
set_option linter.unusedSimpArgs false

section
variable {X W0 : Foot} {w0 : World} {D : Nat → Prop} {σ : St} {a : Act} {w : World} {env : Nat → Value} {F : Nat → Foot}
theorem Rl.dom (h : Rl X W0 w0 D σ a w env F) {N : Nat} (hN : look σ.ob N ≠ .dead) : D N := Classical.byContradiction fun hd => hN (h.dm N hd)
theorem R.of (h : Rl X W0 w0 D σ a w env F) : R X W0 w0 D σ a w := ⟨env, F, h⟩
/-- A row that is no longer written is read as before. -/
theorem row_val {env' : Nat → Value} {D' : Nat → Prop} {w' : World} {O : Foot} {v : Value} {e : TypeId} {t : Ty} {xs : List t.El} {us : List Value} (ho : w'.ownsRow 0 e t.sz v xs.length us) (hr : RVs w' O t xs us)
    (hO : ∀ b o, v.ownBlock = some b → ¬ O b o) : RV w' O (.sl t) xs [v] := by
  obtain ⟨aa, c, he, hcap, hg⟩ := own_form ho
  refine RV_sl.2 ⟨aa, c, us, he, hr, fun hne => ?_, hcap⟩
  obtain ⟨g, rfl⟩ := hg hne
  refine ⟨g, 0, rfl, fun j u hu => ⟨?_, hO _ _ (by rw [he]; rfl)⟩⟩
  have := ho.cells (g := g) (by rw [he]; rfl) j u hu
  rwa [add_at] at this
/-- The same domain, once a name of it has been told anew. -/
theorem Rl.sameD {N : Nat} {σ' : St} {a' : Act} {w' : World} {env' : Nat → Value} {F' : Nat → Foot} (h : Rl X W0 w0 (fun M => D M ∨ M = N) σ' a' w' env' F') (hd : D N) : Rl X W0 w0 D σ' a' w' env' F' := by
  have : (fun M => D M ∨ M = N) = D := by
    funext M
    exact propext ⟨fun h => h.elim id (fun e => e ▸ hd), .inl⟩
  rwa [this] at h
/-- A row of rows that is no longer written is read as before. -/
theorem mat_val {env0 : Nat → Value} {D0 : Nat → Prop} {w' : World} {O : Foot} {v : Value} {e e' : TypeId} {t : Ty} {xs : List (List t.El)} {us : List Value} (h : MatOk env0 D0 w' v e e' t xs none us)
    (hO : ∀ b o, matF v none us b o → ¬ O b o) : RV w' O (.sl (.sl t)) xs [v] := by
  have hl : us.length = xs.length := by rw [h.own.1, Nat.mul_one]
  refine row_val (env' := env0) (D' := D0) (w' := w') (e := e) (t := .sl t) (us := us) h.own ⟨hl.trans (Nat.mul_one _).symm, fun i hi => ?_⟩ fun b o hb => hO b o (.inl hb)
  have hi : i < List.length (α := List t.El) xs := hi
  have hi' : i < us.length := by omega
  obtain ⟨vs, h1, h2⟩ := h.row i us[i] xs[i] (List.getElem?_eq_getElem hi') (List.getElem?_eq_getElem hi) rfl
  show RV w' O (.sl t) (xs.get ⟨i, hi⟩) ((us.drop (i * 1)).take 1)
  rw [Nat.mul_one, List.drop_eq_getElem_cons hi', List.take_succ_cons, List.take_zero]
  exact row_val (env' := env0) (D' := D0) h1 (h2.any h.flat) fun b o hb => hO b o (.inr ⟨i, _, rfl, List.getElem?_eq_getElem hi', hb⟩)
/-- An object that is no longer written. -/
theorem frzV_ok (h : Rl X W0 w0 D σ a w env F) {N : Nat} {p q : PV} (ho : look σ.ob N = p) (hq : frzV p = some q) {F1 : Nat → Foot} (h3 : ∀ M, M ≠ N → F1 M = F M) (h4 : ∀ b o, ¬ F1 N b o) : OB env D w (Ow X F1) (env N) q (fun _ _ => False) := by
  have hs : Stb w (Ow X F) w (Ow X F1) := fun b o u hc ho => ⟨hc, fun hx => ho (hx.imp id fun ⟨M, hM⟩ => by
    by_cases e : M = N
    · subst e; exact (h4 b o hM).elim
    · exact ⟨M, by rw [← h3 M e]; exact hM⟩)⟩
  have hno : ∀ b o, F N b o → ¬ Ow X F1 b o := by
    rintro b o hb (hx | ⟨M, hM⟩)
    · exact h.xf N b o hb hx
    · by_cases e : M = N
      · subst e; exact h4 b o hM
      · rw [h3 M e] at hM
        exact h.dj M N b o e hM hb
  have hob := h.ob N
  rw [ho] at hob
  cases p <;> simp only [frzV, Option.some.injEq, reduceCtorEq] at hq <;> subst hq
  · simp only [OB] at hob
    obtain ⟨us, hown, hr, hF⟩ := hob
    simp only [OB, PR]
    exact ⟨row_val (env' := env) (D' := D) hown (hr.mono hs) fun b o hb => hno b o (by rw [hF]; exact hb), trivial⟩
  · simp only [OB, PR]
    exact ⟨trivial, trivial⟩
  · simp only [OB] at hob
    obtain ⟨us, hm, hF⟩ := hob
    simp only [OB, PR]
    exact ⟨mat_val hm fun b o hb => hno b o (by rw [hF]; exact hb), trivial⟩
  · simp only [OB, PR]
    exact ⟨trivial, trivial⟩
theorem PRs_rd1 {O' : Foot} {D' : Nat → Prop} {env' : Nat → Value} {w' : World} {h : Nat → PV} : (cs : List PV) → (us : List Value) → PRs env D w (Ow X F) cs us →
    (∀ p v, PR env D w (Ow X F) p v → PR env' D' w' O' (rd1 h p) v) → PRs env' D' w' O' (cs.map (rd1 h)) us
  | [], us, hp, _ => by simpa [PRs] using hp
  | p :: ps, us, hp, hr => by
    simp only [List.map_cons, PRs] at hp ⊢
    obtain ⟨u, us', rfl, h1, h2⟩ := hp
    exact ⟨u, us', rfl, hr p u h1, PRs_rd1 ps us' h2 hr⟩
/-- A cell read, as one who owns less sees it. -/
theorem Rl.rd1 (hR : Rl X W0 w0 D σ a w env F) {h : Nat → PV} (hv : Vw h σ) {O' : Foot} (hO : ∀ b o, O' b o → Ow X F b o) {env' : Nat → Value} {D' : Nat → Prop} {p : PV} {v : Value}
    (hn : ∀ N, N ∈ p.nm1 → h N ≠ .dead → ∀ b o, F N b o → ¬ O' b o) (hp : PR env D w (Ow X F) p v) : PR env' D' w O' (Go.Proofs.Ytlpooghphoohcaa.R.rd1 h p) v := by
  have hs : Stb w (Ow X F) w O' := fun b o u h1 h2 => ⟨h1, fun h => h2 (hO b o h)⟩
  cases p with
  | val t x => simp only [Go.Proofs.Ytlpooghphoohcaa.R.rd1, PR] at hp ⊢; exact RV.mono hs t hp
  | tst c d => simp only [Go.Proofs.Ytlpooghphoohcaa.R.rd1, PR, RV] at hp ⊢; rw [hp]
  | nil => simp only [Go.Proofs.Ytlpooghphoohcaa.R.rd1, PR] at hp ⊢; exact hp
  | row e t xs => simp only [PR] at hp
  | box cs => simp only [PR] at hp
  | pt cs =>
    simp only [Go.Proofs.Ytlpooghphoohcaa.R.rd1, PR] at hp ⊢
    obtain ⟨b, o, us, rfl, h1, h2⟩ := hp
    exact ⟨b, o, us, rfl, PRs.mono hs (fun _ h => h.elim) (fun _ h => h.elim) _ _ h1, h2.mono hs⟩
  | agg cs => simp only [Go.Proofs.Ytlpooghphoohcaa.R.rd1, PR]
  | tup cs => simp only [Go.Proofs.Ytlpooghphoohcaa.R.rd1, PR]
  | cp N i s j => simp only [Go.Proofs.Ytlpooghphoohcaa.R.rd1, PR]
  | mat e e' t xs => simp only [PR] at hp
  | hol e e' t xs i M => simp only [PR] at hp
  | clo f cs => simp only [Go.Proofs.Ytlpooghphoohcaa.R.rd1, PR]
  | dead => simp only [Go.Proofs.Ytlpooghphoohcaa.R.rd1, PR]
  | ref N =>
    simp only [PR] at hp
    obtain ⟨hd, rfl⟩ := hp
    have hob := hR.ob N
    simp only [Go.Proofs.Ytlpooghphoohcaa.R.rd1]
    split
    · rename_i e t xs hN
      rw [hv.eq hN (by simp)] at hob
      simp only [OB] at hob
      obtain ⟨us, ho, hr, hF⟩ := hob
      simp only [PR]
      refine row_val (env' := env) (D' := D) ho (hr.mono hs) fun b o hb hOb => ?_
      exact hn N (by simp [PV.nm1]) (by rw [hN]; simp) b o (by rw [hF]; exact hb) hOb
    · rename_i t x hN
      rw [hv.eq hN (by simp)] at hob
      simp only [OB, PR] at hob ⊢
      exact RV.mono hs t hob.1
    · rename_i cs hN
      rw [hv.eq hN (by simp)] at hob
      simp only [OB] at hob
      simp only [PR] at hob ⊢
      obtain ⟨⟨b, o, us, he, h1, h2⟩, _⟩ := hob
      exact ⟨b, o, us, he, PRs.mono hs (fun _ h => h.elim) (fun _ h => h.elim) _ _ h1, h2.mono hs⟩
    · rename_i e e' t xs hN
      rw [hv.eq hN (by simp)] at hob
      simp only [OB] at hob
      obtain ⟨us, hm, hF⟩ := hob
      simp only [PR]
      exact mat_val hm fun b o hb hOb => hn N (by simp [PV.nm1]) (by rw [hN]; simp) b o (by rw [hF]; exact hb) hOb
    · simp only [PR]
  | win N s lo n =>
    simp only [PR] at hp
    obtain ⟨hd, hle, aa, c, rfl, hc', hm⟩ := hp
    have key : h N ≠ .dead → ∀ (t : Ty) (xs : List t.El), (∃ e, look σ.ob N = .row e t xs) ∨ look σ.ob N = .val (.sl t) xs → s = t.sz → RV w O' (.sl t) ((xs.drop lo).take n) [.slice aa n c] := by
      intro hnd t xs ho hs'
      obtain ⟨aa', c', us, hen, hr, hm', hcap⟩ := hR.hdr ho
      rw [hen] at hle hm
      simp only [hlen] at hle
      have hl := len_part xs hle
      refine RV_sl.2 ⟨aa, c, _, by rw [hl], (hr.mono hs).part hle, fun hne => ?_, by rw [hl]; exact hc'⟩
      have hn0 : n ≠ 0 := by rintro rfl; simp at hne
      obtain ⟨b, o, hbb, rfl⟩ := hm hn0
      obtain ⟨b', o', rfl, hl'⟩ := hm' (hr.pos (i := lo) (by omega))
      simp only [hb, Option.some.injEq, Prod.mk.injEq] at hbb
      obtain ⟨rfl, rfl⟩ := hbb
      refine ⟨b', _, rfl, fun j u hu => ?_⟩
      rw [List.getElem?_take] at hu
      split at hu
      · rw [List.getElem?_drop] at hu
        have hcl := hl' _ _ hu
        rw [hs', Nat.add_assoc]
        refine ⟨hcl, fun hOb => ?_⟩
        -- the cell is the object's own, or no one's
        have hob := hR.ob N
        rcases ho with ⟨e, ho⟩ | ho
        · rw [ho] at hob
          simp only [OB] at hob
          obtain ⟨us2, _, _, hF⟩ := hob
          exact hn N (by simp [PV.nm1]) hnd b' _ (by rw [hF, hen]; rfl) hOb
        · rw [ho] at hob
          simp only [OB, PR] at hob
          obtain ⟨aa2, c2, us2, he2, hr2, hm2, _⟩ := RV_sl.1 hob.1
          rw [hen] at he2
          injection he2 with e1 e2 e3
          have hne2 : us2 ≠ [] := hr2.pos (i := lo) (by omega)
          obtain ⟨b2, o2, e4, hl2⟩ := hm2 hne2
          rw [← e1] at e4
          injection e4 with e4
          injection e4 with e5 e6
          subst e5 e6
          have hj : lo * t.sz + j < us2.length := by
            have h1 := (List.getElem?_eq_some_iff.1 hu).1
            rw [hr.1] at h1
            rw [hr2.1]
            exact h1
          exact (hl2 _ _ (List.getElem?_eq_getElem hj)).2 (hO _ _ hOb)
      · cases hu
    simp only [Go.Proofs.Ytlpooghphoohcaa.R.rd1]
    split
    · rename_i e t xs hN
      split
      · simp only [PR]
        exact key (by rw [hN]; simp) t xs (.inl ⟨e, hv.eq hN (by simp)⟩) ‹_›
      · simp only [PR]
    · rename_i t xs hN
      split
      · simp only [PR]
        exact key (by rw [hN]; simp) t xs (.inr (hv.eq hN (by simp))) ‹_›
      · simp only [PR]
    · simp only [PR]
end
end Go.Proofs.Ytlpooghphoohcaa.R
/- Stores. -/
namespace Go.Proofs.Ytlpooghphoohcaa.R
open Go.RowKit
set_option linter.unusedVariables false
set_option linter.unusedSimpArgs false

theorem Keep.mono {W V : Foot} {w w' : World} (h : Keep W w w') (hw : ∀ b o, W b o → V b o) : Keep V w w' :=
  ⟨h.os, h.tape, h.output, h.size, fun b hb => (h.block b hb).mono (hw b)⟩
theorem Keep.setCell (w : World) (b o : Nat) (v : Value) : Keep (fun b' o' => b' = b ∧ o' = o) w (w.setCell ⟨b, o, none⟩ v) := by
  refine ⟨rfl, rfl, rfl, by simp [World.setCell], fun k hk => ?_⟩
  by_cases e : k = b
  · subst e
    have hg : w.heap[k]? = some w.heap[k] := Array.getElem?_eq_getElem hk
    simp only [World.setCell, Array.getElem?_modify, if_true, hg]
    cases ho : w.heap[k] with
    | cells c el f =>
      right
      right
      refine ⟨c, c.setIfInBounds o v, el, f, rfl, ?_, by simp, fun i hi => ?_⟩
      · simp
      · rw [Array.getElem?_setIfInBounds_ne]
        exact fun e => hi ⟨trivial, e.symm⟩
    | _ => right; left; simp
  · exact .inr (.inl (Below.heap_setCell w ⟨b, o, none⟩ v k e).symm)
theorem Keep.setCells (b : Nat) : (vs : List Value) → (o : Nat) → (w : World) → Keep (fun b' o' => b' = b ∧ o ≤ o' ∧ o' < o + vs.length) w (w.setCells b o vs)
  | [], o, w => Keep.refl _ w
  | v :: r, o, w => by
    simp only [World.setCells]
    refine Keep.trans ((Keep.setCell w b o v).mono ?_) (Keep.setCells b r (o + 1) _) ?_
    · rintro b' o' ⟨rfl, rfl⟩
      exact ⟨rfl, Nat.le_refl _, by simp⟩
    · rintro b' o' _ ⟨rfl, h1, h2⟩
      exact ⟨rfl, by omega, by simp; omega⟩
def spl (us : List Value) (o : Nat) (vs : List Value) : List Value := us.take o ++ vs ++ us.drop (o + vs.length)
theorem spl_len {us vs : List Value} {o : Nat} (h : o + vs.length ≤ us.length) : (spl us o vs).length = us.length := by
  simp [spl]; omega
theorem spl_get {us vs : List Value} {o : Nat} (h : o + vs.length ≤ us.length) (m : Nat) : (spl us o vs)[m]? = if o ≤ m ∧ m < o + vs.length then vs[m - o]? else us[m]? := by
  unfold spl
  by_cases h1 : m < o
  · rw [List.append_assoc, List.getElem?_append_left (by simp; omega), List.getElem?_take, if_pos h1, if_neg (by omega)]
  · by_cases h2 : m < o + vs.length
    · rw [List.getElem?_append_left (by simp; omega), List.getElem?_append_right (by simp; omega), if_pos ⟨by omega, h2⟩]
      simp only [List.length_take]
      rw [Nat.min_eq_left (by omega)]
    · rw [List.getElem?_append_right (by simp; omega), List.getElem?_drop, if_neg (by omega)]
      congr 1
      simp
      omega
theorem spl_cons {us r : List Value} {v : Value} {o : Nat} (h : o + (r.length + 1) ≤ us.length) : spl us o (v :: r) = spl (us.set o v) (o + 1) r := by
  apply List.ext_getElem?
  intro m
  rw [spl_get (by simpa using h), spl_get (by simp; omega)]
  simp only [List.length_cons, List.getElem?_set]
  by_cases h1 : o + 1 ≤ m ∧ m < o + 1 + r.length
  · rw [if_pos h1, if_pos (by omega)]
    rw [show m - o = (m - (o + 1)) + 1 by omega, List.getElem?_cons_succ]
  · rw [if_neg h1]
    by_cases h2 : o = m
    · subst h2
      rw [if_pos (by omega)]
      simp
      omega
    · rw [if_neg h2, if_neg (by omega)]
theorem own_setCells {base e size g n cap : Nat} : (vs : List Value) → (o : Nat) → (w : World) → (us : List Value) → w.ownsRow base e size (.slice (some ⟨g, 0, none⟩) n cap) n us → o + vs.length ≤ us.length →
    (w.setCells g o vs).ownsRow base e size (.slice (some ⟨g, 0, none⟩) n cap) n (spl us o vs)
  | [], o, w, us, h, _ => by simpa [spl, World.setCells] using h
  | v :: r, o, w, us, h, hl => by
    simp only [World.setCells]
    simp only [List.length_cons] at hl
    rw [spl_cons hl]
    exact own_setCells r (o + 1) _ _ (h.stored o v).1 (by simp; omega)
theorem PRs.splice {env : Nat → Value} {D : Nat → Prop} {w : World} {O : Foot} {ps qs : List PV} {us vs : List Value} {j : Nat} (h : PRs env D w O ps us) (k : PRs env D w O qs vs) : PRs env D w O (splice ps j qs) (spl us j vs) := by
  unfold Go.Proofs.Ytlpooghphoohcaa.R.splice spl
  rw [PRs_append]
  refine ⟨_, _, rfl, (PRs_append _ _ _).2 ⟨_, _, rfl, h.take j, k⟩, ?_⟩
  rw [k.len]
  exact h.drop _
theorem ofPV_ok {env : Nat → Value} {D : Nat → Prop} {w : World} {O : Foot} {t : Ty} {p : PV} {x : t.El} {v : Value} (h : ofPV t p = some x) (hp : PR env D w O p v) : RV w O t x [v] := by
  cases p with
  | val t' x' =>
    simp only [ofPV] at h
    split at h
    · rename_i e
      subst e
      injection h with h
      subst h
      simpa [PR] using hp
    · cases h
  | tst c d =>
    simp only [ofPV] at h
    split at h
    · rename_i e
      subst e
      injection h with h
      subst h
      simp only [PR] at hp
      subst hp
      simp [RV]
    · cases h
  | nil =>
    simp only [PR] at hp
    subst hp
    cases t with
    | sl t =>
      simp only [ofPV] at h
      injection h with h
      subst h
      exact RV_sl.2 ⟨none, 0, [], rfl, ⟨by simp, fun i hi => absurd hi (by simp)⟩, fun h => absurd rfl h, by simp⟩
    | _ => simp [ofPV] at h
  | _ => simp [ofPV] at h
theorem ofCells_ok {env : Nat → Value} {D : Nat → Prop} {w : World} {O : Foot} : (t : Ty) → (cs : List PV) → (x : t.El) → (cs' : List PV) → (us : List Value) → ofCells t cs = some (x, cs') → PRs env D w O cs us →
    ∃ us1 us2, us = us1 ++ us2 ∧ RV w O t x us1 ∧ PRs env D w O cs' us2
  | .pair a b, cs, x, cs', us, h, hp => by
    simp only [ofCells] at h
    cases h1 : ofCells a cs with
    | none => simp [h1] at h
    | some q =>
      obtain ⟨y, c1⟩ := q
      simp only [h1] at h
      cases h2 : ofCells b c1 with
      | none => simp [h2] at h
      | some q =>
        obtain ⟨z, c2⟩ := q
        simp only [h2, Option.some.injEq, Prod.mk.injEq] at h
        obtain ⟨rfl, rfl⟩ := h
        obtain ⟨u1, u2, rfl, h3, h4⟩ := ofCells_ok a cs y c1 us h1 hp
        obtain ⟨u3, u4, rfl, h5, h6⟩ := ofCells_ok b c1 _ _ u2 h2 h4
        refine ⟨u1 ++ u3, u4, by simp, ?_, h6⟩
        simp only [RV]
        exact ⟨u1, u3, rfl, h3, h5⟩
  | .int k, [], x, cs', us, h, hp => by simp [ofCells] at h
  | .bool, [], x, cs', us, h, hp => by simp [ofCells] at h
  | .str, [], x, cs', us, h, hp => by simp [ofCells] at h
  | .flt k, [], x, cs', us, h, hp => by simp [ofCells] at h
  | .sl t, [], x, cs', us, h, hp => by simp [ofCells] at h
  | .int k, c :: cs, x, cs', us, h, hp => by
    simp only [ofCells] at h
    split at h
    · rename_i y hy
      simp only [Option.some.injEq, Prod.mk.injEq] at h
      obtain ⟨rfl, rfl⟩ := h
      simp only [PRs] at hp
      obtain ⟨u, us', rfl, h1, h2⟩ := hp
      exact ⟨[u], us', rfl, ofPV_ok hy h1, h2⟩
    · cases h
  | .bool, c :: cs, x, cs', us, h, hp => by
    simp only [ofCells] at h
    split at h
    · rename_i y hy
      simp only [Option.some.injEq, Prod.mk.injEq] at h
      obtain ⟨rfl, rfl⟩ := h
      simp only [PRs] at hp
      obtain ⟨u, us', rfl, h1, h2⟩ := hp
      exact ⟨[u], us', rfl, ofPV_ok hy h1, h2⟩
    · cases h
  | .str, c :: cs, x, cs', us, h, hp => by
    simp only [ofCells] at h
    split at h
    · rename_i y hy
      simp only [Option.some.injEq, Prod.mk.injEq] at h
      obtain ⟨rfl, rfl⟩ := h
      simp only [PRs] at hp
      obtain ⟨u, us', rfl, h1, h2⟩ := hp
      exact ⟨[u], us', rfl, ofPV_ok hy h1, h2⟩
    · cases h
  | .flt k, c :: cs, x, cs', us, h, hp => by
    simp only [ofCells] at h
    split at h
    · rename_i y hy
      simp only [Option.some.injEq, Prod.mk.injEq] at h
      obtain ⟨rfl, rfl⟩ := h
      simp only [PRs] at hp
      obtain ⟨u, us', rfl, h1, h2⟩ := hp
      exact ⟨[u], us', rfl, ofPV_ok hy h1, h2⟩
    · cases h
  | .sl t, c :: cs, x, cs', us, h, hp => by
    simp only [ofCells] at h
    split at h
    · rename_i y hy
      simp only [Option.some.injEq, Prod.mk.injEq] at h
      obtain ⟨rfl, rfl⟩ := h
      simp only [PRs] at hp
      obtain ⟨u, us', rfl, h1, h2⟩ := hp
      exact ⟨[u], us', rfl, ofPV_ok hy h1, h2⟩
    · cases h
end Go.Proofs.Ytlpooghphoohcaa.R
/- Stores, done. -/
namespace Go.Proofs.Ytlpooghphoohcaa.R
open Go.RowKit
set_option linter.unusedVariables false
set_option linter.unusedSimpArgs false

section
variable {X W0 : Foot} {w0 : World} {D : Nat → Prop} {σ : St} {a : Act} {w : World} {env : Nat → Value} {F : Nat → Foot}
theorem Rl.congr {σ' : St} (h : Rl X W0 w0 D σ a w env F) (hs : σ'.sl = σ.sl) (ho : ∀ N, look σ'.ob N = look σ.ob N) : Rl X W0 w0 D σ' a w env F :=
  ⟨by rw [hs]; exact h.tm, h.df, fun t => by have := h.sl t; simpa only [St.get, hs] using this, fun N => by rw [ho]; exact h.ob N, h.dj, h.xf, h.lt, h.xl, h.own, h.kp, fun N hN => by rw [ho]; exact h.dm N hN, h.hd⟩
theorem Rl.same (h : Rl X W0 w0 D σ a w env F) {N : Nat} {p : PV} (e : look σ.ob N = p) : Rl X W0 w0 D (σ.upd (.ob N p)) a w env F :=
  h.congr rfl fun M => by
    simp only [St.upd, look_upd]
    split
    · rename_i e'; rw [← e', e]
    · rfl
theorem Rl.drop1 (h : Rl X W0 w0 D σ a w env F) {N : Nat} (hd : D N) : On X W0 w0 D w env F D (σ.upd (.ob N .dead)) a w := by
  obtain ⟨h1, h2, h3⟩ := h.one N .dead (Keep.refl (fun _ _ => False) w) (fun _ _ h => h.elim) (G := fun _ _ => False) (fun _ _ h => h.elim) (fun _ _ h => h.elim) (v := env N) (fun _ => rfl) (h.hd N hd) (by
    intro env' _ _ hs
    simp only [OB, PR]
    exact ⟨trivial, trivial⟩)
  exact ⟨_, _, h1.sameD hd, h2, h3⟩
def Fz (h : Nat → PV) (σ : St) : Prop := ∀ N, h N = look σ.ob N ∨ h N = .dead ∨ ∃ q, frzV (h N) = some q ∧ look σ.ob N = q
theorem Vw.fz {h : Nat → PV} (v : Vw h σ) : Fz h σ := fun N => (v N).imp id .inl
theorem frz_sl (h : Nat → PV) : (L : List Nat) → (σ : St) → (σ.apply (L.flatMap (frz h))).sl = σ.sl
  | [], σ => rfl
  | N :: L, σ => by
    rw [List.flatMap_cons, St.apply_append, frz_sl h L]
    unfold frz
    split <;> rfl
theorem frz_out (h : Nat → PV) {M : Nat} : (L : List Nat) → (σ : St) → M ∉ L → look (σ.apply (L.flatMap (frz h))).ob M = look σ.ob M
  | [], σ, _ => rfl
  | N :: L, σ, hM => by
    simp only [List.mem_cons, not_or] at hM
    rw [List.flatMap_cons, St.apply_append, frz_out h L _ hM.2]
    unfold frz
    split <;> simp [St.apply, St.upd, look_upd, Ne.symm hM.1]
theorem one_cell (hR : Rl X W0 w0 D σ a w env F) {p : PV} {v : Value} (ho : p.one = true) (hp : PR env D w (Ow X F) p v) : v.oneCell' = true := by
  cases p with
  | val t x =>
    simp only [PR] at hp
    cases t with
    | pair a b =>
      have := RV.len _ hp
      have h1 := a.sz_pos
      have h2 := b.sz_pos
      simp only [Ty.sz, List.length_singleton] at this
      omega
    | sl t =>
      obtain ⟨aa, c, us, rfl, _⟩ := RV_sl.1 hp
      rfl
    | _ =>
      simp only [RV, List.cons.injEq, and_true] at hp
      subst hp
      rfl
  | tst c d => simp only [PR] at hp; subst hp; rfl
  | nil => simp only [PR] at hp; subst hp; rfl
  | pt cs => simp only [PR] at hp; obtain ⟨_, _, _, rfl, _⟩ := hp; rfl
  | ref N =>
    simp only [PR] at hp
    obtain ⟨hd, rfl⟩ := hp
    rcases hR.hd N hd with ⟨_, _, _, e⟩ | ⟨_, e⟩ <;> rw [e] <;> rfl
  | win N s lo n => simp only [PR] at hp; obtain ⟨_, _, _, _, rfl, _⟩ := hp; rfl
  | cp N i s j => simp only [PR] at hp; obtain ⟨_, _, _, _, _, rfl⟩ := hp; rfl
  | clo f cs => simp only [PR] at hp; obtain ⟨_, rfl, _⟩ := hp; rfl
  | _ => simp [PV.one] at ho
theorem cells_of_one {v : Value} (h : v.oneCell' = true) : v.cells = #[v] := by
  cases v <;> first | rfl | cases h
theorem cells_ok (hR : Rl X W0 w0 D σ a w env F) {p : PV} {v : Value} (ho : p.cells.all PV.one = true) (hp : PR env D w (Ow X F) p v) :
    ∃ us, v.cells = us.toArray ∧ PRs env D w (Ow X F) p.cells us ∧ ∀ u ∈ us, u.oneCell' = true := by
  by_cases hag : ∃ cs, p = .agg cs
  · obtain ⟨cs, rfl⟩ := hag
    simp only [PR] at hp
    obtain ⟨us, rfl, h1⟩ := hp
    refine ⟨us, rfl, h1, fun u hu => ?_⟩
    obtain ⟨i, hi⟩ := List.mem_iff_getElem?.1 hu
    have hl := h1.len
    have hlt : i < cs.length := by have := (List.getElem?_eq_some_iff.1 hi).1; omega
    have hpi := ((PRs_iff _ _).1 h1).2 i cs[i] u (List.getElem?_eq_getElem hlt) hi
    exact one_cell hR (by simp only [PV.cells, List.all_eq_true] at ho; exact ho _ (List.getElem_mem hlt)) hpi
  · have hc : p.cells = [p] := by
      cases p <;> first | rfl | exact absurd ⟨_, rfl⟩ hag
    rw [hc] at ho ⊢
    have h1 := one_cell hR (by simpa using ho) hp
    exact ⟨[v], by rw [cells_of_one h1], PRs_one.2 ⟨v, rfl, hp⟩, by simpa using h1⟩
theorem nmL_mem {cs : List PV} {p : PV} {N : Nat} (hp : p ∈ cs) (hN : N ∈ p.nm1) : N ∈ nmL cs := List.mem_flatMap.2 ⟨p, hp, hN⟩
end
theorem run_store_at {P : Program} {t : TypeId} {b o : Nat} {v : Value} {us : List Value} {w : World} (hv : v.cells = us.toArray) (hl : us.length = szOf P t) (hpos : 0 < szOf P t) (h1 : ∀ u ∈ us, u.oneCell' = true)
    (hc : ∀ j, j < us.length → (cl w b (o + j)).isSome = true) (hf : ∀ j, j < us.length → w.frozen? ⟨b, o + j, none⟩ = false) :
    (Instr.storeAt t (.pointer (some ⟨b, o, none⟩)) v).run P w = .ok () (w.setCells b o us) := by
  obtain ⟨i, hi, hsz⟩ := szOf_pos hpos
  have hr := run_storeCells_cells (P := P) b o us 0 w (by simpa [cl] using hc) (by simpa using hf) h1
  have hsize : ¬ us.length ≠ i.size := by omega
  simp only [Instr.storeAt, Instr.sureAddr, storeVar, hv, Sem.run_bind, Sem.run_pure, Result.andThen_ok, sizeOf, typeInfo, run_program, hi, List.size_toArray]
  simp only [hsize, if_false, Sem.run_pure, Result.andThen_ok]
  simpa using hr
/-- A store ends: the result is nothing. -/
theorem On.skip {X W0 : Foot} {w0 : World} {D D' : Nat → Prop} {σ' : St} {a : Act} {w w' : World} {env : Nat → Value} {F : Nat → Foot} {nm : Nat} (o : Oper) (h : On X W0 w0 D w env F D' σ' a w') (hD : ∀ M, D' M → Fresh D nm M) :
    R X W0 w0 (Fresh D nm) (σ'.apply (Go.Proofs.Ytlpooghphoohcaa.R.put o .dead)) (a.put o.dst undef) w' := by
  obtain ⟨env', F', h1, _, _⟩ := h
  exact R.grow (R.of (h1.puto o (v := undef) (by simp only [PR]))) hD
theorem storeBox_ok {P : Program} {o : Oper} {t : TypeId} {x y : Operand} {σ : St} (ho : o.op = .store t x y) {nm : Nat} {N j : Nat} {bs : List PV} (hN : look σ.ob N = .box bs)
    (hx : (σ.eval x = .ref N ∧ j = 0) ∨ ∃ i s, σ.eval x = .cp N i s j ∧ i * s = 0) (hl : (σ.eval y).cells.length = szOf P t) (hone : (σ.eval y).cells.all PV.one = true) (hpos : 0 < szOf P t) (hle : j + (σ.eval y).cells.length ≤ bs.length) :
    OpOk P nm o σ (.ob N (.box (splice bs j (σ.eval y).cells)) :: Go.Proofs.Ytlpooghphoohcaa.R.put o .dead) := by
  intro X W0 w0 D a w K Q hfr hR hk
  obtain ⟨env, F, hR⟩ := hR
  have hd : D N := hR.dom (by rw [hN]; simp)
  have hob := hR.ob N
  rw [hN] at hob
  simp only [OB] at hob
  obtain ⟨b, oo, us, he, hp, hh, hF⟩ := hob
  obtain ⟨vs, hvs, hpv, h1⟩ := cells_ok hR hone (hR.ev y)
  have hlv := hpv.len
  have hlu := hp.len
  have ha : a.eval x = .pointer (some ⟨b, oo + j, none⟩) := by
    have hex := hR.ev x
    rcases hx with ⟨hx, rfl⟩ | ⟨i, s, hx, hz⟩
    · rw [hx] at hex
      simp only [PR] at hex
      rw [hex.2, he]
      rfl
    · rw [hx] at hex
      simp only [PR] at hex
      obtain ⟨_, _, b', o', hbb, hv⟩ := hex
      rw [he] at hbb
      simp only [hb, Option.some.injEq, Prod.mk.injEq] at hbb
      obtain ⟨rfl, rfl⟩ := hbb
      rw [hv, hz]
      simp
  have hcell : ∀ k, k < vs.length → cl w b (oo + j + k) = us[j + k]? ∧ w.frozen? ⟨b, oo + j + k, none⟩ = false := by
    intro k hk
    have hlt : j + k < us.length := by omega
    have := hh (j + k) us[j + k] (List.getElem?_eq_getElem hlt)
    rw [← Nat.add_assoc] at this
    exact ⟨this.1.trans (List.getElem?_eq_getElem hlt).symm, this.2⟩
  have hrun := run_store_at (P := P) (t := t) (b := b) (o := oo + j) (w := w) hvs (by omega) hpos h1 (fun k hk => by rw [(hcell k hk).1, List.getElem?_eq_getElem (by omega)]; rfl) (fun k hk => (hcell k hk).2)
  refine wp_skipv (by simp only [execOp, ho, ha, Sem.run_bind, hrun, Result.andThen_ok]; rfl) (hk _ _ ?_)
  rw [St.apply_cons]
  refine On.skip (env := env) (F := F) (w := w) (nm := nm) o ?_ (fun M h => .inl h)
  obtain ⟨e1, e2, e3⟩ := hR.one N (.box (splice bs j (σ.eval y).cells)) (Keep.setCells b vs (oo + j) w) (by
      rintro b' o' ⟨rfl, h2, h3⟩
      rw [hF]
      exact ⟨rfl, by omega, by omega⟩) (G := F N) (fun b' o' h => .inl h) (fun b' o' h => Nat.lt_of_lt_of_le (hR.lt N b' o' h) (Keep.setCells b vs (oo + j) w).size) (v := env N) (fun _ => rfl) (hR.hd N hd) (by
    intro env' _ hee hs
    simp only [OB]
    refine ⟨b, oo, spl us j vs, he, PRs.mono hs hee (fun _ h => .inl h) _ _ (hp.splice hpv), fun k u hu => ?_, ?_⟩
    · rw [spl_get (by omega)] at hu
      have hfz : (w.setCells b (oo + j) vs).frozen? ⟨b, oo + k, none⟩ = w.frozen? ⟨b, oo + k, none⟩ := World.frozen?_setCells b vs _ _ _
      split at hu
      · rename_i hin
        have hkv : k - j < vs.length := by omega
        have hin' := World.cell?_setCells_in b vs (oo + j) w (fun l hl => by
          have := (hcell l hl).1
          simp only [cl] at this
          rw [this, List.getElem?_eq_getElem (by omega)]; rfl) (k - j) hkv
        rw [List.getElem?_eq_getElem hkv] at hu
        rw [show oo + j + (k - j) = oo + k by omega] at hin'
        refine ⟨hin'.trans hu, ?_⟩
        rw [hfz]
        have := (hcell (k - j) hkv).2
        rwa [show oo + j + (k - j) = oo + k by omega] at this
      · rename_i hout
        obtain ⟨h2, h3⟩ := hh k u hu
        refine ⟨?_, hfz.trans h3⟩
        have := World.cell?_setCells_out b vs (oo + j) w ⟨b, oo + k, none⟩ (fun _ _ => by simp only; omega)
        exact this.trans h2
    · rw [hF]
      have : (splice bs j (σ.eval y).cells).length = bs.length := by simp [splice]; omega
      rw [this])
  exact ⟨_, _, e1.sameD hd, e2, e3⟩
end Go.Proofs.Ytlpooghphoohcaa.R
/- Stores into rows; loads and stores together. -/
namespace Go.Proofs.Ytlpooghphoohcaa.R
open Go.RowKit
set_option linter.unusedVariables false
set_option linter.unusedSimpArgs false

/-- One element of a row is another one. -/
theorem RVs.set {w : World} {O : Foot} {t : Ty} {xs : List t.El} {us : List Value} (h : RVs w O t xs us) {i : Nat} (hi : i < xs.length) {x : t.El} {vs : List Value} {j : Nat} (hj : j + vs.length ≤ t.sz)
    (hx : RV w O t x (spl ((us.drop (i * t.sz)).take t.sz) j vs)) : RVs w O t (xs.set i x) (spl us (i * t.sz + j) vs) := by
  obtain ⟨h1, h2⟩ := h
  have him : i * t.sz + t.sz ≤ xs.length * t.sz := by rw [← Nat.succ_mul]; exact Nat.mul_le_mul_right _ hi
  have hle : i * t.sz + j + vs.length ≤ us.length := by omega
  have hlen : (xs.set i x).length = xs.length := List.length_set
  refine ⟨by rw [spl_len hle, h1, hlen], fun k hk => ?_⟩
  have hk2 : k < xs.length := by rw [← hlen]; exact hk
  have hkm : k * t.sz + t.sz ≤ xs.length * t.sz := by rw [← Nat.succ_mul]; exact Nat.mul_le_mul_right _ hk2
  by_cases e : k = i
  · subst e
    have hg : (xs.set k x).get ⟨k, hk⟩ = x := by simp
    rw [hg]
    have : ((spl us (k * t.sz + j) vs).drop (k * t.sz)).take t.sz = spl ((us.drop (k * t.sz)).take t.sz) j vs := by
      apply List.ext_getElem?
      intro m
      rw [spl_get (by simp only [List.length_take, List.length_drop]; omega), List.getElem?_take, List.getElem?_drop, spl_get hle]
      simp only [List.getElem?_take, List.getElem?_drop]
      by_cases hm : m < t.sz
      · rw [if_pos hm]
        by_cases hin : j ≤ m ∧ m < j + vs.length
        · rw [if_pos hin, if_pos (by omega)]
          congr 1
          omega
        · rw [if_neg hin, if_neg (by omega), if_pos hm]
      · rw [if_neg hm, if_neg (by omega), if_neg hm]
    rw [this]
    exact hx
  · have hg : (xs.set i x).get ⟨k, hk⟩ = xs.get ⟨k, hk2⟩ := by simp [List.getElem_set_ne (Ne.symm e)]
    rw [hg]
    have : ((spl us (i * t.sz + j) vs).drop (k * t.sz)).take t.sz = (us.drop (k * t.sz)).take t.sz := by
      apply List.ext_getElem?
      intro m
      rw [List.getElem?_take, List.getElem?_drop, spl_get hle, List.getElem?_take, List.getElem?_drop]
      by_cases hm : m < t.sz
      · rw [if_pos hm, if_pos hm, if_neg]
        rcases Nat.lt_or_gt_of_ne e with hlt | hgt
        · have := Nat.mul_le_mul_right t.sz (show k + 1 ≤ i by omega)
          rw [Nat.succ_mul] at this
          omega
        · have := Nat.mul_le_mul_right t.sz (show i + 1 ≤ k by omega)
          rw [Nat.succ_mul] at this
          omega
      · rw [if_neg hm, if_neg hm]
    rw [this]
    exact h2 k hk2
/-- Of cells that are frozen: what a reader sees. -/
theorem PRs_map {env env' : Nat → Value} {D D' : Nat → Prop} {w w' : World} {O O' : Foot} {f : PV → PV} : (cs : List PV) → (us : List Value) → PRs env D w O cs us → (∀ p, p ∈ cs → ∀ v, PR env D w O p v → PR env' D' w' O' (f p) v) → PRs env' D' w' O' (cs.map f) us
  | [], us, h, _ => by simpa [PRs] using h
  | p :: ps, us, h, hf => by
    simp only [List.map_cons, PRs] at h ⊢
    obtain ⟨u, us', rfl, h1, h2⟩ := h
    exact ⟨u, us', rfl, hf p (by simp) u h1, PRs_map ps us' h2 fun q hq => hf q (by simp [hq])⟩
theorem PV.noClo {p : PV} {cs : List PV} (hall : cs.all PV.one = true) (hp : p ∈ cs) : p.one = true := by
  simp only [List.all_eq_true] at hall
  exact hall p hp
/-- A cell that goes into a row: told without names once they are frozen. -/
theorem frozen_rd1 {X W0 : Foot} {w0 : World} {D : Nat → Prop} {σ : St} {a : Act} {w : World} {env : Nat → Value} {F : Nat → Foot} {h : Nat → PV} (hv : Vw h σ) {p : PV} {v : Value} {D' : Nat → Prop} {env' : Nat → Value}
    (hR : Rl X W0 w0 D σ a w env F) (hp : PR env D w (Ow X F) p v) {F1 : Nat → Foot} (hsub : ∀ N b o, F1 N b o → F N b o) (hn : ∀ N, N ∈ p.nm1 → h N ≠ .dead → ∀ b o, ¬ F1 N b o) :
    PR env' D' w (Ow X F1) (rd1 h p) v := by
  refine hR.rd1 hv ?_ ?_ hp
  · rintro b o (hx | ⟨N, hN⟩)
    · exact .inl hx
    · exact .inr ⟨N, hsub N b o hN⟩
  · rintro N hN hnd b o hF (hx | ⟨M, hM⟩)
    · exact hR.xf N b o hF hx
    · by_cases e : M = N
      · subst e; exact hn M hN hnd b o hM
      · exact hR.dj M N b o e (hsub M b o hM) hF
/-- Names that are frozen own nothing; the others own what they owned. -/
theorem frz_sub {X W0 : Foot} {w0 : World} {D : Nat → Prop} {a : Act} {w : World} {h : Nat → PV} : (L : List Nat) → {σ : St} → {env : Nat → Value} → {F : Nat → Foot} → Fz h σ → Rl X W0 w0 D σ a w env F →
    ∃ F', Rl X W0 w0 D (σ.apply (L.flatMap (frz h))) a w env F' ∧ (∀ N b o, F' N b o → F N b o) ∧ (∀ N, N ∈ L → (∃ q, frzV (h N) = some q) → ∀ b o, ¬ F' N b o) ∧ (∀ N, N ∉ L → F' N = F N)
  | [], σ, env, F, _, hR => ⟨F, hR, fun _ _ _ h => h, fun _ h => absurd h (by simp), fun _ _ => rfl⟩
  | N :: L, σ, env, F, hf, hR => by
    rw [List.flatMap_cons, St.apply_append]
    cases hh : frzV (h N) with
    | none =>
      simp only [frz, hh]
      obtain ⟨F', k1, k2, k3, k4⟩ := frz_sub L hf hR
      refine ⟨F', k1, k2, fun M hM hq b o hb => ?_, fun M hM => ?_⟩
      · simp only [List.mem_cons] at hM
        rcases hM with rfl | hM
        · obtain ⟨q, hq⟩ := hq
          rw [hh] at hq
          cases hq
        · exact k3 M hM hq b o hb
      · simp only [List.mem_cons, not_or] at hM
        exact k4 M hM.2
    | some q =>
      simp only [frz, hh]
      have key : (∃ F1, Rl X W0 w0 D (σ.upd (.ob N q)) a w env F1 ∧ (∀ M b o, F1 M b o → F M b o) ∧ (∀ b o, ¬ F1 N b o) ∧ ∀ M, M ≠ N → F1 M = F M) →
          ∃ F', Rl X W0 w0 D ((σ.upd (.ob N q)).apply (L.flatMap (frz h))) a w env F' ∧ (∀ N b o, F' N b o → F N b o) ∧ (∀ M, M ∈ N :: L → (∃ q, frzV (h M) = some q) → ∀ b o, ¬ F' M b o) ∧ (∀ M, M ∉ N :: L → F' M = F M) := by
        rintro ⟨F1, h1, h2, h3, h4⟩
        have hf' : Fz h (σ.upd (.ob N q)) := by
          intro M
          by_cases e : M = N
          · subst e
            exact .inr (.inr ⟨q, hh, by simp [St.upd, look_upd]⟩)
          · have : look (σ.upd (.ob N q)).ob M = look σ.ob M := by simp [St.upd, look_upd, Ne.symm e]
            rw [this]
            exact hf M
        obtain ⟨F', k1, k2, k3, k4⟩ := frz_sub L hf' h1
        refine ⟨F', k1, fun M b o hb => h2 M b o (k2 M b o hb), fun M hM hh b o hb => ?_, fun M hM => ?_⟩
        · simp only [List.mem_cons] at hM
          rcases hM with rfl | hM
          · exact h3 b o (k2 M b o hb)
          · exact k3 M hM hh b o hb
        · simp only [List.mem_cons, not_or] at hM
          exact (k4 M hM.2).trans (h4 M hM.1)
      refine key ?_
      rcases hf N with h1 | h1 | ⟨q', h1, h2⟩
      · have hd : D N := hR.dom (by rw [← h1]; intro e; rw [e] at hh; cases hh)
        refine ⟨fun M => if M = N then fun _ _ => False else F M, ?_, ?_, ?_, ?_⟩
        · refine hR.step (· = N) rfl (Keep.refl (fun _ _ => False) w) (fun _ _ h => h.elim) ?_ ?_ ?_ ?_ (fun _ _ => rfl) (fun _ h => h) hR.hd ?_ ?_
          · intro M hM
            refine ⟨?_, by simp [hM], rfl⟩
            simp only [St.upd, look_upd]
            rw [if_neg (fun e => hM e.symm)]
          · rintro M rfl b o hb; simp at hb
          · rintro M rfl b o hb; simp at hb
          · rintro M M' b o rfl rfl hne; exact absurd rfl hne
          · intro M hM
            simp only [St.upd, look_upd]
            rw [if_neg (fun e : N = M => hM (e ▸ hd))]
            exact hR.dm M hM
          · rintro hs M rfl
            have := frzV_ok hR h1.symm hh (F1 := fun M' => if M' = M then fun _ _ => False else F M') (fun M' hM' => by simp [hM']) (by simp)
            simpa [St.upd, look_upd] using this
        · intro M b o hb
          by_cases e : M = N
          · simp [e] at hb
          · simpa [e] using hb
        · simp
        · intro M hM; simp [hM]
      · rw [h1] at hh
        cases hh
      · rw [hh] at h1
        injection h1 with h1
        subst h1
        refine ⟨F, hR.same h2, fun _ _ _ h => h, fun b o hb => ?_, fun _ _ => rfl⟩
        have hob := hR.ob N
        rw [h2] at hob
        have hpl : (∃ t x, q = .val t x) ∨ q = .dead := by
          cases hN : h N <;> rw [hN] at hh <;> simp only [frzV, Option.some.injEq, reduceCtorEq] at hh <;> subst hh
          · exact .inl ⟨_, _, rfl⟩
          · exact .inr rfl
          · exact .inl ⟨_, _, rfl⟩
          · exact .inr rfl
        rcases hpl with ⟨t, x, rfl⟩ | rfl
        · simp only [OB] at hob
          rw [hob.2] at hb
          exact hb
        · rw [hob.dead] at hb
          exact hb
/-- Cells that go into a row, once their names are frozen. -/
theorem frozen_cells {X W0 : Foot} {w0 : World} {D : Nat → Prop} {σ : St} {a : Act} {w : World} {env : Nat → Value} {F F1 : Nat → Foot} {h : Nat → PV} (hv : Vw h σ) {L : List Nat} {cs : List PV} {us : List Value} {D' : Nat → Prop} {env' : Nat → Value}
    (hR : Rl X W0 w0 D σ a w env F) (hp : PRs env D w (Ow X F) cs us) (hone : cs.all PV.one = true) (hsub : ∀ N b o, F1 N b o → F N b o) (hL : ∀ p, p ∈ cs → ∀ N, N ∈ p.nm1 → N ∈ L)
    (hz : ∀ N, N ∈ L → (∃ q, frzV (h N) = some q) → ∀ b o, ¬ F1 N b o) : PRs env' D' w (Ow X F1) (cs.map (rd1 h)) us := by
  refine PRs_map cs us hp fun p hpc v hpv => ?_
  · refine frozen_rd1 hv hR hpv hsub fun N hN hnd b o hb => ?_
    have hob := hR.ob N
    cases hf : frzV (h N) with
    | some q => exact hz N (hL p hpc N hN) ⟨q, hf⟩ b o hb
    | none =>
      cases hh : h N <;> rw [hh] at hf <;> simp only [frzV, reduceCtorEq] at hf
      case dead => exact hnd hh
      all_goals
        rw [hv.eq hh (by simp)] at hob
        simp only [OB] at hob
        have := hsub N b o hb
        rw [hob.2] at this
        exact this
end Go.Proofs.Ytlpooghphoohcaa.R
/- A store into a row; stores. -/
namespace Go.Proofs.Ytlpooghphoohcaa.R
open Go.RowKit
set_option linter.unusedVariables false
set_option linter.unusedSimpArgs false

theorem storeRow_ok {P : Program} {o : Oper} {t : TypeId} {x y : Operand} {σ : St} {h : Nat → PV} (hv : Vw h σ) (ho : o.op = .store t x y) {nm : Nat} {N i s j : Nat} {e : TypeId} {t' : Ty} {xs : List t'.El} (hN : look σ.ob N = .row e t' xs)
    (hx : σ.eval x = .cp N i s j) (hs : s = t'.sz) (hj : j + (σ.eval y).cells.length ≤ t'.sz) (hnn : N ∉ nmL (σ.eval y).cells) {x' : t'.El}
    (hof : ofCells t' (splice (cellsOf t' (xs.getD i t'.dft)) j ((σ.eval y).cells.map (rd1 h))) = some (x', []))
    (hl : (σ.eval y).cells.length = szOf P t) (hone : (σ.eval y).cells.all PV.one = true) (hpos : 0 < szOf P t) :
    OpOk P nm o σ ((nmL (σ.eval y).cells).flatMap (frz h) ++ .ob N (.row e t' (xs.set i x')) :: Go.Proofs.Ytlpooghphoohcaa.R.put o .dead) := by
  intro X W0 w0 D a w K Q hfr hR hk
  obtain ⟨env, F, hR⟩ := hR
  have hd : D N := hR.dom (by rw [hN]; simp)
  obtain ⟨F1, hR1, hsub, hz, hout⟩ := frz_sub (nmL (σ.eval y).cells) hv.fz hR
  have hN1 : look (σ.apply ((nmL (σ.eval y).cells).flatMap (frz h))).ob N = .row e t' xs := by rw [frz_out h _ σ hnn]; exact hN
  have hob := hR1.ob N
  rw [hN1] at hob
  simp only [OB] at hob
  obtain ⟨us, hown, hr, hF⟩ := hob
  obtain ⟨vs, hvs, hpv, h1⟩ := cells_ok hR hone (hR.ev y)
  have hlv := hpv.len
  have hex := hR.ev x
  rw [hx] at hex
  simp only [PR] at hex
  obtain ⟨_, hi, b, oo, hbb, ha⟩ := hex
  obtain ⟨aa, c, he, hcap, hg⟩ := own_form hown
  rw [he] at hi hbb
  simp only [hlen] at hi
  obtain ⟨g, rfl⟩ := hg (hr.pos hi)
  simp only [hb, Option.some.injEq, Prod.mk.injEq] at hbb
  obtain ⟨rfl, rfl⟩ := hbb
  subst hs
  have hlen := hr.1
  have him : i * t'.sz + t'.sz ≤ xs.length * t'.sz := by rw [← Nat.succ_mul]; exact Nat.mul_le_mul_right _ hi
  have hle : i * t'.sz + j + vs.length ≤ us.length := by omega
  rw [Nat.zero_add] at ha
  have hown' := hown
  rw [he] at hown'
  have hcell : ∀ k, k < vs.length → cl w g (i * t'.sz + j + k) = us[i * t'.sz + j + k]? := fun k hk => hown'.cellAt _ (by omega)
  have hrun := run_store_at (P := P) (t := t) (b := g) (o := i * t'.sz + j) (w := w) hvs (by omega) hpos h1 (fun k hk => by rw [hcell k hk, List.getElem?_eq_getElem (by omega)]; rfl) (fun k hk => hown'.frozenAt _)
  refine wp_skipv (by simp only [execOp, ho, ha, Sem.run_bind, hrun, Result.andThen_ok]; rfl) (hk _ _ ?_)
  rw [St.apply_append, St.apply_cons]
  refine On.skip (env := env) (F := F1) (w := w) (nm := nm) o ?_ (fun M h => .inl h)
  have hk' := Keep.setCells g vs (i * t'.sz + j) w
  have hlenset : (xs.set i x').length = xs.length := List.length_set
  obtain ⟨e1, e2, e3⟩ := hR1.one N (.row e t' (xs.set i x')) hk' (by
      rintro b' o' ⟨rfl, h2, h3⟩
      rw [hF, he]
      rfl) (G := F1 N) (fun b' o' h => .inl h) (fun b' o' h => Nat.lt_of_lt_of_le (hR1.lt N b' o' h) hk'.size) (v := env N) (fun _ => rfl) (hR1.hd N hd) (by
    intro env' _ hee hs
    simp only [OB]
    refine ⟨spl us (i * t'.sz + j) vs, ?_, ?_, hF⟩
    · rw [he, hlenset]
      exact own_setCells vs _ w us hown' hle
    · refine (RVs.set hr hi (by omega) ?_).mono hs
      have hps : PRs env D w (Ow X F1) (splice (cellsOf t' (xs.getD i t'.dft)) j ((σ.eval y).cells.map (rd1 h))) (spl ((us.drop (i * t'.sz)).take t'.sz) j vs) :=
        ((PRs_cellsOf _ _ _).2 (hr.lies hi)).splice (frozen_cells hv hR hpv hone hsub (fun p hp N hN => nmL_mem hp hN) hz)
      obtain ⟨us1, us2, hu, hrv, hp2⟩ := ofCells_ok t' _ x' [] _ hof hps
      simp only [PRs] at hp2
      subst hp2
      rw [List.append_nil] at hu
      rw [hu]
      exact hrv)
  exact ⟨_, _, e1.sameD hd, e2, e3⟩
theorem contains_false {L : List Nat} {N : Nat} (h : L.contains N = false) : N ∉ L := by simpa using h
theorem store_ok {P : Program} {o : Oper} {t : TypeId} {x y : Operand} {σ : St} {h : Nat → PV} (hv : Vw h σ) (ho : o.op = .store t x y) {nm : Nat} {k : List Upd → Prop} (hk : storeP P False h o t (σ.eval x) (σ.eval y) k) :
    ∃ us, k us ∧ OpOk P nm o σ us := by
  unfold storeP at hk
  split at hk
  · rename_i hc
    obtain ⟨hl, hone, hpos⟩ := hc
    split at hk
    · rename_i N hx
      split at hk
      · rename_i bs hN
        split at hk
        · rename_i hle
          exact ⟨_, hk, storeBox_ok ho (hv.eq hN (by simp)) (.inl ⟨hx, rfl⟩) hl hone hpos (by omega)⟩
        · exact hk.elim
      · exact hk.elim
    · rename_i N i s j hx
      split at hk
      · rename_i bs hN
        split at hk
        · rename_i hle
          exact ⟨_, hk, storeBox_ok ho (hv.eq hN (by simp)) (.inr ⟨i, s, hx, hle.1⟩) hl hone hpos hle.2⟩
        · exact hk.elim
      · rename_i e t' xs hN
        split at hk
        · rename_i hc
          split at hk
          · rename_i x' hof
            exact ⟨_, hk, storeRow_ok hv ho (hv.eq hN (by simp)) hx hc.1 hc.2.1 (contains_false hc.2.2) hof hl hone hpos⟩
          · exact hk.elim
        · exact hk.elim
      · exact hk.elim
    · exact hk.elim
  · exact hk.elim
end Go.Proofs.Ytlpooghphoohcaa.R
/- New variables and rows. -/
namespace Go.Proofs.Ytlpooghphoohcaa.R
open Go.RowKit
set_option linter.unusedVariables false
set_option linter.unusedSimpArgs false

section
variable {X W0 : Foot} {w0 : World} {D : Nat → Prop} {σ : St} {a : Act} {w : World} {env : Nat → Value} {F : Nat → Foot}
/-- A new object. -/
theorem Rl.add (h : Rl X W0 w0 D σ a w env F) {N : Nat} (hn : ¬ D N) (p : PV) {V : Foot} {w' : World} (hk : Keep V w w') (hV : ∀ b o, ¬ V b o) {v : Value} {G : Foot} (hG : ∀ b o, G b o → w.heap.size ≤ b ∧ b < w'.heap.size) (hhd : IsHd v)
    (hT : ∀ env', env' N = v → (∀ M, D M → env' M = env M) → Stb w (Ow X F) w' (Ow X fun M => if M = N then G else F M) → OB env' (fun M => D M ∨ M = N) w' (Ow X fun M => if M = N then G else F M) v p G) :
    ∃ env' F', Rl X W0 w0 (fun M => D M ∨ M = N) (σ.upd (.ob N p)) a w' env' F' ∧ Stb w (Ow X F) w' (Ow X F') ∧ (∀ M, D M → env' M = env M) ∧ env' N = v := by
  obtain ⟨h1, h2, h3⟩ := h.one N p hk (fun b o hv => (hV b o hv).elim) (fun b o hg => .inr (hG b o hg).1) (fun b o hg => (hG b o hg).2) (fun hd => (hn hd).elim) hhd hT
  exact ⟨_, _, h1, h2, h3, by simp⟩
theorem Keep.alloc0 (w : World) (ob : Obj) : Keep (fun _ _ => False) w (w.alloc ob) := Keep.alloc _ w ob
theorem heap_alloc_size (w : World) (ob : Obj) : (w.alloc ob).heap.size = w.heap.size + 1 := by simp
/-- A new variable, its cells told. -/
theorem Rl.newBox (h : Rl X W0 w0 D σ a w env F) {N : Nat} (hn : ¬ D N) {cs : List PV} {us : List Value} (hp : PRs env D w (Ow X F) cs us) (e : TypeId) :
    ∃ env' F', Rl X W0 w0 (fun M => D M ∨ M = N) (σ.upd (.ob N (.box cs))) a (w.alloc (.cells us.toArray e)) env' F' ∧ Stb w (Ow X F) (w.alloc (.cells us.toArray e)) (Ow X F') ∧ (∀ M, D M → env' M = env M) ∧ env' N = .pointer (some ⟨w.heap.size, 0, none⟩) := by
  refine h.add hn (.box cs) (Keep.alloc0 w _) (fun _ _ => id) (G := fun b o => b = w.heap.size ∧ 0 ≤ o ∧ o < 0 + cs.length) (fun b o hg => by rw [heap_alloc_size]; omega) (.inr ⟨_, rfl⟩) ?_
  intro env' _ hee hs
  simp only [OB]
  refine ⟨w.heap.size, 0, us, rfl, PRs.mono hs hee (fun _ h => .inl h) _ _ hp, fun j u hu => ?_, rfl⟩
  have hh := heap_alloc_new w (.cells us.toArray e)
  constructor
  · simp only [cl]
    rw [cell_of_row (w.alloc (.cells us.toArray e)) w.heap.size (0 + j) us.toArray e (0, 0) hh]
    simpa using hu
  · simp only [World.frozen?, hh]
    simp
/-- A new row, its elements told. -/
theorem Rl.newRow (h : Rl X W0 w0 D σ a w env F) {N : Nat} (hn : ¬ D N) {t : Ty} {xs : List t.El} {us : List Value} (hr : RVs w (Ow X F) t xs us) (e : TypeId) (hm : xs.length ≤ maxLen) :
    ∃ env' F', Rl X W0 w0 (fun M => D M ∨ M = N) (σ.upd (.ob N (.row e t xs))) a (w.alloc (.cells us.toArray e)) env' F' ∧ Stb w (Ow X F) (w.alloc (.cells us.toArray e)) (Ow X F') ∧ (∀ M, D M → env' M = env M) ∧ env' N = .slice (some ⟨w.heap.size, 0, none⟩) xs.length xs.length := by
  refine h.add hn (.row e t xs) (Keep.alloc0 w _) (fun _ _ => id) (G := fun b _ => (Value.slice (some ⟨w.heap.size, 0, none⟩) xs.length xs.length).ownBlock = some b) (fun b o hg => by
    simp only [Value.ownBlock, Option.some.injEq] at hg
    rw [heap_alloc_size]
    omega) (.inl ⟨_, _, _, rfl⟩) ?_
  intro env' _ hee hs
  simp only [OB]
  refine ⟨us, ?_, hr.mono hs, by simp⟩
  have := World.ownsRow_lit (base := 0) (e := e) (size := t.sz) w us.toArray xs.length (Nat.zero_le _) hm (by simpa using hr.1)
  simpa using this
/-- A nil slice, of our own. -/
theorem Rl.newNil (h : Rl X W0 w0 D σ a w env F) {N : Nat} (hn : ¬ D N) (e : TypeId) (t : Ty) :
    ∃ env' F', Rl X W0 w0 (fun M => D M ∨ M = N) (σ.upd (.ob N (.row e t []))) a w env' F' ∧ Stb w (Ow X F) w (Ow X F') ∧ (∀ M, D M → env' M = env M) ∧ env' N = .slice none 0 0 := by
  refine h.add hn (.row e t []) (Keep.refl (fun _ _ => False) w) (fun _ _ => id) (G := fun b _ => (Value.slice none 0 0).ownBlock = some b) (fun b o hg => by simp [Value.ownBlock] at hg) (.inl ⟨_, _, _, rfl⟩) ?_
  intro env' _ hee hs
  simp only [OB]
  exact ⟨[], World.ownsRow_nil _ _ _ _, ⟨by simp, fun i hi => absurd hi (by simp)⟩, by simp⟩
theorem Rl.fin {N : Nat} {D' : Nat → Prop} {nm : Nat} (o : Oper) (h : Rl X W0 w0 D' σ a w env F) (hD : ∀ M, D' M → Fresh D nm M) (hd : D' N) {v : Value} (hv : env N = v) :
    R X W0 w0 (Fresh D nm) (σ.apply (Go.Proofs.Ytlpooghphoohcaa.R.put o (.ref N))) (a.put o.dst v) w :=
  R.grow (R.of (h.puto o (p := .ref N) (v := v) (by simp only [PR]; exact ⟨hd, hv.symm⟩))) hD
end
theorem alloc_run {P : Program} {e : TypeId} {v : Value} {w : World} : (Instr.box e v).run P w = .ok (.pointer (some ⟨w.heap.size, 0, none⟩)) (w.alloc (.cells v.cells e)) := by
  simp [Instr.box, newVar, newRow]
theorem box_ok {P : Program} {o : Oper} {e : TypeId} {x : Operand} {σ : St} (ho : o.op = .box e x) {nm : Nat} (hone : (σ.eval x).cells.all PV.one = true) : OpOk P nm o σ (.ob nm (.box (σ.eval x).cells) :: Go.Proofs.Ytlpooghphoohcaa.R.put o (.ref nm)) := by
  intro X W0 w0 D a w K Q hfr hR hk
  obtain ⟨env, F, hR⟩ := hR
  obtain ⟨us, hvs, hp, _⟩ := cells_ok hR hone (hR.ev x)
  obtain ⟨env', F', h1, _, _, h4⟩ := hR.newBox (hfr nm (Nat.le_refl _) (by omega)) hp e
  refine wp_value (v := .pointer (some ⟨w.heap.size, 0, none⟩)) (w' := w.alloc (.cells us.toArray e)) (by simp only [execOp, ho, Sem.run_bind, alloc_run, hvs, Result.andThen_ok]; rfl) (hk _ _ ?_)
  rw [St.apply_cons]
  exact h1.fin o (fun M hM => hM.imp id (fun e => by subst e; exact ⟨Nat.le_refl _, by omega⟩)) (.inr rfl) h4
theorem nil_ok {P : Program} {o : Oper} {x : Operand} {σ : St} {e : TypeId} {t : Ty} (ho : o.op = .assign x) (hx : σ.eval x = .nil) {nm : Nat} : OpOk P nm o σ (.ob nm (.row e t []) :: Go.Proofs.Ytlpooghphoohcaa.R.put o (.ref nm)) := by
  intro X W0 w0 D a w K Q hfr hR hk
  obtain ⟨env, F, hR⟩ := hR
  have he := hR.ev x
  rw [hx] at he
  simp only [PR] at he
  obtain ⟨env', F', h1, _, _, h4⟩ := hR.newNil (hfr nm (Nat.le_refl _) (by omega)) e t
  refine wp_value (v := .slice none 0 0) (w' := w) (by simp [execOp, ho, he, Sem.run, pure]) (hk _ _ ?_)
  rw [St.apply_cons]
  exact h1.fin o (fun M hM => hM.imp id (fun e => by subst e; exact ⟨Nat.le_refl _, by omega⟩)) (.inr rfl) h4
theorem zeroOk_ok {w : World} {O : Foot} : (t : Ty) → (vs : List Value) → zeroOk t vs = true → RV w O t t.dft vs
  | .int k, vs, h => by
    unfold zeroOk at h
    split at h <;> simp_all [RV, Ty.dft]
  | .bool, vs, h => by
    unfold zeroOk at h
    split at h <;> simp_all [RV, Ty.dft]
  | .str, vs, h => by
    unfold zeroOk at h
    split at h <;> simp_all [RV, Ty.dft]
  | .flt k, vs, h => by
    unfold zeroOk at h
    split at h <;> simp_all [RV, Ty.dft]
  | .sl t, vs, h => by
    unfold zeroOk at h
    split at h <;> try (simp at h; done)
    all_goals try cases ‹Ty.sl _ = _›
    exact RV_sl.2 ⟨none, 0, [], rfl, ⟨by simp [Ty.dft], fun i hi => absurd hi (by simp [Ty.dft])⟩, fun h => absurd rfl h, by simp [Ty.dft]⟩
  | .pair a b, vs, h => by
    simp only [zeroOk, Bool.and_eq_true] at h
    simp only [RV, Ty.dft]
    exact ⟨_, _, (List.take_append_drop a.sz vs).symm, zeroOk_ok a _ h.1, zeroOk_ok b _ h.2⟩
/-- Fresh names in a row of them. -/
theorem fresh_mono {D : Nat → Prop} {nm n : Nat} (hn : n < 64) : ∀ M, (D M ∨ M = nm + n) → Fresh D nm M := fun M h => h.imp id (fun e => by subst e; exact ⟨by omega, by omega⟩)
/-- Cells of a zero value: nil slices become rows of our own. -/
theorem ownNil_ok {P : Program} {X W0 : Foot} {w0 : World} {a : Act} {w : World} : (l : List (TypeId × PV)) → (us : List Value) → (n : Nat) → {D : Nat → Prop} → {σ : St} → {env : Nat → Value} → {F : Nat → Foot} → Rl X W0 w0 D σ a w env F →
    (∀ M, n ≤ M → M < n + l.length → ¬ D M) → PRs env D w (Ow X F) (l.map (·.2)) us →
    ∃ D' env' F', Rl X W0 w0 D' (σ.apply (ownNil P l n).2) a w env' F' ∧ (∀ M, D M → D' M) ∧ (∀ M, D' M → D M ∨ (n ≤ M ∧ M < n + l.length)) ∧ Stb w (Ow X F) w (Ow X F') ∧ (∀ M, D M → env' M = env M) ∧ PRs env' D' w (Ow X F') (ownNil P l n).1 us
  | [], us, n, D, σ, env, F, hR, hf, hp => ⟨D, env, F, hR, fun _ h => h, fun _ h => .inl h, Stb.refl _ _, fun _ _ => rfl, by simpa [ownNil] using hp⟩
  | (t, p) :: r, us, n, D, σ, env, F, hR, hf, hp => by
    simp only [List.map_cons, PRs] at hp
    obtain ⟨u, us', rfl, hu, hp⟩ := hp
    have plain : ∀ m q, (n ≤ m ∧ m ≤ n + 1) → (∀ env' D' F', (∀ M, D M → D' M) → (∀ M, D M → env' M = env M) → Stb w (Ow X F) w (Ow X F') → PR env' D' w (Ow X F') q u) →
        ∃ D' env' F', Rl X W0 w0 D' (σ.apply (ownNil P r m).2) a w env' F' ∧ (∀ M, D M → D' M) ∧ (∀ M, D' M → D M ∨ (n ≤ M ∧ M < n + ((t, p) :: r).length)) ∧ Stb w (Ow X F) w (Ow X F') ∧ (∀ M, D M → env' M = env M) ∧ PRs env' D' w (Ow X F') (q :: (ownNil P r m).1) (u :: us') := by
      intro m q hm hq
      obtain ⟨D', env', F', h1, h2, h3, h4, h5, h6⟩ := ownNil_ok (P := P) r us' m hR (fun M k1 k2 => hf M (by omega) (by simp; omega)) hp
      refine ⟨D', env', F', h1, h2, fun M hM => (h3 M hM).imp id (fun h => by simp; omega), h4, h5, ?_⟩
      simp only [PRs]
      exact ⟨u, us', rfl, hq env' D' F' h2 h5 h4, h6⟩
    by_cases hn : p = .nil
    · subst hn
      simp only [PR] at hu
      subst hu
      cases he : elOf P t with
      | none =>
        simp only [ownNil, he]
        exact plain (n + 1) .dead (by omega) (fun _ _ _ _ _ _ => by simp only [PR])
      | some q =>
        obtain ⟨e, ty⟩ := q
        simp only [ownNil, he, St.apply_cons]
        obtain ⟨env1, F1, h1, s1, e1, g1⟩ := hR.newNil (N := n) (hf n (Nat.le_refl _) (by simp)) e ty
        obtain ⟨D', env', F', h2, d1, d2, s2, e2, h4⟩ := ownNil_ok (P := P) r us' (n + 1) h1 (fun M h1 h2 hM => hM.elim (hf M (by omega) (by simp; omega)) (fun e => by omega)) (PRs.mono s1 e1 (fun _ h => .inl h) _ _ hp)
        refine ⟨D', env', F', h2, fun M hM => d1 M (.inl hM), fun M hM => ?_, s1.trans s2, fun M hM => (e2 M (.inl hM)).trans (e1 M hM), ?_⟩
        · rcases d2 M hM with (h | h) | h
          · exact .inl h
          · exact .inr (by simp; omega)
          · exact .inr (by simp; omega)
        · simp only [PRs]
          refine ⟨_, us', rfl, ?_, h4⟩
          simp only [PR]
          exact ⟨d1 n (.inr rfl), by rw [e2 n (.inr rfl), g1]⟩
    · have : ownNil P ((t, p) :: r) n = (p :: (ownNil P r n).1, (ownNil P r n).2) := by
        cases p <;> first | rfl | exact absurd rfl hn
      rw [this]
      exact plain n p (by omega) (fun env' D' F' hD hee hs => PR.mono hs hee hD _ _ hu)
/-- The cells of the zero value of a type. -/
theorem zero_cells {P : Program} {t : TypeId} {v : Value} (h : zeroOf P t = some v) : ∃ i, P.info? t = some i ∧ i.zero = some v := by
  unfold zeroOf at h
  cases hi : P.info? t with
  | none => simp [hi] at h
  | some i => exact ⟨i, rfl, by simpa [hi] using h⟩
theorem PRs_const_cells {env : Nat → Value} {D : Nat → Prop} {w : World} {O : Foot} (v : Value) (hv : ∀ us, v ≠ .tuple us) : PRs env D w O (ofConst v).cells v.cells.toList := by
  have c1 : ∀ v : Value, PR env D w O (ofConst1 v) v := by
    intro v
    unfold ofConst1
    split <;> simp [PR, RV]
  cases v with
  | agg cs =>
    simp only [ofConst, PV.cells, Value.cells]
    generalize cs.toList = l
    induction l with
    | nil => simp [PRs]
    | cons u l ih => simp only [List.map_cons, PRs]; exact ⟨u, l, rfl, c1 u, ih⟩
  | tuple us => exact absurd rfl (hv us)
  | _ =>
    have hc : ∀ v, (ofConst1 v).cells = [ofConst1 v] := by
      intro v
      unfold ofConst1
      split <;> rfl
    simp only [ofConst, hc, Value.cells]
    exact PRs_one.2 ⟨_, rfl, c1 _⟩
theorem zip_snd : (ts : List TypeId) → (ps : List PV) → ts.length = ps.length → (ts.zip ps).map (·.2) = ps
  | [], [], _ => rfl
  | t :: ts, p :: ps, h => by simp only [List.zip_cons_cons, List.map_cons]; rw [zip_snd ts ps (by simpa using h)]
  | [], _ :: _, h => by simp at h
  | _ :: _, [], h => by simp at h
/-- The zero value of a type, laid. -/
theorem zero_ok {P : Program} {X W0 : Foot} {w0 : World} {a : Act} {w : World} {t : TypeId} {n : Nat} {cs : List PV} {us : List Upd} (h : zeroCells P t n = some (cs, us)) {D : Nat → Prop} {σ : St} {env : Nat → Value} {F : Nat → Foot} (hR : Rl X W0 w0 D σ a w env F)
    (hf : ∀ M, n ≤ M → M < n + 60 → ¬ D M) : ∃ v i D' env' F', P.info? t = some i ∧ i.zero = some v ∧ Rl X W0 w0 D' (σ.apply us) a w env' F' ∧ (∀ M, D M → D' M) ∧ (∀ M, D' M → D M ∨ (n ≤ M ∧ M < n + 60)) ∧ Stb w (Ow X F) w (Ow X F') ∧ (∀ M, D M → env' M = env M) ∧ PRs env' D' w (Ow X F') cs v.cells.toList := by
  unfold zeroCells at h
  split at h
  · rename_i v hv
    split at h
    · rename_i hc
      obtain ⟨hl, hsm, htup⟩ := hc
      obtain ⟨i, hi, hz⟩ := zero_cells hv
      simp only [Option.some.injEq] at h
      have hlen : ((celTys P 4 t).zip (ofConst v).cells).length < 60 := by rw [List.length_zip]; omega
      obtain ⟨D', env', F', h1, h2, h3, h4, h5, h6⟩ := ownNil_ok (P := P) ((celTys P 4 t).zip (ofConst v).cells) v.cells.toList n hR (fun M k1 k2 => hf M k1 (by omega)) (by
        rw [zip_snd _ _ hl]
        exact PRs_const_cells v (by rintro us rfl; simp [isTup] at htup))
      rw [h] at h1 h6
      exact ⟨v, i, D', env', F', hi, hz, h1, h2, fun M hM => (h3 M hM).imp id (fun h => by omega), h4, h5, h6⟩
    · cases h
  · cases h
theorem alloc_ok {P : Program} {o : Oper} {t : TypeId} {σ : St} (ho : o.op = .alloc t) {nm : Nat} {k : List Upd → Prop} (hk : allocP P False nm o t k) : ∃ us, k us ∧ OpOk P nm o σ us := by
  unfold allocP at hk
  split at hk
  · rename_i cs us hz
    refine ⟨_, hk, ?_⟩
    intro X W0 w0 D a w K Q hfr hR hk
    obtain ⟨env, F, hR⟩ := hR
    obtain ⟨v, i, D1, env1, F1, hi, hzero, h1, d1, d2, s1, e1, hp⟩ := zero_ok hz hR (fun M k1 k2 => hfr M (by omega) (by omega))
    obtain ⟨env', F', h2, _, _, h4⟩ := h1.newBox (N := nm) (fun hd => (d2 nm hd).elim (hfr nm (Nat.le_refl _) (by omega)) (fun h => by omega)) hp t
    refine wp_value (v := .pointer (some ⟨w.heap.size, 0, none⟩)) (w' := w.alloc (.cells v.cells t)) (by simp [execOp, ho, Instr.alloc, zeroValue, typeInfo, hi, hzero, newVar, newRow]) (hk _ _ ?_)
    rw [St.apply_append, St.apply_cons]
    rw [Array.toArray_toList] at h2
    refine h2.fin o (fun M hM => ?_) (.inr rfl) h4
    rcases hM with hM | rfl
    · exact (d2 M hM).imp id (fun h => by omega)
    · exact .inr (by omega)
  · exact hk.elim
theorem fold_spl {vs : List Value} {off : Nat} {cells : Array Value} (h : off + vs.length ≤ cells.size) : (vs.zipIdx.foldl (fun cs (x : Value × Nat) => cs.setIfInBounds (off + x.2) x.1) cells).toList = spl cells.toList off vs := by
  obtain ⟨h1, h2⟩ := Great.foldl_set off vs 0 cells
  apply List.ext_getElem?
  intro m
  rw [spl_get (by simpa using h)]
  have := h2 m
  simp only [Nat.add_zero] at this
  simp only [Array.getElem?_toList]
  rw [this]
  by_cases hm : off ≤ m ∧ m < off + vs.length
  · rw [if_pos hm, if_pos ⟨hm.1, hm.2, by omega⟩]
  · rw [if_neg hm, if_neg (fun h => hm ⟨h.1, h.2.1⟩)]
theorem fill_ok {P : Program} {s : TypeId} {fs : Array Field} (hu : P.underlying s = some (.struct fs)) {X W0 : Foot} {w0 : World} {a : Act} {w : World} {D : Nat → Prop} {σ : St} {env : Nat → Value} {F : Nat → Foot} (hR : Rl X W0 w0 D σ a w env F) {places : Array (Nat × Nat)}
    (hpl : ∀ f off ft, fldOf P s f = some (off, ft) → places[f]? = some (off, szOf P ft)) : (ps : List (Nat × PV)) → (vs : List (Nat × Value)) → (cs ds : List PV) → (cells : Array Value) → fillP P s cs ps = some ds →
    (∀ (i : Nat) (q : Nat × PV), ps[i]? = some q → ∃ u, vs[i]? = some (q.1, u) ∧ PR env D w (Ow X F) q.2 u) → ps.length = vs.length → (∀ q ∈ ps, q.2.cells.all PV.one = true) → PRs env D w (Ow X F) cs cells.toList →
    ∃ cells', Instr.fill (places[·]?) cells vs = some cells' ∧ PRs env D w (Ow X F) ds cells'.toList
  | [], [], cs, ds, cells, h, _, _, _, hp => by
    simp only [fillP, Option.some.injEq] at h
    subst h
    exact ⟨cells, rfl, hp⟩
  | [], _ :: _, _, _, _, _, _, hl, _, _ => by simp at hl
  | _ :: _, [], _, _, _, _, _, hl, _, _ => by simp at hl
  | (f, p) :: ps, (f', v) :: vs, cs, ds, cells, h, hv, hl, hone, hp => by
    obtain ⟨u, hu1, hu2⟩ := hv 0 (f, p) rfl
    simp only [List.getElem?_cons_zero, Option.some.injEq, Prod.mk.injEq] at hu1
    obtain ⟨rfl, rfl⟩ := hu1
    simp only [fillP] at h
    split at h
    · rename_i off ft hf
      split at h
      · rename_i hc
        obtain ⟨us, hus, hpu, _⟩ := cells_ok hR (hone (f', p) (by simp)) hu2
        have hlu : p.cells.length = us.length := hpu.len
        have hlc : cs.length = cells.size := hp.len.trans (Array.length_toList ..)
        have hsz : v.cells.size = us.length := by rw [hus]; simp
        have hle : off + us.length ≤ cells.size := by have := hc.2; omega
        have hcnd : ¬ ((decide (v.cells.size ≠ szOf P ft) || decide (off + v.cells.size > cells.size)) = true) := by
          simp only [Bool.or_eq_true, decide_eq_true_eq]
          have := hc.1
          omega
        simp only [Instr.fill, hpl f' off ft hf, if_neg hcnd]
        have hfold : (v.cells.zipIdx.foldl (fun cs (x : Value × Nat) => cs.setIfInBounds (off + x.2) x.1) cells).toList = spl cells.toList off us := by
          rw [hus]
          have := fold_spl hle
          simpa [← Array.foldl_toList] using this
        refine fill_ok hu hR hpl ps vs _ ds _ h (fun i q hq => ?_) (by simpa using hl) (fun q hq => hone q (by simp [hq])) ?_
        · have := hv (i + 1) q (by simpa using hq)
          simpa using this
        · rw [hfold]
          exact hp.splice hpu
      · cases h
    · cases h
end Go.Proofs.Ytlpooghphoohcaa.R
/- Literals: structs and slices. -/
namespace Go.Proofs.Ytlpooghphoohcaa.R
open Go.RowKit
set_option linter.unusedVariables false
set_option linter.unusedSimpArgs false

theorem mapM_get {α β : Type} {g : α → Option β} : (l : List α) → (r : List β) → l.mapM g = some r → ∀ (i : Nat) x, l[i]? = some x → ∃ y, g x = some y ∧ r[i]? = some y
  | [], r, h, i, x, hx => by simp at hx
  | a :: l, r, h, i, x, hx => by
    simp only [List.mapM_cons, Option.bind_eq_bind, Option.pure_def, Option.bind_eq_some_iff] at h
    obtain ⟨y, hy, r', hr', h⟩ := h
    simp only [Option.some.injEq] at h
    subst h
    cases i with
    | zero => simp only [List.getElem?_cons_zero, Option.some.injEq] at hx; subst hx; exact ⟨y, hy, rfl⟩
    | succ i => simp only [List.getElem?_cons_succ] at hx ⊢; exact mapM_get l r' hr' i x hx
theorem build_ok {P : Program} {o : Oper} {t : TypeId} {parts : Array (Nat × Operand)} {σ : St} (ho : o.op = .build t parts) {nm : Nat} {k : List Upd → Prop}
    (hk : buildP P False nm o t (parts.toList.map fun p => (p.1, σ.eval p.2)) k) : ∃ us, k us ∧ OpOk P nm o σ us := by
  unfold buildP at hk
  split at hk
  · rename_i cs us hb hz
    simp only [Bool.and_eq_true, List.all_eq_true] at hb
    obtain ⟨hpl, hone⟩ := hb
    split at hk
    · rename_i ds hfill
      refine ⟨_, hk, ?_⟩
      intro X W0 w0 D a w K Q hfr hR hk
      obtain ⟨env, F, hR⟩ := hR
      obtain ⟨v, i, D1, env1, F1, hi, hzero, h1, d1, d2, s1, e1, hp⟩ := zero_ok hz hR (fun M k1 k2 => hfr M (by omega) (by omega))
      unfold hasPlaces at hpl
      split at hpl
      · rename_i fs hu
        obtain ⟨places, hplaces⟩ := Option.isSome_iff_exists.1 hpl
        obtain ⟨cells', hc, hpc⟩ := fill_ok (P := P) hu h1 (places := places.toArray) (fun f off ft hf => by
          obtain ⟨fs', d, hu', hd, rfl, rfl⟩ := fldOf_spec hf
          rw [hu] at hu'
          simp only [Option.some.injEq, TypeDesc.struct.injEq] at hu'
          subst hu'
          obtain ⟨y, hy, hr⟩ := mapM_get _ _ hplaces f d (by simpa using hd)
          cases hi' : P.info? d.type with
          | none => simp [hi'] at hy
          | some i' =>
            simp only [hi', Option.map_some, Option.some.injEq] at hy
            subst hy
            simp [szOf, hi', hr]) (parts.toList.map fun p => (p.1, σ.eval p.2)) (parts.toList.map fun p => (p.1, a.eval p.2)) cs ds v.cells hfill (fun j q hq => by
          rw [List.getElem?_map] at hq ⊢
          cases hpj : parts.toList[j]? with
          | none => simp [hpj] at hq
          | some pj =>
            simp only [hpj, Option.map_some, Option.some.injEq] at hq ⊢
            subst hq
            exact ⟨_, rfl, PR.mono s1 e1 d1 _ _ (hR.ev pj.2)⟩) (by simp) (fun q hq => by simpa using hone q hq) hp
        have hrun : (Instr.build t (parts.map fun (i, x) => (i, a.eval x))).run P w = .ok (.agg cells') w := by
          refine run_build w t _ cells' ?_
          simp only [Program.built, hi, hu, hzero, hplaces]
          have : (parts.map fun (i, x) => (i, a.eval x)).toList = parts.toList.map fun p => (p.1, a.eval p.2) := by simp
          rw [this]
          exact hc
        refine wp_value (v := .agg cells') (w' := w) (by simp only [execOp, ho, Sem.run_bind, hrun, Result.andThen_ok]; rfl) (hk _ _ ?_)
        rw [St.apply_append]
        refine R.grow (R.of (h1.puto o (p := .agg ds) (v := .agg cells') ?_)) (fun M hM => (d2 M hM).imp id (fun h => by omega))
        simp only [PR]
        exact ⟨cells'.toList, by simp, hpc⟩
      · cases hpl
    · exact hk.elim
  · exact hk.elim
theorem elems_ok {X W0 : Foot} {w0 : World} {D : Nat → Prop} {σ : St} {a : Act} {w : World} {env : Nat → Value} {F F1 : Nat → Foot} {h : Nat → PV} (hv : Vw h σ) (hR : Rl X W0 w0 D σ a w env F) {L : List Nat} (hsub : ∀ N b o, F1 N b o → F N b o)
    (hz : ∀ N, N ∈ L → (∃ q, frzV (h N) = some q) → ∀ b o, ¬ F1 N b o) {t : Ty} : (ps : List (Nat × Operand)) → (i : Nat) → (xs : List t.El) → elems h t i (ps.map fun p => (p.1, σ.eval p.2)) = some xs →
    (∀ p ∈ ps, (σ.eval p.2).cells.all PV.one = true) → (∀ p ∈ ps, ∀ N ∈ nmL (σ.eval p.2).cells, N ∈ L) →
    (ps.map fun p => (p.1, a.eval p.2)) = ((ps.map fun p => a.eval p.2).zipIdx i).map (fun x => (x.2, x.1)) ∧ xs.length = ps.length ∧
      ∀ (k : Nat) p, ps[k]? = some p → ∃ hk : k < xs.length, RV w (Ow X F1) t (xs.get ⟨k, hk⟩) (a.eval p.2).cells.toList
  | [], i, xs, he, _, _ => by
    simp only [List.map_nil, elems, Option.some.injEq] at he
    subst he
    exact ⟨rfl, rfl, fun k p hk => by simp at hk⟩
  | p :: ps, i, xs, he, hone, hL => by
    simp only [List.map_cons, elems] at he
    split at he
    · rename_i hi
      split at he
      · rename_i x hof
        cases hr : elems h t (i + 1) (ps.map fun p => (p.1, σ.eval p.2)) with
        | none => simp [hr] at he
        | some xs' =>
          simp only [hr, Option.some.injEq] at he
          subst he
          obtain ⟨h1, h2, h3⟩ := elems_ok hv hR hsub hz ps (i + 1) xs' hr (fun q hq => hone q (by simp [hq])) (fun q hq => hL q (by simp [hq]))
          refine ⟨?_, by simp [h2], fun k q hk => ?_⟩
          · simp only [List.map_cons, List.zipIdx_cons, h1, hi]
          · cases k with
            | zero =>
              simp only [List.getElem?_cons_zero, Option.some.injEq] at hk
              subst hk
              refine ⟨by simp, ?_⟩
              obtain ⟨us, hus, hpu, _⟩ := cells_ok hR (hone p (by simp)) (hR.ev p.2)
              have hpf := frozen_cells (env' := env) (D' := D) hv hR hpu (hone p (by simp)) hsub (L := L) (fun q hq N hN => hL p (by simp) N (nmL_mem hq hN)) hz
              obtain ⟨u1, u2, hu, hrv, hp2⟩ := ofCells_ok t _ x [] us hof hpf
              simp only [PRs] at hp2
              subst hp2
              rw [List.append_nil] at hu
              rw [hus, hu]
              exact hrv
            | succ k =>
              simp only [List.getElem?_cons_succ] at hk
              obtain ⟨hk', hrv⟩ := h3 k q hk
              exact ⟨by simp; omega, by simpa using hrv⟩
      · cases he
    · cases he
end Go.Proofs.Ytlpooghphoohcaa.R
/- Slice literals, make. -/
namespace Go.Proofs.Ytlpooghphoohcaa.R
open Go.RowKit
set_option linter.unusedVariables false
set_option linter.unusedSimpArgs false

theorem run_buildS {P : Program} {w : World} {t e : TypeId} {n : Nat} {parts : Array (Nat × Value)} {ie : TypeInfo} {z : Value} {vs : List Value} {s : Nat}
    (hu : P.underlying t = some (.slice e)) (hie : P.info? e = some ie) (hz : ie.zero = some z) (hs : ie.size = s) (hpos : 0 < s) (hsmall : n * s ≤ 16777216) (hparts : parts.toList = (vs.zipIdx 0).map fun x => (x.2, x.1)) (hn : vs.length = n) (hv : ∀ v ∈ vs, v.cells.size = s) :
    ∃ cells : Array Value, (Instr.buildSlice t n parts).run P w = .ok (.slice (some ⟨w.heap.size, 0, none⟩) n n) (w.alloc (.cells cells e)) ∧ cells.size = n * s ∧ ∀ (i : Nat) v, vs[i]? = some v → (cells.toList.drop (i * s)).take s = v.cells.toList := by
  subst hs
  by_cases h0 : n = 0
  · subst h0
    have hvs : vs = [] := List.eq_nil_of_length_eq_zero hn
    subst hvs
    have hp : parts = #[] := by
      apply Array.ext'
      simpa using hparts
    subst hp
    refine ⟨#[], ?_, by simp, fun i v h => by simp at h⟩
    simp [Instr.buildSlice, run_underlying hu, sizeOf, typeInfo, zeroValue, hie, hz, newRow, Instr.fill]
    have : Array.map (fun x => (default : Value)) (Array.range 0) = #[] := by apply Array.ext'; simp
    rw [this]
  · have hns : 0 < n * ie.size := Nat.mul_pos (by omega) hpos
    obtain ⟨r, hr, hsz, hk⟩ := Great.fill_dense hpos vs 0 ((Array.range (n * ie.size)).map (z.cells[· % z.cells.size]!)) hv (by simp [hn])
    refine ⟨r, run_buildSlice w t e n parts r ie z hu hie hz (by omega) (by omega) (by rw [hparts]; exact hr), by simpa using hsz, fun i v hi => ?_⟩
    have hsz' : r.size = n * ie.size := by simpa using hsz
    have hi' : i < n := by have := (List.getElem?_eq_some_iff.1 hi).1; omega
    have hvz := hv v (List.mem_of_getElem? hi)
    have him : i * ie.size + ie.size ≤ n * ie.size := by rw [← Nat.succ_mul]; exact Nat.mul_le_mul_right _ hi'
    apply List.ext_getElem?
    intro m
    rw [List.getElem?_take, List.getElem?_drop]
    by_cases hm : m < ie.size
    · rw [if_pos hm, Array.getElem?_toList, hk, if_pos ⟨by omega, by rw [hn, Nat.zero_add]; omega⟩]
      have h1 : (i * ie.size + m) / ie.size = i := by
        rw [Nat.mul_comm, Nat.mul_add_div hpos, Nat.div_eq_of_lt hm, Nat.add_zero]
      have h2 : (i * ie.size + m) % ie.size = m := by
        rw [Nat.mul_comm, Nat.mul_add_mod, Nat.mod_eq_of_lt hm]
      rw [h1, h2, Nat.sub_zero, hi]
      simp
    · rw [if_neg hm]
      symm
      rw [List.getElem?_eq_none_iff]
      simp
      omega
theorem maxLen_le : (16777216 : Nat) ≤ maxLen := by decide
theorem buildS_ok {P : Program} {o : Oper} {s : TypeId} {n : Nat} {parts : Array (Nat × Operand)} {σ : St} {h : Nat → PV} (hv : Vw h σ) (ho : o.op = .buildSlice s n parts) {nm : Nat} {k : List Upd → Prop}
    (hk : buildS P False h nm o s n (parts.toList.map fun p => (p.1, σ.eval p.2)) k) : ∃ us, k us ∧ OpOk P nm o σ us := by
  unfold buildS at hk
  split at hk
  · rename_i e t he
    split at hk
    · rename_i hone
      split at hk
      · rename_i xs hel
        split at hk
        · rename_i hlen
          split at hk
          · rename_i hsmall
            refine ⟨_, hk, ?_⟩
            intro X W0 w0 D a w K Q hfr hR hk
            obtain ⟨env, F, hR⟩ := hR
            obtain ⟨hu, i, z, hi, hsz, _, hz, _⟩ := elOf_spec he
            obtain ⟨F1, hR1, hsub, hzf, _⟩ := frz_sub ((parts.toList.map fun p => (p.1, σ.eval p.2)).flatMap fun p => nmL p.2.cells) hv.fz hR
            have hone' : ∀ p ∈ parts.toList, (σ.eval p.2).cells.all PV.one = true := by
              intro p hp
              simp only [List.all_eq_true, List.mem_map] at hone
              simpa using hone _ ⟨p, hp, rfl⟩
            obtain ⟨h1, h2, h3⟩ := elems_ok (F1 := F1) hv hR hsub hzf parts.toList 0 xs hel hone' (fun p hp N hN => List.mem_flatMap.2 ⟨(p.1, σ.eval p.2), List.mem_map.2 ⟨p, hp, rfl⟩, hN⟩)
            have hcsz : ∀ v ∈ parts.toList.map fun p => a.eval p.2, v.cells.size = t.sz := by
              intro v hvm
              obtain ⟨p, hp, rfl⟩ := List.mem_map.1 hvm
              obtain ⟨j, hj⟩ := List.mem_iff_getElem?.1 hp
              obtain ⟨_, hrv⟩ := h3 j p hj
              simpa using hrv.len
            obtain ⟨cells, hrun, hcs, hcel⟩ := run_buildS (P := P) (w := w) (t := s) (e := e) (n := n) (parts := parts.map fun (i, x) => (i, a.eval x)) (vs := parts.toList.map fun p => a.eval p.2) hu hi hz hsz t.sz_pos hsmall (by rw [← h1]; simp) (by rw [List.length_map]; omega) hcsz
            have hrvs : RVs w (Ow X F1) t xs cells.toList := by
              refine ⟨by simp [hcs, hlen], fun j hj => ?_⟩
              have hjp : j < parts.toList.length := by omega
              obtain ⟨_, hrv⟩ := h3 j parts.toList[j] (List.getElem?_eq_getElem hjp)
              rw [hcel j (a.eval parts.toList[j].2) (by rw [List.getElem?_map, List.getElem?_eq_getElem hjp]; rfl)]
              exact hrv
            obtain ⟨env', F', k1, _, _, k4⟩ := hR1.newRow (N := nm) (hfr nm (Nat.le_refl _) (by omega)) hrvs e (by
              have := Nat.le_mul_of_pos_right n t.sz_pos
              have := maxLen_le
              omega)
            rw [Array.toArray_toList] at k1
            refine wp_value (v := .slice (some ⟨w.heap.size, 0, none⟩) n n) (w' := w.alloc (.cells cells e)) (by simp only [execOp, ho, Sem.run_bind, hrun, Result.andThen_ok]; rfl) (hk _ _ ?_)
            rw [St.apply_append, St.apply_cons]
            rw [hlen] at k4
            exact k1.fin o (fun M hM => hM.imp id (fun e => by subst e; exact ⟨Nat.le_refl _, by omega⟩)) (.inr rfl) k4
          · exact hk.elim
        · exact hk.elim
      · exact hk.elim
    · exact hk.elim
  · exact hk.elim
theorem mkI_ok {n : Int} {m : Nat} {k : Nat → Prop} (h : mkI False m n k) : 0 ≤ n ∧ n.toNat * m ≤ 281474976710656 ∧ k n.toNat := by
  unfold mkI at h
  split at h
  · split at h
    · exact ⟨‹_›, ‹_›, h⟩
    · exact h.elim
  · exact h.elim
theorem made_get {z : Array Value} {m s : Nat} (hz : z.size = s) (hs : 0 < s) {i : Nat} (hi : i < m) : ((madeCells z (m * s)).toList.drop (i * s)).take s = z.toList := by
  have him : i * s + s ≤ m * s := by rw [← Nat.succ_mul]; exact Nat.mul_le_mul_right _ hi
  apply List.ext_getElem?
  intro j
  rw [List.getElem?_take, List.getElem?_drop]
  by_cases hj : j < s
  · rw [if_pos hj]
    simp only [madeCells, Array.toList_map, Array.toList_range, List.getElem?_map]
    rw [List.getElem?_range (by omega)]
    simp only [Option.map_some, hz]
    rw [Nat.mul_comm, Nat.mul_add_mod, Nat.mod_eq_of_lt hj]
    simp [hz, hj]
  · rw [if_neg hj]
    symm
    rw [List.getElem?_eq_none_iff]
    simp
    omega
theorem sameOp_ok {x y : Operand} (h : sameOp x y = true) (a : Act) {σ : St} {k : IntKind} {n : Int} (hx : a.eval x = .int k n) : ∃ k', a.eval y = .int k' n := by
  unfold sameOp at h
  split at h
  · rename_i p q
    have e : p = q := by simpa using h
    subst e
    exact ⟨k, hx⟩
  · rename_i k1 p k2 q
    have e : p = q := by simpa using h
    subst e
    simp only [Act.eval, Value.int.injEq] at hx
    exact ⟨k2, by simp [Act.eval, hx.2]⟩
  · cases h
theorem make1 {P : Program} {o : Oper} {s e : TypeId} {t : Ty} {l c : Operand} {σ : St} {n : Int} (ho : o.op = .makeSlice s l c) {nm : Nat} (he : elOf P s = some (e, t)) (hl : σ.eval l = .val (.int .i64) n) (hsame : sameOp l c = true) (h0 : 0 ≤ n) (hm : n.toNat * byOf P e ≤ 281474976710656) :
    OpOk P nm o σ (.ob nm (.row e t (List.replicate n.toNat t.dft)) :: Go.Proofs.Ytlpooghphoohcaa.R.put o (.ref nm)) := by
  intro X W0 w0 D a w K Q hfr hR hk
  obtain ⟨env, F, hR⟩ := hR
  obtain ⟨hu, i, z, hi, hsz, _, hz, hzok, hby, hbye⟩ := elOf_spec he
  have hvl := hR.ev l
  rw [hl] at hvl
  have hvl : a.eval l = .int .i64 n := by simpa [PR, RV] using hvl
  obtain ⟨k', hvc⟩ := sameOp_ok hsame a (σ := σ) hvl
  have hrv := zeroOk_ok (w := w) (O := Ow X F) t _ hzok
  have hzs : z.cells.size = t.sz := by simpa using hrv.len
  rw [hbye] at hm
  have hle := Nat.le_mul_of_pos_right n.toNat hby
  have hmx : (281474976710656 : Nat) ≤ maxLen := by decide
  have hn : ((n.toNat : Nat) : Int) = n := Int.toNat_of_nonneg h0
  have hrun := run_make (P := P) w s e i z hu hi hz .i64 k' n n h0 (Int.le_refl _) (by
    have : ((n.toNat * i.bytes : Nat) : Int) ≤ 281474976710656 := by omega
    rw [Int.natCast_mul, hn] at this
    rw [Int.mul_comm]
    exact this) (by omega)
  rw [hsz] at hrun
  have hrvs : RVs w (Ow X F) t (List.replicate n.toNat t.dft) (madeCells z.cells (n.toNat * t.sz)).toList := by
    refine ⟨by simp [size_madeCells], fun j hj => ?_⟩
    have hj' : j < n.toNat := by simpa using hj
    rw [made_get hzs t.sz_pos hj']
    have : (List.replicate n.toNat t.dft).get ⟨j, hj⟩ = t.dft := by simp
    rw [this]
    exact hrv
  obtain ⟨env', F', k1, _, _, k4⟩ := hR.newRow (N := nm) (hfr nm (Nat.le_refl _) (by omega)) hrvs e (by rw [List.length_replicate]; omega)
  rw [Array.toArray_toList] at k1
  rw [List.length_replicate] at k4
  refine wp_value (v := .slice (some ⟨w.heap.size, 0, none⟩) n.toNat n.toNat) (w' := w.alloc (.cells (madeCells z.cells (n.toNat * t.sz)) e)) (by simp only [execOp, ho, hvl, hvc, Sem.run_bind, hrun, Result.andThen_ok]; rfl) (hk _ _ ?_)
  rw [St.apply_cons]
  exact k1.fin o (fun M hM => hM.imp id (fun e => by subst e; exact ⟨Nat.le_refl _, by omega⟩)) (.inr rfl) k4
theorem make_ok {P : Program} {o : Oper} {s : TypeId} {l c : Operand} {σ : St} (ho : o.op = .makeSlice s l c) {nm : Nat} {k : List Upd → Prop} (hk : makeP P False nm o s (sameOp l c) (σ.eval l) k) : ∃ us, k us ∧ OpOk P nm o σ us := by
  unfold makeP at hk
  split at hk
  · rename_i e t n he hl hsame
    obtain ⟨h0, hm, hk⟩ := mkI_ok hk
    exact ⟨_, hk, make1 ho he hl hsame h0 hm⟩
  · exact hk.elim
end Go.Proofs.Ytlpooghphoohcaa.R
/- append and copy. -/
namespace Go.Proofs.Ytlpooghphoohcaa.R
open Go.RowKit
set_option linter.unusedVariables false
set_option linter.unusedSimpArgs false

theorem RV_one {w : World} {O : Foot} : (t : Ty) → (x : t.El) → (vs : List Value) → RV w O t x vs → ∀ u ∈ vs, u.oneCell' = true
  | .int k, x, vs, h => by simp only [RV] at h; subst h; intro u hu; simp at hu; subst hu; rfl
  | .bool, x, vs, h => by simp only [RV] at h; subst h; intro u hu; simp at hu; subst hu; rfl
  | .str, x, vs, h => by simp only [RV] at h; subst h; intro u hu; simp at hu; subst hu; rfl
  | .flt k, x, vs, h => by simp only [RV] at h; subst h; intro u hu; simp at hu; subst hu; rfl
  | .sl t, x, vs, h => by
    simp only [RV] at h
    obtain ⟨a, c, us, rfl, _⟩ := h
    intro u hu
    simp at hu
    subst hu
    rfl
  | .pair a b, x, vs, h => by
    simp only [RV] at h
    obtain ⟨us, us', rfl, h1, h2⟩ := h
    intro u hu
    rcases List.mem_append.1 hu with hu | hu
    · exact RV_one a _ _ h1 u hu
    · exact RV_one b _ _ h2 u hu
theorem RVs.one {w : World} {O : Foot} {t : Ty} {xs : List t.El} {us : List Value} (h : RVs w O t xs us) : ∀ u ∈ us, u.oneCell' = true := by
  intro u hu
  obtain ⟨j, hj⟩ := List.mem_iff_getElem?.1 hu
  have hlt := (List.getElem?_eq_some_iff.1 hj).1
  rw [h.1] at hlt
  have hp := t.sz_pos
  have hi : j / t.sz < xs.length := (Nat.div_lt_iff_lt_mul hp).2 hlt
  refine RV_one t _ _ (h.2 _ hi) u ?_
  refine List.mem_iff_getElem?.2 ⟨j % t.sz, ?_⟩
  rw [List.getElem?_take, if_pos (Nat.mod_lt _ hp), List.getElem?_drop, Nat.mul_comm, Nat.div_add_mod]
  exact hj
theorem RVs.append {w : World} {O : Foot} {t : Ty} {xs ys : List t.El} {us vs : List Value} (h : RVs w O t xs us) (k : RVs w O t ys vs) : RVs w O t (xs ++ ys) (us ++ vs) := by
  obtain ⟨h1, h2⟩ := h
  obtain ⟨k1, k2⟩ := k
  refine ⟨by rw [List.length_append, List.length_append, h1, k1, Nat.add_mul], fun i hi => ?_⟩
  by_cases hx : i < xs.length
  · have hg : (xs ++ ys).get ⟨i, hi⟩ = xs.get ⟨i, hx⟩ := by simp [List.getElem_append_left hx]
    rw [hg]
    have him : i * t.sz + t.sz ≤ xs.length * t.sz := by rw [← Nat.succ_mul]; exact Nat.mul_le_mul_right _ hx
    rw [List.drop_append_of_le_length (by omega), List.take_append_of_le_length (by rw [List.length_drop]; omega)]
    exact h2 i hx
  · have hy : i - xs.length < ys.length := by rw [List.length_append] at hi; omega
    have hg : (xs ++ ys).get ⟨i, hi⟩ = ys.get ⟨i - xs.length, hy⟩ := by simp [List.getElem_append_right (Nat.le_of_not_lt hx)]
    rw [hg]
    have e : i * t.sz = us.length + (i - xs.length) * t.sz := by rw [h1, ← Nat.add_mul]; congr 1; omega
    rw [e, ← List.drop_drop, List.drop_left]
    exact k2 _ hy
theorem RVs.len_le {w : World} {O : Foot} {t : Ty} {xs : List t.El} {us : List Value} (h : RVs w O t xs us) : xs.length ≤ us.length := by
  rw [h.1]; exact Nat.le_mul_of_pos_right _ t.sz_pos
/-- A slice's content, as it is. -/
theorem cont_ok {X W0 : Foot} {w0 : World} {D : Nat → Prop} {σ : St} {a : Act} {w : World} {env : Nat → Value} {F : Nat → Foot} (hR : Rl X W0 w0 D σ a w env F) {h : Nat → PV} (hv : Vw h σ) {t : Ty} {p : PV} {ys : List t.El} (hc : cont h t p = some ys) {v : Value}
    (hp : PR env D w (Ow X F) p v) : ∃ aa c us, v = .slice aa ys.length c ∧ RVs w (Ow X F) t ys us ∧ (us ≠ [] → ∃ b o, aa = some ⟨b, o, none⟩ ∧ ∀ j u, us[j]? = some u → cl w b (o + j) = some u) := by
  have fromRV : ∀ {ys : List t.El}, RV w (Ow X F) (.sl t) ys [v] → ∃ aa c us, v = .slice aa ys.length c ∧ RVs w (Ow X F) t ys us ∧ (us ≠ [] → ∃ b o, aa = some ⟨b, o, none⟩ ∧ ∀ j u, us[j]? = some u → cl w b (o + j) = some u) := by
    intro ys h
    obtain ⟨aa, c, us, he, hr, hm, _⟩ := RV_sl.1 h
    refine ⟨aa, c, us, he, hr, fun hne => ?_⟩
    obtain ⟨b, o, hb, hl⟩ := hm hne
    exact ⟨b, o, hb, fun j u hu => (hl j u hu).1⟩
  unfold cont at hc
  have castT : ∀ {t' : Ty} {xs : List t'.El}, ofPV (.sl t) (.val (.sl t') xs) = some ys → ∃ e : t' = t, (e ▸ xs : List t.El) = ys := by
    intro t' xs h
    simp only [ofPV] at h
    split at h
    · rename_i e
      have e' : t' = t := by injection e
      subst e'
      injection h with h
      exact ⟨rfl, h⟩
    · cases h
  cases p with
  | ref N =>
    simp only [PR] at hp
    obtain ⟨hd, rfl⟩ := hp
    have hc : ofPV (.sl t) (match h N with | .row _ t xs => .val (.sl t) xs | .val t x => .val t x | _ => .dead) = some ys := hc
    cases hN : h N with
    | row e t' xs =>
      rw [hN] at hc
      obtain ⟨e', h2⟩ := castT hc
      subst e'
      subst h2
      obtain ⟨aa, c, us, hen, hr, hm, _⟩ := hR.hdr (.inl ⟨e, hv.eq hN (by simp)⟩)
      exact ⟨aa, c, us, hen, hr, hm⟩
    | val t' x =>
      rw [hN] at hc
      have hob := hR.ob N
      rw [hv.eq hN (by simp)] at hob
      simp only [OB] at hob
      exact fromRV (ofPV_ok hc hob.1)
    | _ =>
      rw [hN] at hc
      cases hc
  | win N s lo n =>
    simp only [PR] at hp
    obtain ⟨hd, hle, aa, c, rfl, _, hm⟩ := hp
    have key : ∀ (t' : Ty) (xs : List t'.El), (∃ e, look σ.ob N = .row e t' xs) ∨ look σ.ob N = .val (.sl t') xs → s = t'.sz → ofPV (.sl t) (.val (.sl t') ((xs.drop lo).take n)) = some ys →
        ∃ aa' c' us, Value.slice aa n c = .slice aa' ys.length c' ∧ RVs w (Ow X F) t ys us ∧ (us ≠ [] → ∃ b o, aa' = some ⟨b, o, none⟩ ∧ ∀ j u, us[j]? = some u → cl w b (o + j) = some u) := by
      intro t' xs ho hs hc
      obtain ⟨e', h2⟩ := castT hc
      subst e'
      obtain ⟨aa', c', us, hen, hr, hm', _⟩ := hR.hdr ho
      rw [hen] at hle hm
      simp only [hlen] at hle
      have hl := len_part xs hle
      have h2 : (xs.drop lo).take n = ys := h2
      have hys : ys.length = n := by rw [← h2]; exact hl
      have hpr := hr.part hle
      rw [h2] at hpr
      refine ⟨aa, c, _, by rw [hys], hpr, fun hne => ?_⟩
      have hn0 : n ≠ 0 := by rintro rfl; simp at hne
      obtain ⟨b, o, hbb, rfl⟩ := hm hn0
      obtain ⟨b', o', rfl, hl'⟩ := hm' (hr.pos (i := lo) (by omega))
      simp only [hb, Option.some.injEq, Prod.mk.injEq] at hbb
      obtain ⟨rfl, rfl⟩ := hbb
      refine ⟨b', _, rfl, fun j u hu => ?_⟩
      rw [List.getElem?_take] at hu
      split at hu
      · rw [List.getElem?_drop] at hu
        have := hl' _ _ hu
        rwa [hs, Nat.add_assoc]
      · cases hu
    simp only [rdc, rd1] at hc
    split at hc
    · rename_i e t' xs hN
      split at hc
      · exact key t' xs (.inl ⟨e, hv.eq hN (by simp)⟩) ‹_› hc
      · simp [ofPV] at hc
    · rename_i t' xs hN
      split at hc
      · exact key t' xs (.inr (hv.eq hN (by simp))) ‹_› hc
      · simp [ofPV] at hc
    · simp [ofPV] at hc
  | val t' x =>
    simp only [rdc, rd1] at hc
    exact fromRV (ofPV_ok hc hp)
  | nil =>
    simp only [rdc, rd1] at hc
    exact fromRV (ofPV_ok hc hp)
  | tst c d => simp [rdc, ofPV] at hc
  | _ => simp [rdc, ofPV] at hc
theorem run_append0 {P : Program} {w : World} {t ty e : TypeId} {i : TypeInfo} (hu : P.underlying t = some (.slice e)) (hi : P.info? e = some i) {base aa : Option Addr} {n cap c : Nat} (hn : n ≤ cap) :
    (Builtin.append_ #[t, t] ty #[.slice base n cap, .slice aa 0 c]).run P w = .ok (.slice base n cap) w := by
  cases aa <;> cases base <;> simp [Builtin.append_, run_underlying hu, sizeOf, typeInfo, hi, Builtin.lenOf, Builtin.firstCells, loadCells, loadCellsFrom, hn, storeCells]
/-- append, of whatever row of our own (or of nil). -/
theorem run_append {P : Program} {w : World} {s ty e : TypeId} {t : Ty} (he : elOf P s = some (e, t)) {v : Value} {n : Nat} {us : List Value} (hown : w.ownsRow 0 e t.sz v n us) {aa : Option Addr} {m c : Nat} {vs : List Value} (hl : vs.length = m * t.sz)
    (hm : vs ≠ [] → ∃ b o, aa = some ⟨b, o, none⟩ ∧ ∀ j u, vs[j]? = some u → cl w b (o + j) = some u) (h1 : ∀ u ∈ vs, u.oneCell' = true) (hb : (n + m) * byOf P e ≤ 140737488355328) :
    ∃ v' w', (Builtin.append_ #[s, s] ty #[v, .slice aa m c]).run P w = .ok v' w' ∧ w'.ownsRow 0 e t.sz v' (n + m) (us ++ vs) ∧ w.grownBy w' v.ownBlock ∧ (v'.ownBlock = v.ownBlock ∨ v'.ownBlock = some w.heap.size) := by
  obtain ⟨hu, i, z, hi, hsz, _, hz, hzok, hby, hbye⟩ := elOf_spec he
  by_cases h0 : m = 0
  · subst h0
    have hvs : vs = [] := List.eq_nil_of_length_eq_zero (by simpa using hl)
    subst hvs
    obtain ⟨ba, cc, rfl, hcap, _⟩ := own_form hown
    exact ⟨_, w, run_append0 hu hi hcap, by simpa using hown, ⟨rfl, rfl, rfl, Nat.le_refl _, fun _ _ _ => rfl⟩, .inl rfl⟩
  · have hne : vs ≠ [] := by
      rintro rfl
      have := Nat.mul_pos (Nat.pos_of_ne_zero h0) t.sz_pos
      simp at hl
      omega
    obtain ⟨b, o, rfl, hc⟩ := hm hne
    have hzs : z.cells.size = t.sz := by
      have := (zeroOk_ok (w := w) (O := fun _ _ => False) t _ hzok).len
      simpa using this
    rw [hbye] at hb
    have hle := Nat.le_mul_of_pos_right (n + m) hby
    have hmx : (140737488355328 : Nat) ≤ maxLen := by decide
    obtain ⟨v', w', k1, k2, k3, _, k5⟩ := run_append_own_at (P := P) w 0 s ty e i z t.sz i.bytes hu hi hz hsz rfl hzs t.sz_pos v n us hown ⟨b, o, none⟩ m c vs hl (fun j u hj => by rw [add_at]; exact hc j u hj) h1 (by omega) hb (Nat.zero_le _)
    exact ⟨v', w', k1, k2, k3, k5⟩
/-- A row is used up; a new one takes its place. -/
theorem Rl.swap {X W0 : Foot} {w0 : World} {D : Nat → Prop} {σ : St} {a : Act} {w w' : World} {env : Nat → Value} {F : Nat → Foot} (h : Rl X W0 w0 D σ a w env F) {M N : Nat} (hM : D M) (hN : ¬ D N) {e : TypeId} {t : Ty} {xs : List t.El} (hob : look σ.ob M = .row e t xs)
    {v : Value} {zs : List t.El} {us : List Value} (hg : w.grownBy w' (env M).ownBlock) (hown : w'.ownsRow 0 e t.sz v zs.length us) (hr : RVs w (Ow X F) t zs us) (hat : v.ownBlock = (env M).ownBlock ∨ v.ownBlock = some w.heap.size) :
    ∃ env' F', Rl X W0 w0 (fun K => D K ∨ K = N) (σ.apply [.ob M .dead, .ob N (.row e t zs)]) a w' env' F' ∧ env' N = v := by
  have hne : M ≠ N := fun e => hN (e ▸ hM)
  have hobM := h.ob M
  rw [hob] at hobM
  simp only [OB] at hobM
  obtain ⟨us0, hown0, hr0, hF⟩ := hobM
  have hFM : ∀ b o, F M b o ↔ (env M).ownBlock = some b := fun b o => by rw [hF]
  refine ⟨fun K => if K = N then v else env K, fun K => if K = N then (fun b _ => v.ownBlock = some b) else if K = M then (fun _ _ => False) else F K, ?_, by simp⟩
  refine h.step (V := fun b _ => (env M).ownBlock = some b) (fun K => K = M ∨ K = N) rfl ?_ ?_ ?_ ?_ ?_ ?_ ?_ (fun _ h => .inl h) ?_ ?_ ?_
  · exact Keep.grown hg fun b hb hlt => .inl fun i => hb
  · intro b o hv
    exact ⟨M, .inl rfl, (hFM b o).2 hv⟩
  · intro K hK
    simp only [not_or] at hK
    refine ⟨?_, by simp [hK.1, hK.2], by simp [hK.2]⟩
    simp [St.apply, St.upd, look_upd, Ne.symm hK.1, Ne.symm hK.2]
  · rintro K hK b o hKb
    by_cases eN : K = N
    · simp only [eN, if_true] at hKb
      rcases hat with hat | hat
      · left
        exact ⟨M, .inl rfl, (hFM b o).2 (hat ▸ hKb)⟩
      · right
        rw [hat] at hKb
        injection hKb with hKb
        omega
    · rcases hK with rfl | hK
      · simp [hne] at hKb
      · exact (eN hK).elim
  · rintro K hK b o hKb
    by_cases eN : K = N
    · simp only [eN, if_true] at hKb
      rcases hown.2 with ⟨rfl, _⟩ | ⟨g, cap, cur, rfl, _, hh, _⟩
      · simp [Value.ownBlock] at hKb
      · simp [Value.ownBlock] at hKb
        subst hKb
        exact (Array.getElem?_eq_some_iff.1 hh).1
    · rcases hK with rfl | hK
      · simp [hne] at hKb
      · exact (eN hK).elim
  · rintro K K' b o hK hK' hKK h1 h2
    rcases hK with rfl | rfl <;> rcases hK' with rfl | rfl
    · exact hKK rfl
    · simp [hne] at h1
    · simp [hne] at h2
    · exact hKK rfl
  · intro K hK
    have : K ≠ N := fun e => hN (e ▸ hK)
    simp [this]
  · rintro K (hK | rfl)
    · have : K ≠ N := fun e => hN (e ▸ hK)
      simpa [this] using h.hd K hK
    · simp only [if_true]
      obtain ⟨aa, c, rfl, _⟩ := own_form hown
      exact .inl ⟨_, _, _, rfl⟩
  · intro K hK
    simp only [not_or] at hK
    have hKM : M ≠ K := fun e => hK.1 (e ▸ hM)
    simp only [St.apply, St.upd, List.foldl_cons, List.foldl_nil, look_upd, Ne.symm hK.2, hKM, if_false]
    exact h.dm K hK.1
  · rintro hs K hK
    by_cases eN : K = N
    · subst eN
      simp only [St.apply, St.upd, List.foldl_cons, List.foldl_nil, look_upd, if_true, OB]
      exact ⟨us, hown, hr.mono hs, by simp⟩
    · rcases hK with rfl | hK
      · simp only [St.apply, St.upd, List.foldl_cons, List.foldl_nil, look_upd, Ne.symm eN, if_false, if_true, hne, OB, PR]
        exact ⟨trivial, trivial⟩
      · exact (eN hK).elim
theorem append_ok {P : Program} {o : Oper} {c : Call} {s : TypeId} {x y : Operand} {σ : St} {h : Nat → PV} (hv : Vw h σ) (ho : o.op = .call c) (hcal : c.callee = .builtin .append) (hargs : c.args = #[x, y]) (hty : c.argTypes = #[s, s]) {nm : Nat} {k : List Upd → Prop}
    (hk : appendP P False h nm o s (σ.eval x) (σ.eval y) k) : ∃ us, k us ∧ OpOk P nm o σ us := by
  have hexec : ∀ (a : Act) (w w' : World) (v : Value), (Builtin.append_ #[s, s] o.type #[a.eval x, a.eval y]).run P w = .ok v w' → (execOp a.eval o).run P w = .ok (.value v) w' := by
    intro a w w' v hr
    simp [execOp, ho, resolve, hcal, hargs, hty, invoke, builtin, hr]
  unfold appendP at hk
  split at hk
  · rename_i e t he
    split at hk
    · rename_i ys hc
      split at hk
      · rename_i hx
        split at hk
        · rename_i hb
          refine ⟨_, hk, ?_⟩
          intro X W0 w0 D a w K Q hfr hR hk
          obtain ⟨env, F, hR⟩ := hR
          have hex := hR.ev x
          rw [hx] at hex
          simp only [PR] at hex
          obtain ⟨aa, cc, us, hy, hr, hm⟩ := cont_ok hR hv hc (hR.ev y)
          obtain ⟨v', w', hrun, hown, hg, hat⟩ := run_append (P := P) (w := w) (ty := o.type) (c := cc) he (World.ownsRow_nil w 0 e t.sz) hr.1 hm hr.one (by rw [Nat.zero_add]; exact hb)
          rw [Nat.zero_add, List.nil_append] at hown
          obtain ⟨env', F', k1, _, _, k4⟩ := hR.add (hfr nm (Nat.le_refl _) (by omega)) (.row e t ys) (V := fun _ _ => False) (w' := w') (Keep.grown hg (fun b hb => by cases hb)) (fun _ _ => id) (v := v') (G := fun b _ => v'.ownBlock = some b) (fun b o' hgb => by
            rcases hat with hat | hat
            · rw [hat] at hgb; cases hgb
            · rw [hat] at hgb
              injection hgb with hgb
              have : b < w'.heap.size := by
                rcases hown.2 with ⟨rfl, _⟩ | ⟨g, cap, cur, rfl, _, hh, _⟩
                · simp [Value.ownBlock] at hat
                · simp [Value.ownBlock] at hat
                  rw [← hgb, ← hat]
                  exact (Array.getElem?_eq_some_iff.1 hh).1
              omega) (by obtain ⟨aa, c, rfl, _⟩ := own_form hown; exact .inl ⟨_, _, _, rfl⟩) (by
            intro env' _ hee hs
            simp only [OB]
            exact ⟨us, hown, hr.mono hs, by simp⟩)
          refine wp_value (v := v') (w' := w') (hexec a w w' v' (by rw [hex, hy]; exact hrun)) (hk _ _ ?_)
          rw [St.apply_cons]
          exact k1.fin o (fun M hM => hM.imp id (fun e => by subst e; exact ⟨Nat.le_refl _, by omega⟩)) (.inr rfl) k4
        · exact hk.elim
      · rename_i N hx
        split at hk
        · rename_i e' t' xs hN
          split at hk
          · rename_i ht
            subst ht
            split at hk
            · rename_i hee
              subst hee
              split at hk
              · rename_i hb
                refine ⟨_, hk, ?_⟩
                intro X W0 w0 D a w K Q hfr hR hk
                obtain ⟨env, F, hR⟩ := hR
                have hex := hR.ev x
                rw [hx] at hex
                simp only [PR] at hex
                have hob := hR.ob N
                have hNl := hv.eq hN (by simp)
                rw [hNl] at hob
                simp only [OB] at hob
                obtain ⟨us0, hown0, hr0, hF⟩ := hob
                obtain ⟨aa, cc, us, hy, hr, hm⟩ := cont_ok hR hv hc (hR.ev y)
                obtain ⟨v', w', hrun, hown, hg, hat⟩ := run_append (P := P) (w := w) (ty := o.type) (c := cc) he hown0 hr.1 hm hr.one hb
                rw [← List.length_append] at hown
                obtain ⟨env', F', k1, k4⟩ := hR.swap hex.1 (hfr nm (Nat.le_refl _) (by omega)) hNl hg hown (hr0.append hr) hat
                refine wp_value (v := v') (w' := w') (hexec a w w' v' (by rw [hex.2, hy]; exact hrun)) (hk _ _ ?_)
                rw [St.apply_cons, St.apply_cons]
                exact k1.fin o (fun M hM => hM.imp id (fun e => by subst e; exact ⟨Nat.le_refl _, by omega⟩)) (.inr rfl) k4
              · exact hk.elim
            · exact hk.elim
          · exact hk.elim
        · exact hk.elim
      · exact hk.elim
    · exact hk.elim
  · exact hk.elim
theorem run_copy {P : Program} {w : World} {s ty e : TypeId} {t : Ty} (he : elOf P s = some (e, t)) {b oo n cap : Nat} {aa : Option Addr} {m c : Nat} {vs : List Value} {s2 : TypeId} (hl : vs.length = m * t.sz)
    (hm : vs ≠ [] → ∃ b o, aa = some ⟨b, o, none⟩ ∧ ∀ j u, vs[j]? = some u → cl w b (o + j) = some u) (h1 : ∀ u ∈ vs, u.oneCell' = true)
    (hc : ∀ j, j < min m n * t.sz → (cl w b (oo + j)).isSome = true) (hf : ∀ j, j < min m n * t.sz → w.frozen? ⟨b, oo + j, none⟩ = false) :
    (Builtin.copy_ #[s, s2] ty #[.slice (some ⟨b, oo, none⟩) n cap, .slice aa m c]).run P w = .ok (goInt (min m n : Nat)) (w.setCells b oo (vs.take (min m n * t.sz))) := by
  obtain ⟨hu, i, z, hi, hsz, _⟩ := elOf_spec he
  have hle : min m n * t.sz ≤ m * t.sz := Nat.mul_le_mul_right _ (Nat.min_le_left _ _)
  have hlt : (vs.take (min m n * t.sz)).length = min m n * t.sz := by rw [List.length_take]; omega
  have hfc : (Builtin.firstCells t.sz (min m n) (.slice aa m c)).run P w = .ok (vs.take (min m n * t.sz)).toArray w := by
    by_cases h0 : vs = []
    · subst h0
      have hz : min m n * t.sz = 0 := by simp at hl; omega
      cases aa <;> simp [Builtin.firstCells, hz, loadCells, loadCellsFrom]
    · obtain ⟨b', o', rfl, hcc⟩ := hm h0
      have := run_loadCells_list (P := P) (w := w) ⟨b', o', none⟩ (vs.take (min m n * t.sz)) (fun j v hj => by
        rw [List.getElem?_take] at hj
        split at hj
        · rw [add_at]; exact hcc j v hj
        · cases hj)
      rw [hlt] at this
      simpa [Builtin.firstCells] using this
  have hst := run_storeCells_cells (P := P) b oo (vs.take (min m n * t.sz)) 0 w (fun j hj => by simpa [cl] using hc j (by omega)) (fun j hj => by simpa using hf j (by omega)) (fun u hu => h1 u (List.mem_of_mem_take hu))
  simp only [Builtin.copy_]
  simp only [List.getElem?_toArray, List.getElem?_cons_zero, List.getElem?_cons_succ]
  simp [run_underlying hu, Builtin.lenOf, sizeOf, typeInfo, hi, hsz, hfc, hst]
theorem spl_rows {w : World} {O : Foot} {t : Ty} {xs ys : List t.El} {us vs : List Value} (h : RVs w O t xs us) (k : RVs w O t ys vs) {lo n : Nat} (hlo : lo + n ≤ xs.length) :
    RVs w O t (xs.take lo ++ ys.take n ++ xs.drop (lo + min ys.length n)) (spl us (lo * t.sz) (vs.take (min ys.length n * t.sz))) := by
  have e1 : xs.take lo = (xs.drop 0).take lo := by simp
  have p1 := h.part (l := 0) (n := lo) (by omega)
  have hmin : ys.take n = (ys.drop 0).take (min ys.length n) := by
    rw [List.drop_zero]
    rcases Nat.le_total n ys.length with hle | hle
    · rw [Nat.min_eq_right hle]
    · rw [Nat.min_eq_left hle, List.take_of_length_le hle, List.take_of_length_le (Nat.le_refl _)]
  have p2 := k.part (l := 0) (n := min ys.length n) (by omega)
  have hdr : xs.drop (lo + min ys.length n) = (xs.drop (lo + min ys.length n)).take (xs.length - (lo + min ys.length n)) := by
    rw [List.take_of_length_le]; rw [List.length_drop]; exact Nat.le_refl _
  have p3 := h.part (l := lo + min ys.length n) (n := xs.length - (lo + min ys.length n)) (by omega)
  rw [← e1] at p1
  rw [← hmin] at p2
  rw [← hdr] at p3
  have hle : min ys.length n * t.sz ≤ ys.length * t.sz := Nat.mul_le_mul_right _ (Nat.min_le_left _ _)
  have hvl : (vs.take (min ys.length n * t.sz)).length = min ys.length n * t.sz := by rw [List.length_take, k.1]; omega
  have := (p1.append p2).append p3
  refine Eq.mp ?_ this
  congr 1
  unfold spl
  rw [hvl]
  simp only [Nat.zero_mul, List.drop_zero]
  congr 1
  rw [← Nat.add_mul, List.take_of_length_le]
  rw [List.length_drop, h.1, Nat.sub_mul]
  exact Nat.le_refl _
theorem run_copy0 {P : Program} {w : World} {s ty e : TypeId} {t : Ty} (he : elOf P s = some (e, t)) {ba aa : Option Addr} {n cap m c : Nat} {s2 : TypeId} (h0 : min m n = 0) :
    (Builtin.copy_ #[s, s2] ty #[.slice ba n cap, .slice aa m c]).run P w = .ok (goInt (0 : Nat)) w := by
  obtain ⟨hu, i, z, hi, hsz, _⟩ := elOf_spec he
  simp only [Builtin.copy_]
  simp only [List.getElem?_toArray, List.getElem?_cons_zero, List.getElem?_cons_succ]
  have h0' : Nat.min m n = 0 := h0
  cases ba <;> cases aa <;> simp [run_underlying hu, Builtin.lenOf, sizeOf, typeInfo, hi, hsz, Builtin.firstCells, h0', loadCells, loadCellsFrom, storeCells]
/-- copy into a part of a row. -/
theorem copy1 {P : Program} {o : Oper} {c : Call} {s s2 e0 e : TypeId} {t : Ty} {x y : Operand} {σ : St} {h : Nat → PV} (hv : Vw h σ) (ho : o.op = .call c) (hcal : c.callee = .builtin .copy) (hargs : c.args = #[x, y]) (hty : c.argTypes = #[s, s2]) {nm : Nat} {t0 : Ty} (he : elOf P s = some (e0, t0))
    (hsz : t.sz = t0.sz) {N lo n : Nat} {xs ys : List t.El} (hN : look σ.ob N = .row e t xs) (hx : (σ.eval x = .ref N ∧ lo = 0 ∧ n = xs.length) ∨ σ.eval x = .win N t.sz lo n) (hc : cont h t (σ.eval y) = some ys) :
    OpOk P nm o σ (.ob N (.row e t (xs.take lo ++ ys.take n ++ xs.drop (lo + min ys.length n))) :: Go.Proofs.Ytlpooghphoohcaa.R.put o (.val (.int .i64) ((min ys.length n : Nat) : Int))) := by
  intro X W0 w0 D a w K Q hfr hR hk
  obtain ⟨env, F, hR⟩ := hR
  have hexec : ∀ (w w' : World) (v : Value), (Builtin.copy_ #[s, s2] o.type #[a.eval x, a.eval y]).run P w = .ok v w' → (execOp a.eval o).run P w = .ok (.value v) w' := by
    intro w w' v hr
    simp [execOp, ho, resolve, hcal, hargs, hty, invoke, builtin, hr]
  have hd : D N := hR.dom (by rw [hN]; simp)
  have hob := hR.ob N
  rw [hN] at hob
  simp only [OB] at hob
  obtain ⟨us, hown, hr, hF⟩ := hob
  obtain ⟨ba, cp, hen, hcap, hg⟩ := own_form hown
  obtain ⟨aa, cc, vs, hy, hrv, hm⟩ := cont_ok hR hv hc (hR.ev y)
  -- the destination
  have hdst : lo + n ≤ xs.length ∧ ∃ da dc, a.eval x = .slice da n dc ∧ (n ≠ 0 → ∃ g, env N = .slice (some ⟨g, 0, none⟩) xs.length cp ∧ da = some ⟨g, lo * t.sz, none⟩) := by
    have hex := hR.ev x
    rcases hx with ⟨hx, rfl, rfl⟩ | hx
    · rw [hx] at hex
      simp only [PR] at hex
      rw [hen] at hex
      refine ⟨by omega, ba, cp, hex.2, fun hn => ?_⟩
      obtain ⟨g, rfl⟩ := hg (hr.pos (i := 0) (by omega))
      exact ⟨g, hen, by simp⟩
    · rw [hx] at hex
      simp only [PR] at hex
      obtain ⟨_, hle, da, dc, hv', _, hm'⟩ := hex
      rw [hen] at hle hm'
      simp only [hlen] at hle
      refine ⟨hle, da, dc, hv', fun hn => ?_⟩
      obtain ⟨b, o', hbb, rfl⟩ := hm' hn
      obtain ⟨g, rfl⟩ := hg (hr.pos (i := lo) (by omega))
      simp only [hb, Option.some.injEq, Prod.mk.injEq] at hbb
      obtain ⟨rfl, rfl⟩ := hbb
      exact ⟨g, hen, by simp⟩
  obtain ⟨hle, da, dc, hdx, hdn⟩ := hdst
  have hlen' : (xs.take lo ++ ys.take n ++ xs.drop (lo + min ys.length n)).length = xs.length := by
    simp only [List.length_append, List.length_take, List.length_drop]
    omega
  have hsp := spl_rows hr hrv hle
  by_cases h0 : min ys.length n = 0
  · have hrun := run_copy0 (P := P) (w := w) (ty := o.type) (s2 := s2) he (ba := da) (aa := aa) (cap := dc) (c := cc) h0
    refine wp_value (v := goInt (0 : Nat)) (w' := w) (hexec w w _ (by rw [hdx, hy]; exact hrun)) (hk _ _ ?_)
    rw [St.apply_cons]
    have hxs : xs.take lo ++ ys.take n ++ xs.drop (lo + min ys.length n) = xs := by
      have : ys.take n = [] := by
        apply List.eq_nil_of_length_eq_zero
        rw [List.length_take]
        omega
      rw [this, h0, Nat.add_zero, List.append_nil, List.take_append_drop]
    rw [hxs, h0]
    exact R.grow (R.of ((hR.same hN).puto o (by simp [PR, RV, goInt]))) (fun _ h => .inl h)
  · have hn : n ≠ 0 := by omega
    obtain ⟨g, heng, rfl⟩ := hdn hn
    have hmn : lo * t.sz + min ys.length n * t.sz ≤ us.length := by
      rw [hr.1, ← Nat.add_mul]
      exact Nat.mul_le_mul_right _ (by omega)
    have hown' := hown
    rw [heng] at hown'
    have hrun := run_copy (P := P) (w := w) (ty := o.type) (s2 := s2) (t := t0) he (b := g) (oo := lo * t.sz) (n := n) (cap := dc) (aa := aa) (m := ys.length) (c := cc) (vs := vs) (by rw [hrv.1, hsz]) hm hrv.one
      (fun j hj => by
        rw [← hsz] at hj
        rw [show cl w g (lo * t.sz + j) = us[lo * t.sz + j]? from hown'.cellAt _ (by have := hown.1; omega), List.getElem?_eq_getElem (by omega)]; rfl) (fun j hj => hown'.frozenAt _)
    rw [← hsz] at hrun
    refine wp_value (v := goInt (min ys.length n : Nat)) (w' := w.setCells g (lo * t.sz) (vs.take (min ys.length n * t.sz))) (hexec w _ _ (by rw [hdx, hy]; exact hrun)) (hk _ _ ?_)
    rw [St.apply_cons]
    have hvl : (vs.take (min ys.length n * t.sz)).length = min ys.length n * t.sz := by
      have : min ys.length n * t.sz ≤ ys.length * t.sz := Nat.mul_le_mul_right _ (Nat.min_le_left _ _)
      rw [List.length_take, hrv.1]; omega
    have hk' := Keep.setCells g (vs.take (min ys.length n * t.sz)) (lo * t.sz) w
    obtain ⟨e1, e2, e3⟩ := hR.one N (.row e t (xs.take lo ++ ys.take n ++ xs.drop (lo + min ys.length n))) hk' (by
        rintro b' o' ⟨rfl, h2, h3⟩
        rw [hF, heng]
        rfl) (G := F N) (fun b' o' h => .inl h) (fun b' o' h => Nat.lt_of_lt_of_le (hR.lt N b' o' h) hk'.size) (v := env N) (fun _ => rfl) (hR.hd N hd) (by
      intro env' _ hee hs
      simp only [OB]
      refine ⟨spl us (lo * t.sz) (vs.take (min ys.length n * t.sz)), ?_, hsp.mono hs, hF⟩
      rw [heng, hlen']
      exact own_setCells _ _ w us hown' (by rw [hvl]; exact hmn))
    exact R.grow (R.of ((e1.sameD hd).puto o (by simp [PR, RV, goInt]))) (fun _ h => .inl h)
theorem copy_ok {P : Program} {o : Oper} {c : Call} {s s2 e0 : TypeId} {t0 : Ty} {x y : Operand} {σ : St} {h : Nat → PV} (hv : Vw h σ) (ho : o.op = .call c) (hcal : c.callee = .builtin .copy) (hargs : c.args = #[x, y]) (hty : c.argTypes = #[s, s2]) {nm : Nat} (he : elOf P s = some (e0, t0)) {k : List Upd → Prop}
    (hk : copyP (szOf P e0) False h o (σ.eval x) (σ.eval y) k) : ∃ us, k us ∧ OpOk P nm o σ us := by
  obtain ⟨_, _, _, _, _, hsz, _⟩ := elOf_spec he
  unfold copyP at hk
  split at hk
  · rename_i N hx
    split at hk
    · rename_i e t xs hN
      split at hk
      · rename_i ht
        split at hk
        · rename_i ys hc
          exact ⟨_, hk, copy1 hv ho hcal hargs hty he (by omega) (hv.eq hN (by simp)) (.inl ⟨hx, rfl, rfl⟩) hc⟩
        · exact hk.elim
      · exact hk.elim
    · exact hk.elim
  · rename_i N s' lo n hx
    split at hk
    · rename_i e t xs hN
      split at hk
      · rename_i ht
        split at hk
        · rename_i ys hc
          exact ⟨_, hk, copy1 hv ho hcal hargs hty he (by omega) (hv.eq hN (by simp)) (.inr (by rw [hx, ht.1])) hc⟩
        · exact hk.elim
      · exact hk.elim
    · exact hk.elim
  · exact hk.elim
end Go.Proofs.Ytlpooghphoohcaa.R
