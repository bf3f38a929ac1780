/- How the code is read: plain states and the machine. Texts joined, in their order. -/
import Derived.Test.YtlpooghphoohcaaZR3
/- Rows of rows of our own: one of them by itself, and back. -/
namespace Go.Proofs.Ytlpooghphoohcaa.R
open Go.RowKit
set_option linter.unusedVariables false
set_option linter.unusedSimpArgs false
theorem noSl.closed {h : Nat → PV} (N : Nat) : noSl (close1 h N) := by
  intro u hu
  unfold close1 at hu
  repeat' split at hu
  all_goals first
    | (cases hu; done)
    | (simp at hu; done)
    | (simp only [List.mem_cons, List.not_mem_nil, or_false] at hu
       rcases hu with rfl | rfl
       · exact ⟨_, _, rfl⟩
       · exact ⟨_, _, rfl⟩)
theorem noSl.append {us vs : List Upd} (h : noSl us) (k : noSl vs) : noSl (us ++ vs) := fun u hu => (List.mem_append.1 hu).elim (h u) (k u)
theorem noSl.closeF : (L : List Nat) → (h : Nat → PV) → noSl (Go.Proofs.Ytlpooghphoohcaa.R.closeF L h)
  | [], h => fun u hu => by cases hu
  | N :: r, h => (noSl.closed N).append (noSl.closeF r _)
theorem Vw.updF {h : Nat → PV} {σ : St} (hv : Vw h σ) (us : List Upd) : Vw (Go.Proofs.Ytlpooghphoohcaa.R.updF h us) (σ.apply us) := by
  intro N
  rw [look_apply]
  unfold Go.Proofs.Ytlpooghphoohcaa.R.updF
  cases lastOb us N with
  | some q => exact .inl rfl
  | none => exact hv N
theorem alN_none (i : Nat) : alN none i = none := rfl
theorem alN_some {i j M : Nat} (h : i ≠ j) : alN (some (j, M)) i = none := by simp [alN, h]
section
variable {X W0 : Foot} {w0 : World} {D : Nat → Prop} {σ : St} {a : Act} {w : World} {env : Nat → Value} {F : Nat → Foot}
/-- The row that stands for itself comes back. -/
theorem MatOk.close {e e' : TypeId} {t : Ty} {xs : List (List t.El)} {i M : Nat} {us : List Value} {v : Value} (h : MatOk env D w v e e' t xs (some (i, M)) us) {ys : List t.El} (hin : InRow w e' t (env M) ys)
    (hd : ∀ b, (env M).ownBlock = some b → ∀ o, ¬ matF v (some (i, M)) us b o) : MatOk env D w v e e' t (xs.set i ys) none us := by
  obtain ⟨hi, hu, hD⟩ := h.ali i M rfl
  have other : ∀ j u b, j ≠ i → us[j]? = some u → u.ownBlock = some b → matF v (some (i, M)) us b 0 := fun j u b hj hju hb => .inr ⟨j, u, alN_some hj, hju, hb⟩
  refine ⟨by rw [List.length_set]; exact h.own, h.flat, fun j u x hju hx _ => ?_, fun _ _ e => (nomatch e), fun j l u u' b hjl _ _ hju hlu hb hb' => ?_, fun j u b _ hju hb hv => ?_⟩
  · by_cases e : i = j
    · subst e
      rw [hu] at hju
      injection hju with hju
      subst hju
      rw [List.getElem?_set_self hi] at hx
      injection hx with hx
      subst hx
      exact hin
    · rw [List.getElem?_set_ne e] at hx
      exact h.row j u x hju hx (alN_some (Ne.symm e))
  · by_cases e : j = i
    · subst e
      rw [hu] at hju
      injection hju with hju
      subst hju
      exact hd b hb 0 (other l u' b (Ne.symm hjl) hlu hb')
    · by_cases e2 : l = i
      · subst e2
        rw [hu] at hlu
        injection hlu with hlu
        subst hlu
        exact hd b hb' 0 (other j u b e hju hb)
      · exact h.dj j l u u' b hjl (alN_some e) (alN_some e2) hju hlu hb hb'
  · by_cases e : j = i
    · subst e
      rw [hu] at hju
      injection hju with hju
      subst hju
      exact hd b hb 0 (.inl hv)
    · exact h.out j u b (alN_some e) hju hb hv
theorem matF_close {v : Value} {i M : Nat} {us : List Value} {u : Value} (hu : us[i]? = some u) {b o : Nat} : matF v none us b o ↔ matF v (some (i, M)) us b o ∨ u.ownBlock = some b := by
  constructor
  · rintro (hb | ⟨j, u', _, hj, hb⟩)
    · exact .inl (.inl hb)
    · by_cases e : j = i
      · subst e
        rw [hu] at hj
        injection hj with hj
        subst hj
        exact .inr hb
      · exact .inl (.inr ⟨j, u', alN_some e, hj, hb⟩)
  · rintro ((hb | ⟨j, u', _, hj, hb⟩) | hb)
    · exact .inl hb
    · exact .inr ⟨j, u', rfl, hj, hb⟩
    · exact .inr ⟨i, u, rfl, hu, hb⟩
theorem Rl.close (hR : Rl X W0 w0 D σ a w env F) {h : Nat → PV} (hv : Vw h σ) (N : Nat) : ∃ F', Rl X W0 w0 D (σ.apply (close1 h N)) a w env F' := by
  unfold close1
  split
  · rename_i e e' t xs i M hN
    split
    · rename_i e1 t1 ys hM
      split
      · rename_i hq
        subst hq
        split
        · rename_i hc
          obtain ⟨rfl, hne⟩ := hc
          have hlN := hv.eq hN (by simp)
          have hlM := hv.eq hM (by simp)
          have hdN : D N := hR.dom (by rw [hlN]; simp)
          have hdM : D M := hR.dom (by rw [hlM]; simp)
          have hoN := hR.ob N
          rw [hlN] at hoN
          simp only [OB] at hoN
          obtain ⟨us, hm, hFN⟩ := hoN
          have hoM := hR.ob M
          rw [hlM] at hoM
          simp only [OB] at hoM
          obtain ⟨vs, hown, hr, hFM⟩ := hoM
          obtain ⟨hi, hu, _⟩ := hm.ali i M rfl
          have hin : InRow w e1 t1 (env M) ys := ⟨vs, hown, hr.any hm.flat⟩
          have hd : ∀ b, (env M).ownBlock = some b → ∀ o, ¬ matF (env N) (some (i, M)) us b o := fun b hb o hx => hR.dj N M b o (Ne.symm hne) (by rw [hFN]; exact hx) (by rw [hFM]; exact hb)
          refine ⟨fun K => if K = N then matF (env N) none us else if K = M then fun _ _ => False else F K, ?_⟩
          refine hR.step (V := fun _ _ => False) (fun K => K = N ∨ K = M) rfl (Keep.refl _ w) (fun _ _ h => h.elim) ?_ ?_ ?_ ?_ (fun _ _ => rfl) (fun _ h => h) hR.hd ?_ ?_
          · intro K hK
            simp only [not_or] at hK
            refine ⟨?_, by simp [hK.1, hK.2], rfl⟩
            simp [St.apply, St.upd, look_upd, Ne.symm hK.1, Ne.symm hK.2]
          · rintro K hK b o hb
            by_cases eN : K = N
            · simp only [eN, if_true] at hb
              rcases (matF_close hu).1 hb with hb | hb
              · exact .inl ⟨N, .inl rfl, by rw [hFN]; exact hb⟩
              · exact .inl ⟨M, .inr rfl, by rw [hFM]; exact hb⟩
            · rcases hK with hK | rfl
              · exact (eN hK).elim
              · simp [hne] at hb
          · rintro K hK b o hb
            by_cases eN : K = N
            · simp only [eN, if_true] at hb
              rcases (matF_close hu).1 hb with hb | hb
              · exact hR.lt N b o (by rw [hFN]; exact hb)
              · exact hR.lt M b o (by rw [hFM]; exact hb)
            · rcases hK with hK | rfl
              · exact (eN hK).elim
              · simp [hne] at hb
          · rintro K K' b o hK hK' hKK h1 h2
            rcases hK with rfl | rfl <;> rcases hK' with rfl | rfl
            · exact hKK rfl
            · simp [hne] at h2
            · simp [hne] at h1
            · exact hKK rfl
          · intro K hK
            have h1 : N ≠ K := fun e => hK (e ▸ hdN)
            have h2 : M ≠ K := fun e => hK (e ▸ hdM)
            simp only [St.apply, St.upd, List.foldl_cons, List.foldl_nil, look_upd, h1, h2, if_false]
            exact hR.dm K hK
          · rintro hs K hK
            by_cases eN : K = N
            · subst eN
              simp only [St.apply, St.upd, List.foldl_cons, List.foldl_nil, look_upd, hne, if_false, if_true, OB]
              exact ⟨us, (hm.close hin hd), rfl⟩
            · rcases hK with hK | rfl
              · exact (eN hK).elim
              · simp only [St.apply, St.upd, List.foldl_cons, List.foldl_nil, look_upd, if_true, hne, if_false, OB, PR]
                exact ⟨trivial, trivial⟩
        · exact ⟨F, hR⟩
      · exact ⟨F, hR⟩
    · exact ⟨F, hR⟩
  · exact ⟨F, hR⟩
theorem Rl.closeF : (L : List Nat) → {σ : St} → {F : Nat → Foot} → {h : Nat → PV} → Rl X W0 w0 D σ a w env F → Vw h σ → ∃ F', Rl X W0 w0 D (σ.apply (Go.Proofs.Ytlpooghphoohcaa.R.closeF L h)) a w env F'
  | [], σ, F, h, hR, hv => ⟨F, hR⟩
  | N :: r, σ, F, h, hR, hv => by
    obtain ⟨F1, h1⟩ := hR.close hv N
    rw [Go.Proofs.Ytlpooghphoohcaa.R.closeF, St.apply_append]
    exact Rl.closeF r h1 (hv.updF _)
end
theorem R.close {X W0 : Foot} {w0 : World} {D : Nat → Prop} {σ : St} {a : Act} {w : World} (h : R X W0 w0 D σ a w) (N : Nat) : R X W0 w0 D (σ.apply (close1 (look σ.ob) N)) a w := by
  obtain ⟨env, F, h⟩ := h
  obtain ⟨F', h'⟩ := h.close (fun _ => .inl rfl) N
  exact ⟨env, F', h'⟩
theorem R.settle {X W0 : Foot} {w0 : World} {D : Nat → Prop} {a : Act} {w : World} (ns : List Nat) : (L : List Nat) → {σ : St} → R X W0 w0 D σ a w → R X W0 w0 D (settle ns L σ) a w
  | [], σ, h => h
  | N :: r, σ, h => by
    rw [Go.Proofs.Ytlpooghphoohcaa.R.settle]
    refine R.settle ns r ?_
    split
    · split
      · exact h
      · exact h.close N
    · exact h
theorem settle_nx (ns : List Nat) : (L : List Nat) → (σ : St) → (settle ns L σ).nx = σ.nx ∧ (settle ns L σ).sl = σ.sl
  | [], σ => ⟨rfl, rfl⟩
  | N :: r, σ => by
    rw [settle]
    have ap : ∀ (us : List Upd) (τ : St), noSl us → (τ.apply us).nx = τ.nx := by
      intro us
      induction us with
      | nil => intro τ _; rfl
      | cons u us ih =>
        intro τ hu
        rw [St.apply_cons, ih _ (fun v hv => hu v (by simp [hv]))]
        obtain ⟨_, _, rfl⟩ := hu u (by simp)
        rfl
    have key : ∀ τ : St, τ.nx = σ.nx → τ.sl = σ.sl → (settle ns r τ).nx = σ.nx ∧ (settle ns r τ).sl = σ.sl := fun τ h1 h2 => ⟨(settle_nx ns r τ).1.trans h1, (settle_nx ns r τ).2.trans h2⟩
    cases hN : look σ.ob N with
    | hol e e' t xs i M =>
      cases hc : ns.contains M with
      | true => exact key _ (by simp only [hc]; rfl) (by simp only [hc]; rfl)
      | false => exact key _ (by simp only [hc]; exact ap _ _ (noSl.closed N)) (by simp only [hc]; exact noSl.sl _ (noSl.closed N) σ)
    | _ => exact key _ rfl rfl
end Go.Proofs.Ytlpooghphoohcaa.R
/- Rows of rows of our own: made, built, read, written. -/
namespace Go.Proofs.Ytlpooghphoohcaa.R
open Go.RowKit
set_option linter.unusedVariables false
set_option linter.unusedSimpArgs false
theorem elO2_spec {P : Program} {s e e' : TypeId} {t : Ty} (h : elO2 P s = some (e, e', t)) : elOf P s = some (e, .sl t) ∧ P.underlying e = some (.slice e') ∧ t.hasSl = false := by
  unfold elO2 at h
  split at h
  · rename_i e0 t0 h1
    split at h
    · rename_i e1 h2
      split at h
      · rename_i h3
        simp only [Option.some.injEq, Prod.mk.injEq] at h
        obtain ⟨rfl, rfl, rfl⟩ := h
        exact ⟨h1, h2, h3⟩
      · cases h
    · cases h
  · cases h
theorem rowAs_spec {h : Nat → PV} {e' : TypeId} {t : Ty} {p : PV} {M : Nat} {ys : List t.El} (hq : rowAs h e' t p = some (M, ys)) : p = .ref M ∧ h M = .row e' t ys := by
  unfold rowAs at hq
  split at hq
  · split at hq
    · rename_i hM
      split at hq
      · rename_i ht
        subst ht
        split at hq
        · rename_i he
          subst he
          simp only [Option.some.injEq, Prod.mk.injEq] at hq
          obtain ⟨rfl, rfl⟩ := hq
          exact ⟨rfl, hM⟩
        · cases hq
      · cases hq
    · cases hq
  · cases hq
theorem zero_sl {t : Ty} {vs : List Value} (h : zeroOk (.sl t) vs = true) : vs = [.slice none 0 0] := by
  unfold zeroOk at h
  split at h <;> first | rfl | (rename_i h1; cases h1; done) | cases h
section
variable {X W0 : Foot} {w0 : World} {D : Nat → Prop} {σ : St} {a : Act} {w : World} {env : Nat → Value} {F : Nat → Foot}
/-- A new row of rows that are nil. -/
theorem Rl.newMat (h : Rl X W0 w0 D σ a w env F) {N : Nat} (hn : ¬ D N) (e e' : TypeId) {t : Ty} (ht : t.hasSl = false) (m : Nat) (hm : m ≤ maxLen) :
    ∃ env' F', Rl X W0 w0 (fun M => D M ∨ M = N) (σ.upd (.ob N (.mat e e' t (List.replicate m [])))) a (w.alloc (.cells (List.replicate m (Value.slice none 0 0)).toArray e)) env' F' ∧ env' N = .slice (some ⟨w.heap.size, 0, none⟩) m m := by
  have hget : ∀ (i : Nat) (u : Value), (List.replicate m (Value.slice none 0 0))[i]? = some u → u = Value.slice none 0 0 := fun i u hu => by
    rw [List.getElem?_replicate] at hu
    split at hu <;> simp at hu
    exact hu.symm
  have hF : ∀ b o, matF (Value.slice (some ⟨w.heap.size, 0, none⟩) m m) none (List.replicate m (Value.slice none 0 0)) b o → b = w.heap.size := by
    rintro b o (hb | ⟨i, u, _, hu, hb⟩)
    · simp only [Value.ownBlock, Option.some.injEq] at hb
      exact hb.symm
    · rw [hget i u hu] at hb
      cases hb
  obtain ⟨env', F', h1, _, _, h4⟩ := h.add hn (.mat e e' t (List.replicate m [])) (Keep.alloc0 w (.cells (List.replicate m (Value.slice none 0 0)).toArray e)) (fun _ _ => id) (v := .slice (some ⟨w.heap.size, 0, none⟩) m m)
    (G := matF (Value.slice (some ⟨w.heap.size, 0, none⟩) m m) none (List.replicate m (Value.slice none 0 0))) (fun b o hg => by rw [heap_alloc_size, hF b o hg]; omega) (.inl ⟨_, _, _, rfl⟩) (by
    intro env' _ hee hs
    simp only [OB]
    refine ⟨List.replicate m (Value.slice none 0 0), ⟨?_, ht, fun i u x hu hx _ => ?_, fun _ _ e => (nomatch e), fun i j u u' b _ _ _ hu _ hb => ?_, fun i u b _ hu hb => ?_⟩, rfl⟩
    · have := World.ownsRow_lit (base := 0) (e := e) (size := 1) w (List.replicate m (Value.slice none 0 0)).toArray m (Nat.zero_le _) hm (by simp)
      rw [List.length_replicate]
      exact this
    · rw [hget i u hu]
      have hx : x = [] := by
        rw [List.getElem?_replicate] at hx
        split at hx <;> simp at hx
        exact hx
      subst hx
      exact ⟨[], World.ownsRow_nil _ _ _ _, ⟨by simp, fun i hi => absurd hi (by simp)⟩⟩
    · rw [hget i u hu] at hb
      cases hb
    · rw [hget i u hu] at hb
      cases hb)
  exact ⟨env', F', h1, h4⟩
end
theorem matMake1 {P : Program} {o : Oper} {s e e' : TypeId} {t : Ty} {l c : Operand} {σ : St} {n : Int} (ho : o.op = .makeSlice s l c) {nm : Nat} (he2 : elO2 P s = some (e, e', t)) (hl : σ.eval l = .val (.int .i64) n) (hsame : sameOp l c = true) (h0 : 0 ≤ n) (hm : n.toNat * byOf P e ≤ 281474976710656) :
    OpOk P nm o σ (.ob nm (.mat e e' t (List.replicate n.toNat [])) :: Go.Proofs.Ytlpooghphoohcaa.R.put o (.ref nm)) := by
  intro X W0 w0 D a w K Q hfr hR hk'
  obtain ⟨env, F, hR⟩ := hR
  obtain ⟨he, hue, ht⟩ := elO2_spec he2
  obtain ⟨hu, i, z, hi, hsz, _, hz, hzok, hby, hbye⟩ := elOf_spec he
  have hvl := hR.ev l
  rw [hl] at hvl
  have hvl : a.eval l = .int .i64 n := by simpa [PR, RV] using hvl
  obtain ⟨k', hvc⟩ := sameOp_ok hsame a (σ := σ) hvl
  have hzl := zero_sl hzok
  have hzs : z.cells.size = 1 := by
    have := congrArg List.length hzl
    simpa using this
  rw [hbye] at hm
  have hle := Nat.le_mul_of_pos_right n.toNat hby
  have hmx : (281474976710656 : Nat) ≤ maxLen := by decide
  have hn : ((n.toNat : Nat) : Int) = n := Int.toNat_of_nonneg h0
  have hrun := run_make (P := P) w s e i z hu hi hz .i64 k' n n h0 (Int.le_refl _) (by
    have : ((n.toNat * i.bytes : Nat) : Int) ≤ 281474976710656 := by omega
    rw [Int.natCast_mul, hn] at this
    rw [Int.mul_comm]
    exact this) (by omega)
  rw [hsz] at hrun
  have hcells : madeCells z.cells (n.toNat * (Ty.sl t).sz) = (List.replicate n.toNat (Value.slice none 0 0)).toArray := by
    apply Array.ext'
    apply List.ext_getElem?
    intro j
    by_cases hj : j < n.toNat
    · have := made_get (z := z.cells) (m := n.toNat) hzs Nat.one_pos hj
      rw [Nat.mul_one, hzl] at this
      have h2 := congrArg (fun l => l[0]?) this
      simp only [List.getElem?_take, List.getElem?_drop, Nat.add_zero] at h2
      rw [show n.toNat * (Ty.sl t).sz = n.toNat * 1 from rfl]
      simp only [List.getElem?_replicate, if_pos hj]
      simpa using h2
    · rw [List.getElem?_eq_none_iff.2 (by simp [size_madeCells, Ty.sz]; omega), List.getElem?_eq_none_iff.2 (by simp; omega)]
  rw [hcells] at hrun
  obtain ⟨env', F', k1, k4⟩ := hR.newMat (N := nm) (hfr nm (Nat.le_refl _) (by omega)) e e' ht n.toNat (by omega)
  refine wp_value (v := .slice (some ⟨w.heap.size, 0, none⟩) n.toNat n.toNat) (w' := w.alloc (.cells (List.replicate n.toNat (Value.slice none 0 0)).toArray e)) (by simp only [execOp, ho, hvl, hvc, Sem.run_bind, hrun, Result.andThen_ok]; rfl) (hk' _ _ ?_)
  rw [St.apply_cons]
  exact k1.fin o (fun M hM => hM.imp id (fun e => by subst e; exact ⟨Nat.le_refl _, by omega⟩)) (.inr rfl) k4
theorem matMake_ok {P : Program} {o : Oper} {s : TypeId} {l c : Operand} {σ : St} (ho : o.op = .makeSlice s l c) {nm : Nat} {k : List Upd → Prop} {q : Prop} (hk : matMake P False nm o s (sameOp l c) (σ.eval l) k = some q) (hq : q) : ∃ us, k us ∧ OpOk P nm o σ us := by
  unfold matMake at hk
  split at hk
  · rename_i e e' t n he2 hl hsame
    injection hk with hk
    rw [← hk] at hq
    obtain ⟨h0, hm, hq⟩ := mkI_ok hq
    exact ⟨_, hq, matMake1 ho he2 hl hsame h0 hm⟩
  · cases hk
theorem own_oneCell {w : World} {e sz n : Nat} {v : Value} {us : List Value} (h : w.ownsRow 0 e sz v n us) : v.oneCell' = true := by
  obtain ⟨aa, c, rfl, _⟩ := own_form h
  rfl
theorem matBuild_ok {P : Program} {o : Oper} {s : TypeId} {n : Nat} {parts : Array (Nat × Operand)} {σ : St} {h : Nat → PV} (hv : Vw h σ) (ho : o.op = .buildSlice s n parts) {nm : Nat} {k : List Upd → Prop} {q : Prop}
    (hk : matBuild P False h nm o s n (parts.toList.map fun p => (p.1, σ.eval p.2)) k = some q) (hq : q) : ∃ us, k us ∧ OpOk P nm o σ us := by
  unfold matBuild at hk
  split at hk
  · rename_i e e' t he2 hps
    injection hk with hk
    rw [← hk] at hq
    refine ⟨_, hq, ?_⟩
    intro X W0 w0 D a w K Q hfr hR hk'
    obtain ⟨env, F, hR⟩ := hR
    obtain ⟨he, hue, ht⟩ := elO2_spec he2
    obtain ⟨hu, i, z, hi, hsz, _, hz, _⟩ := elOf_spec he
    have hpl : parts.toList = [] := List.map_eq_nil_iff.1 hps
    obtain ⟨cells, hrun, hcs, hcel⟩ := run_buildS (P := P) (w := w) (t := s) (e := e) (n := 0) (parts := parts.map fun (i, x) => (i, a.eval x)) (vs := []) hu hi hz hsz (Ty.sl t).sz_pos (by omega) (by simp [hpl]) rfl (by simp)
    have hc0 : cells = (List.replicate 0 (Value.slice none 0 0)).toArray := by
      apply Array.eq_empty_of_size_eq_zero
      simpa using hcs
    subst hc0
    obtain ⟨env', F', k1, k4⟩ := hR.newMat (N := nm) (hfr nm (Nat.le_refl _) (by omega)) e e' ht 0 (Nat.zero_le _)
    refine wp_value (v := .slice (some ⟨w.heap.size, 0, none⟩) 0 0) (w' := w.alloc (.cells (List.replicate 0 (Value.slice none 0 0)).toArray e)) (by simp only [execOp, ho, Sem.run_bind, hrun, Result.andThen_ok]; rfl) (hk' _ _ ?_)
    rw [St.apply_cons]
    exact k1.fin o (fun M hM => hM.imp id (fun e => by subst e; exact ⟨Nat.le_refl _, by omega⟩)) (.inr rfl) k4
  · rename_i e e' t p he2 hps
    split at hk
    · rename_i M ys hr
      injection hk with hk
      rw [← hk] at hq
      refine ⟨_, hq, ?_⟩
      intro X W0 w0 D a w K Q hfr hR hk'
      obtain ⟨env, F, hR⟩ := hR
      obtain ⟨he, hue, ht⟩ := elO2_spec he2
      obtain ⟨hu, i, z, hi, hsz, _, hz, _⟩ := elOf_spec he
      obtain ⟨hp, hM⟩ := rowAs_spec hr
      obtain ⟨y, hy, hpe⟩ : ∃ y, parts.toList = [(0, y)] ∧ σ.eval y = p := by
        rcases hl : parts.toList with _ | ⟨⟨j, y⟩, _ | ⟨q, r⟩⟩
        · rw [hl] at hps; simp at hps
        · rw [hl] at hps
          simp only [List.map_cons, List.map_nil, List.cons.injEq, Prod.mk.injEq, and_true] at hps
          obtain ⟨rfl, h2⟩ := hps
          exact ⟨y, rfl, h2⟩
        · rw [hl] at hps; simp at hps
      have hye := hR.ev y
      rw [hpe, hp] at hye
      simp only [PR] at hye
      have hoM := hR.ob M
      rw [hv.eq hM (by simp)] at hoM
      simp only [OB] at hoM
      obtain ⟨vs, hown, hrv, hFM⟩ := hoM
      obtain ⟨aa, cc, hen, _⟩ := own_form hown
      have hcv : (a.eval y).cells = #[env M] := by rw [hye.2, hen]; rfl
      obtain ⟨cells, hrun, hcs, hcel⟩ := run_buildS (P := P) (w := w) (t := s) (e := e) (n := 1) (parts := parts.map fun (i, x) => (i, a.eval x)) (vs := [a.eval y]) hu hi hz hsz (Ty.sl t).sz_pos (by simp [Ty.sz]) (by simp [hy]) rfl (by simp [hcv, Ty.sz])
      have hc1 : cells = [env M].toArray := by
        apply Array.ext'
        have h1 := hcel 0 (a.eval y) rfl
        rw [hcv, Nat.zero_mul, List.drop_zero, List.take_of_length_le (by simp [hcs, Ty.sz])] at h1
        exact h1
      subst hc1
      have hsame : ∀ b o, matF (Value.slice (some ⟨w.heap.size, 0, none⟩) 1 1) (some (0, M)) [env M] b o → b = w.heap.size := by
        rintro b o (hb | ⟨i, u, ha, hu, hb⟩)
        · simp only [Value.ownBlock, Option.some.injEq] at hb
          exact hb.symm
        · cases i with
          | zero => simp [alN] at ha
          | succ i => simp at hu
      obtain ⟨env', F', k1, _, _, k4⟩ := hR.add (N := nm) (hfr nm (Nat.le_refl _) (by omega)) (.hol e e' t [ys] 0 M) (Keep.alloc0 w (.cells [env M].toArray e)) (fun _ _ => id) (v := .slice (some ⟨w.heap.size, 0, none⟩) 1 1)
        (G := matF (Value.slice (some ⟨w.heap.size, 0, none⟩) 1 1) (some (0, M)) [env M]) (fun b o hg => by rw [heap_alloc_size, hsame b o hg]; omega) (.inl ⟨_, _, _, rfl⟩) (by
        intro env' _ hee hs
        simp only [OB]
        refine ⟨[env M], ⟨?_, ht, fun i u x hu hx ha => ?_, fun i M' e => ?_, fun i j u u' b hij ha hb' hu hu' hb => ?_, fun i u b ha hu hb => ?_⟩, rfl⟩
        · exact World.ownsRow_lit (base := 0) (e := e) (size := 1) w [env M].toArray 1 (Nat.zero_le _) (by decide) (by simp)
        · cases i with
          | zero => simp [alN] at ha
          | succ i => simp at hu
        · simp only [Option.some.injEq, Prod.mk.injEq] at e
          obtain ⟨rfl, rfl⟩ := e
          exact ⟨by simp, by rw [hee M hye.1]; rfl, .inl hye.1⟩
        · cases i with
          | zero => simp [alN] at ha
          | succ i => simp at hu
        · cases i with
          | zero => simp [alN] at ha
          | succ i => simp at hu)
      refine wp_value (v := .slice (some ⟨w.heap.size, 0, none⟩) 1 1) (w' := w.alloc (.cells [env M].toArray e)) (by simp only [execOp, ho, Sem.run_bind, hrun, Result.andThen_ok]; rfl) (hk' _ _ ?_)
      rw [St.apply_cons]
      exact k1.fin o (fun M hM => hM.imp id (fun e => by subst e; exact ⟨Nat.le_refl _, by omega⟩)) (.inr rfl) k4
    · cases hk
  · cases hk
/-- One row gets a name of its own. -/
theorem MatOk.open {env env' : Nat → Value} {D D' : Nat → Prop} {w : World} {e e' : TypeId} {t : Ty} {xs : List (List t.El)} {i M : Nat} {us : List Value} {v u : Value} (h : MatOk env D w v e e' t xs none us) (hi : i < xs.length) (hu : us[i]? = some u) (hM : env' M = u) (hD : D' M) :
    MatOk env' D' w v e e' t xs (some (i, M)) us :=
  ⟨h.own, h.flat, fun j u x hj hx _ => h.row j u x hj hx rfl, fun j M' e => by
    simp only [Option.some.injEq, Prod.mk.injEq] at e
    obtain ⟨rfl, rfl⟩ := e
    exact ⟨hi, by rw [hM]; exact hu, hD⟩, fun j l u u' b hjl _ _ => h.dj j l u u' b hjl rfl rfl, fun j u b _ => h.out j u b rfl⟩
theorem matLoad_ok {P : Program} {o : Oper} {t : TypeId} {x : Operand} {σ : St} {h : Nat → PV} (hv : Vw h σ) (ho : o.op = .load t x) {nm : Nat} {k : List Upd → Prop} {q : Prop} (hk : matLoad P False h nm o t (σ.eval x) k = some q) (hq : q) : ∃ us, k us ∧ OpOk P nm o σ us := by
  unfold matLoad at hk
  split at hk
  · rename_i N i hx
    split at hk
    · rename_i e e' t' xs hN
      injection hk with hk
      rw [← hk] at hq
      split at hq
      · rename_i hpl
        refine ⟨_, hq, ?_⟩
        intro X W0 w0 D a w K Q hfr hR hk'
        obtain ⟨env, F, hR⟩ := hR
        have hlN := hv.eq hN (by simp)
        have hdN : D N := hR.dom (by rw [hlN]; simp)
        have hnm : ¬ D nm := hfr nm (Nat.le_refl _) (by omega)
        have hne : N ≠ nm := fun e => hnm (e ▸ hdN)
        obtain ⟨aa, c, us, hen, hl, hg, hcap, hm, hF⟩ := hR.hdrM (.inl ⟨hlN, rfl⟩)
        have hex := hR.ev x
        rw [hx] at hex
        simp only [PR] at hex
        obtain ⟨_, hi, b, oo, hbb, ha⟩ := hex
        rw [hen] at hi hbb
        simp only [hlen] at hi
        obtain ⟨g, rfl⟩ := hg (by omega)
        simp only [hb, Option.some.injEq, Prod.mk.injEq] at hbb
        obtain ⟨rfl, rfl⟩ := hbb
        have hiu : i < us.length := by omega
        have hui : us[i]? = some us[i] := List.getElem?_eq_getElem hiu
        have hown := hm.own
        rw [hen] at hown
        have hc : w.cell? ⟨g, i, none⟩ = some us[i] := (hown.cellAt i (by omega)).trans hui
        have hxg : xs.getD i [] = xs[i] := by simp [List.getD_eq_getElem?_getD, hi]
        obtain ⟨vs, hin, hrv⟩ := hm.row i us[i] xs[i] hui (List.getElem?_eq_getElem hi) rfl
        rw [show 0 + (i * 1 + 0) = i by omega] at ha
        refine wp_value (v := us[i]) (w' := w) (by simp [execOp, ho, ha, Instr.loadAt, Instr.sureAddr, loadVar, run_isAgg_pl hpl, hc]) (hk' _ _ ?_)
        have hstep : Rl X W0 w0 (fun M => D M ∨ M = nm) (σ.apply [.ob nm (.row e' t' (xs.getD i [])), .ob N (.hol e e' t' xs i nm)]) a w (fun M => if M = nm then us[i] else env M) (fun M => if M = nm then (fun b _ => us[i].ownBlock = some b) else if M = N then matF (env N) (some (i, nm)) us else F M) := by
          have sub : ∀ b o, matF (env N) (some (i, nm)) us b o → F N b o := by
            rintro b o hb
            rw [hF]
            exact (matF_close hui).2 (.inl hb)
          have sub2 : ∀ b, us[i].ownBlock = some b → ∀ o, F N b o := by
            intro b hb o
            rw [hF]
            exact .inr ⟨i, us[i], rfl, hui, hb⟩
          refine hR.step (V := fun _ _ => False) (fun M => M = N ∨ M = nm) rfl (Keep.refl _ w) (fun _ _ h => h.elim) ?_ ?_ ?_ ?_ ?_ (fun _ h => .inl h) ?_ ?_ ?_
          · intro M hM
            simp only [not_or] at hM
            refine ⟨?_, by simp [hM.1, hM.2], by simp [hM.2]⟩
            simp [St.apply, St.upd, look_upd, Ne.symm hM.1, Ne.symm hM.2]
          · rintro M hM b o hb
            by_cases e1 : M = nm
            · simp only [e1, if_true] at hb
              exact .inl ⟨N, .inl rfl, sub2 b hb o⟩
            · rcases hM with rfl | hM
              · simp only [hne, if_false, if_true] at hb
                exact .inl ⟨M, .inl rfl, sub b o hb⟩
              · exact (e1 hM).elim
          · rintro M hM b o hb
            by_cases e1 : M = nm
            · simp only [e1, if_true] at hb
              exact hR.lt N b o (sub2 b hb o)
            · rcases hM with rfl | hM
              · simp only [hne, if_false, if_true] at hb
                exact hR.lt M b o (sub b o hb)
              · exact (e1 hM).elim
          · have key : ∀ b o, us[i].ownBlock = some b → ¬ matF (env N) (some (i, nm)) us b o := by
              rintro b o hb (hb' | ⟨j, u, hj, hu, hb'⟩)
              · exact hm.out i us[i] b rfl hui hb hb'
              · have hij : j ≠ i := by
                  rintro rfl
                  simp [alN] at hj
                exact hm.dj i j us[i] u b (Ne.symm hij) rfl rfl hui hu hb hb'
            rintro M M' b o hM hM' hMM h1 h2
            rcases hM with rfl | rfl <;> rcases hM' with rfl | rfl
            · exact hMM rfl
            · simp only [hne, if_false, if_true] at h1 h2
              exact key b o h2 h1
            · simp only [hne, if_false, if_true] at h1 h2
              exact key b o h1 h2
            · exact hMM rfl
          · intro M hM
            have : M ≠ nm := fun e => hnm (e ▸ hM)
            simp [this]
          · rintro M (hM | rfl)
            · have : M ≠ nm := fun e => hnm (e ▸ hM)
              simpa [this] using hR.hd M hM
            · simp only [if_true]
              obtain ⟨a1, c1, e1, _⟩ := own_form hin
              exact .inl ⟨_, _, _, e1⟩
          · intro M hM
            simp only [not_or] at hM
            have h1 : N ≠ M := fun e => hM.1 (e ▸ hdN)
            simp only [St.apply, St.upd, List.foldl_cons, List.foldl_nil, look_upd, h1, Ne.symm hM.2, if_false]
            exact hR.dm M hM.1
          · rintro hs M hM
            by_cases e1 : M = nm
            · subst e1
              simp only [St.apply, St.upd, List.foldl_cons, List.foldl_nil, look_upd, hne, if_false, if_true, OB]
              rw [hxg]
              exact ⟨vs, hin, hrv.any hm.flat, trivial⟩
            · rcases hM with rfl | hM
              · simp only [St.apply, St.upd, List.foldl_cons, List.foldl_nil, look_upd, if_true, hne, if_false, OB]
                exact ⟨us, hm.open hi hui (by simp) (.inr rfl), rfl⟩
              · exact (e1 hM).elim
        rw [St.apply_cons, St.apply_cons]
        exact hstep.fin o (fun M hM => hM.imp id (fun e => by subst e; exact ⟨Nat.le_refl _, by omega⟩)) (.inr rfl) (by simp)
      · exact hq.elim
    · cases hk
  · cases hk
theorem matStore_ok {P : Program} {o : Oper} {t : TypeId} {x y : Operand} {σ : St} {h : Nat → PV} (hv : Vw h σ) (ho : o.op = .store t x y) {nm : Nat} {k : List Upd → Prop} {q : Prop} (hk : matStore P False h o t (σ.eval x) (σ.eval y) k = some q) (hq : q) : ∃ us, k us ∧ OpOk P nm o σ us := by
  unfold matStore at hk
  split at hk
  · rename_i N i hx
    split at hk
    · rename_i e e' t' xs hN
      injection hk with hk
      rw [← hk] at hq
      split at hq
      · rename_i M ys hr
        split at hq
        · rename_i hc
          obtain ⟨hsz1, hMN⟩ := hc
          refine ⟨_, hq, ?_⟩
          intro X W0 w0 D a w K Q hfr hR hk'
          obtain ⟨env, F, hR⟩ := hR
          have hlN := hv.eq hN (by simp)
          have hdN : D N := hR.dom (by rw [hlN]; simp)
          obtain ⟨hp, hM⟩ := rowAs_spec hr
          obtain ⟨aa, c, us, hen, hl, hg, hcap, hm, hF⟩ := hR.hdrM (.inl ⟨hlN, rfl⟩)
          have hex := hR.ev x
          rw [hx] at hex
          simp only [PR] at hex
          obtain ⟨_, hi, b, oo, hbb, ha⟩ := hex
          rw [hen] at hi hbb
          simp only [hlen] at hi
          obtain ⟨g, rfl⟩ := hg (by omega)
          simp only [hb, Option.some.injEq, Prod.mk.injEq] at hbb
          obtain ⟨rfl, rfl⟩ := hbb
          have hey := hR.ev y
          rw [hp] at hey
          simp only [PR] at hey
          have hoM := hR.ob M
          rw [hv.eq hM (by simp)] at hoM
          simp only [OB] at hoM
          obtain ⟨vs, hownM, hrv, hFM⟩ := hoM
          obtain ⟨a1, c1, henM, _⟩ := own_form hownM
          have hcv : (a.eval y).cells = [env M].toArray := by rw [hey.2, henM]; rfl
          have hiu : i < us.length := by omega
          have hown := hm.own
          rw [hen] at hown
          rw [show 0 + (i * 1 + 0) = i by omega] at ha
          have hrun := run_store_at (P := P) (t := t) (b := g) (o := i) (w := w) hcv (by simp [hsz1]) (by omega) (by intro u hu; rw [List.mem_singleton.1 hu]; exact own_oneCell hownM)
            (fun k hk => by
              have : k = 0 := by simpa using hk
              subst this
              rw [Nat.add_zero, show cl w g i = us[i]? from hown.cellAt i (by omega), List.getElem?_eq_getElem hiu]
              rfl) (fun k hk => hown.frozenAt _)
          refine wp_skipv (by simp only [execOp, ho, ha, Sem.run_bind, hrun, Result.andThen_ok]; rfl) (hk' _ _ ?_)
          rw [St.apply_cons]
          refine On.skip (env := env) (F := F) (w := w) (nm := nm) o ?_ (fun M h => .inl h)
          have hk2 := Keep.setCells g [env M] i w
          have hlenset : (xs.set i ys).length = xs.length := List.length_set
          have hFN : ∀ b o, matF (env N) (some (i, M)) (us.set i (env M)) b o → F N b o := by
            rintro b o (hb | ⟨j, u, hj, hu, hb⟩)
            · rw [hF]; exact .inl hb
            · have hij : i ≠ j := by
                rintro rfl
                simp [alN] at hj
              rw [List.getElem?_set_ne hij] at hu
              rw [hF]
              exact .inr ⟨j, u, rfl, hu, hb⟩
          obtain ⟨e1, e2, e3⟩ := hR.one N (.hol e e' t' (xs.set i ys) i M) hk2 (by
              rintro b' o' ⟨rfl, h2, h3⟩
              rw [hF, hen]
              exact .inl rfl) (G := matF (env N) (some (i, M)) (us.set i (env M))) (fun b' o' h => .inl (hFN b' o' h)) (fun b' o' h => Nat.lt_of_lt_of_le (hR.lt N b' o' (hFN b' o' h)) hk2.size) (v := env N) (fun _ => rfl) (hR.hd N hdN) (by
            intro env' _ hee hs
            have heM : env' M = env M := hee M hey.1
            simp only [OB]
            have hsplit : spl us i [env M] = us.set i (env M) := by
              apply List.ext_getElem?
              intro m
              rw [spl_get (by simp; omega), List.getElem?_set]
              by_cases hmi : i = m
              · subst hmi
                rw [if_pos ⟨Nat.le_refl _, by simp⟩, if_pos rfl, if_pos hiu, Nat.sub_self]
                rfl
              · rw [if_neg (by simp; omega), if_neg hmi]
            have hne : ∀ {j : Nat}, alN (some (i, M)) j = none → i ≠ j := by
              rintro j hj rfl
              simp [alN] at hj
            have hget : ∀ {j : Nat} {u : Value}, alN (some (i, M)) j = none → (us.set i (env M))[j]? = some u → us[j]? = some u := fun hj hu => by
              rw [List.getElem?_set_ne (hne hj)] at hu
              exact hu
            refine ⟨us.set i (env M), ⟨?_, hm.flat, ?_, ?_, ?_, ?_⟩, rfl⟩
            · rw [hen, hlenset, ← hsplit]
              exact own_setCells [env M] _ w us hown (by simp; omega)
            · intro j u x hu hx hj
              rw [List.getElem?_set_ne (hne hj)] at hx
              have hu' := hget hj hu
              refine (hm.row j u x hu' hx rfl).mono hk2 hm.flat ?_
              rintro b hb o ⟨rfl, _⟩
              exact hm.out j u _ rfl hu' hb (by rw [hen]; rfl)
            · rintro j M' e
              simp only [Option.some.injEq, Prod.mk.injEq] at e
              obtain ⟨rfl, rfl⟩ := e
              exact ⟨by rw [hlenset]; exact hi, by rw [List.getElem?_set_self hiu, heM], .inl hey.1⟩
            · intro j l u u' b hjl hj hl' hu hu' hb
              exact hm.dj j l u u' b hjl rfl rfl (hget hj hu) (hget hl' hu') hb
            · intro j u b hj hu hb
              exact hm.out j u b rfl (hget hj hu) hb)
          exact ⟨_, _, e1.sameD hdN, e2, e3⟩
        · exact hq.elim
      · exact hq.elim
    · cases hk
  · cases hk
theorem matF_join {v v1 v2 : Value} {n : Nat} {al : Option (Nat × Nat)} {us vs : List Value} (hn : us.length = n) {b o : Nat} (h : matF v (al.map fun q => (n + q.1, q.2)) (us ++ vs) b o) :
    v.ownBlock = some b ∨ (∃ (i : Nat) (u : Value), us[i]? = some u ∧ u.ownBlock = some b) ∨ (∃ (i : Nat) (u : Value), alN al i = none ∧ vs[i]? = some u ∧ u.ownBlock = some b) := by
  rcases h with h | ⟨i, u, hi, hu, hb⟩
  · exact .inl h
  · by_cases hlt : i < us.length
    · rw [List.getElem?_append_left hlt] at hu
      exact .inr (.inl ⟨i, u, hu, hb⟩)
    · rw [List.getElem?_append_right (by omega)] at hu
      refine .inr (.inr ⟨i - us.length, u, ?_, hu, hb⟩)
      cases al with
      | none => rfl
      | some q =>
        refine alN_some fun e => ?_
        simp only [Option.map_some, alN] at hi
        rw [← e, hn] at hi
        rw [if_pos (by omega)] at hi
        cases hi
theorem alN_join {n : Nat} {al : Option (Nat × Nat)} {i : Nat} (hi : alN (al.map fun q => (n + q.1, q.2)) i = none) (hle : n ≤ i) : alN al (i - n) = none := by
  cases al with
  | none => rfl
  | some q =>
    refine alN_some fun e => ?_
    simp only [Option.map_some, alN] at hi
    rw [← e, if_pos (by omega)] at hi
    cases hi
theorem Rl.joinM {X W0 : Foot} {w0 : World} {D : Nat → Prop} {σ : St} {a : Act} {w w' : World} {env : Nat → Value} {F : Nat → Foot} (h : Rl X W0 w0 D σ a w env F) {N B nm : Nat} (hN : D N) (hB : D B) (hnm : ¬ D nm) (hNB : B ≠ N) {e e' : TypeId} {t : Ty} {xs ys : List (List t.El)} {al : Option (Nat × Nat)} {us vs : List Value}
    (h1 : MatOk env D w (env N) e e' t xs none us) (hF1 : F N = matF (env N) none us) (h2 : MatOk env D w (env B) e e' t ys al vs) (hF2 : F B = matF (env B) al vs)
    {v : Value} (hg : w.grownBy w' (env N).ownBlock) (hown : w'.ownsRow 0 e 1 v (xs.length + ys.length) (us ++ vs)) (hul : us.length = xs.length) (hat : v.ownBlock = (env N).ownBlock ∨ v.ownBlock = some w.heap.size) (p : PV)
    (hp : ∀ env D w O v F, (∃ us, MatOk env D w v e e' t (xs ++ ys) (al.map fun q => (xs.length + q.1, q.2)) us ∧ F = matF v (al.map fun q => (xs.length + q.1, q.2)) us) → OB env D w O v p F) :
    ∃ env' F', Rl X W0 w0 (fun K => D K ∨ K = nm) (σ.apply [.ob N .dead, .ob B .dead, .ob nm p]) a w' env' F' ∧ env' nm = v := by
  have hN1 : N ≠ nm := fun e => hnm (e ▸ hN)
  have hB1 : B ≠ nm := fun e => hnm (e ▸ hB)
  have fN : ∀ b o, (env N).ownBlock = some b → F N b o := fun b o hb => by rw [hF1]; exact .inl hb
  have fN2 : ∀ (i : Nat) (u : Value) (b o : Nat), us[i]? = some u → u.ownBlock = some b → F N b o := fun i u b o hu hb => by rw [hF1]; exact .inr ⟨i, u, rfl, hu, hb⟩
  have fB : ∀ (i : Nat) (u : Value) (b o : Nat), alN al i = none → vs[i]? = some u → u.ownBlock = some b → F B b o := fun i u b o hi hu hb => by rw [hF2]; exact .inr ⟨i, u, hi, hu, hb⟩
  have hk : Keep (fun b _ => (env N).ownBlock = some b) w w' := Keep.grown hg fun b hb hlt => .inl fun i => hb
  have hvlt : ∀ b, v.ownBlock = some b → b < w'.heap.size := by
    intro b hb
    rcases hown.2 with ⟨rfl, _⟩ | ⟨g, cap, cur, rfl, _, hh, _⟩
    · simp [Value.ownBlock] at hb
    · simp [Value.ownBlock] at hb
      subst hb
      exact (Array.getElem?_eq_some_iff.1 hh).1
  have vout : ∀ b, v.ownBlock = some b → (env N).ownBlock = some b ∨ w.heap.size ≤ b := fun b hb => by
    rcases hat with hat | hat
    · exact .inl (hat ▸ hb)
    · rw [hat] at hb
      injection hb with hb
      exact .inr (by omega)
  refine ⟨fun K => if K = nm then v else env K, fun K => if K = nm then matF v (al.map fun q => (xs.length + q.1, q.2)) (us ++ vs) else if K = N ∨ K = B then (fun _ _ => False) else F K, ?_, by simp⟩
  refine h.step (V := fun b _ => (env N).ownBlock = some b) (fun K => K = N ∨ K = B ∨ K = nm) rfl hk ?_ ?_ ?_ ?_ ?_ ?_ (fun _ h => .inl h) ?_ ?_ ?_
  · intro b o hv
    exact ⟨N, .inl rfl, fN b o hv⟩
  · intro K hK
    simp only [not_or] at hK
    refine ⟨?_, by simp [hK.1, hK.2.1, hK.2.2], by simp [hK.2.2]⟩
    simp [St.apply, St.upd, look_upd, Ne.symm hK.1, Ne.symm hK.2.1, Ne.symm hK.2.2]
  · rintro K hK b o hKb
    by_cases eN : K = nm
    · simp only [eN, if_true] at hKb
      rcases matF_join (v1 := v) (v2 := v) hul hKb with hb | ⟨i, u, hu, hb⟩ | ⟨i, u, hi, hu, hb⟩
      · rcases vout b hb with hb | hb
        · exact .inl ⟨N, .inl rfl, fN b o hb⟩
        · exact .inr hb
      · exact .inl ⟨N, .inl rfl, fN2 i u b o hu hb⟩
      · exact .inl ⟨B, .inr (.inl rfl), fB i u b o hi hu hb⟩
    · have hK : K = N ∨ K = B := by
        rcases hK with hK | hK | hK
        · exact .inl hK
        · exact .inr hK
        · exact (eN hK).elim
      simp [eN, hK] at hKb
  · rintro K hK b o hKb
    by_cases eN : K = nm
    · simp only [eN, if_true] at hKb
      rcases matF_join (v1 := v) (v2 := v) hul hKb with hb | ⟨i, u, hu, hb⟩ | ⟨i, u, hi, hu, hb⟩
      · exact hvlt b hb
      · exact Nat.lt_of_lt_of_le (h.lt N b o (fN2 i u b o hu hb)) hk.size
      · exact Nat.lt_of_lt_of_le (h.lt B b o (fB i u b o hi hu hb)) hk.size
    · have hK : K = N ∨ K = B := by
        rcases hK with hK | hK | hK
        · exact .inl hK
        · exact .inr hK
        · exact (eN hK).elim
      simp [eN, hK] at hKb
  · rintro K K' b o hK hK' hKK k1 k2
    by_cases eK : K = nm
    · by_cases eK' : K' = nm
      · exact hKK (eK.trans eK'.symm)
      · have hK' : K' = N ∨ K' = B := by
          rcases hK' with hK | hK | hK
          · exact .inl hK
          · exact .inr hK
          · exact (eK' hK).elim
        simp [eK', hK'] at k2
    · have hK : K = N ∨ K = B := by
        rcases hK with hK | hK | hK
        · exact .inl hK
        · exact .inr hK
        · exact (eK hK).elim
      simp [eK, hK] at k1
  · intro K hK
    have : K ≠ nm := fun e => hnm (e ▸ hK)
    simp [this]
  · rintro K (hK | rfl)
    · have : K ≠ nm := fun e => hnm (e ▸ hK)
      simpa [this] using h.hd K hK
    · simp only [if_true]
      obtain ⟨aa, c, rfl, _⟩ := own_form hown
      exact .inl ⟨_, _, _, rfl⟩
  · intro K hK
    simp only [not_or] at hK
    have hKN : N ≠ K := fun e => hK.1 (e ▸ hN)
    have hKB : B ≠ K := fun e => hK.1 (e ▸ hB)
    simp only [St.apply, St.upd, List.foldl_cons, List.foldl_nil, look_upd, Ne.symm hK.2, hKN, hKB, if_false]
    exact h.dm K hK.1
  · rintro hs K hK
    by_cases eN : K = nm
    · subst eN
      simp only [St.apply, St.upd, List.foldl_cons, List.foldl_nil, look_upd, if_true]
      refine hp _ _ _ _ _ _ ⟨us ++ vs, ⟨?_, h1.flat, ?_, ?_, ?_, ?_⟩, rfl⟩
      · rw [List.length_append]; exact hown
      · intro i u x hu hx hi
        by_cases hlt : i < us.length
        · rw [List.getElem?_append_left hlt] at hu
          rw [List.getElem?_append_left (by omega)] at hx
          exact (h1.row i u x hu hx rfl).mono hk h1.flat fun b hb o hv => h1.out i u b rfl hu hb hv
        · rw [List.getElem?_append_right (by omega)] at hu
          rw [List.getElem?_append_right (by omega), ← hul] at hx
          have hi' := alN_join hi (by omega)
          rw [← hul] at hi'
          exact (h2.row _ u x hu hx hi').mono hk h1.flat fun b hb o hv => h.dj N B b o (Ne.symm hNB) (fN b o hv) (fB _ u b o hi' hu hb)
      · intro i M hal
        cases al with
        | none => cases hal
        | some q =>
          simp only [Option.map_some, Option.some.injEq, Prod.mk.injEq] at hal
          obtain ⟨rfl, rfl⟩ := hal
          obtain ⟨k1, k2, k3⟩ := h2.ali q.1 q.2 rfl
          have hne : q.2 ≠ K := fun e => hnm (e ▸ k3)
          refine ⟨by rw [List.length_append]; omega, ?_, .inl k3⟩
          rw [List.getElem?_append_right (by omega), hul, Nat.add_sub_cancel_left, k2, if_neg hne]
      · intro i j u u' b hij hi hj hu hu' hb hb'
        by_cases hlt : i < us.length
        · rw [List.getElem?_append_left hlt] at hu
          by_cases hlt' : j < us.length
          · rw [List.getElem?_append_left hlt'] at hu'
            exact h1.dj i j u u' b hij rfl rfl hu hu' hb hb'
          · rw [List.getElem?_append_right (by omega)] at hu'
            have hj' := alN_join hj (by omega)
            rw [← hul] at hj'
            exact h.dj N B b 0 (Ne.symm hNB) (fN2 i u b 0 hu hb) (fB _ u' b 0 hj' hu' hb')
        · rw [List.getElem?_append_right (by omega)] at hu
          have hi' := alN_join hi (by omega)
          rw [← hul] at hi'
          by_cases hlt' : j < us.length
          · rw [List.getElem?_append_left hlt'] at hu'
            exact h.dj N B b 0 (Ne.symm hNB) (fN2 j u' b 0 hu' hb') (fB _ u b 0 hi' hu hb)
          · rw [List.getElem?_append_right (by omega)] at hu'
            have hj' := alN_join hj (by omega)
            rw [← hul] at hj'
            exact h2.dj _ _ u u' b (by omega) hi' hj' hu hu' hb hb'
      · intro i u b hi hu hb hv
        by_cases hlt : i < us.length
        · rw [List.getElem?_append_left hlt] at hu
          rcases vout b hv with hv | hv
          · exact h1.out i u b rfl hu hb hv
          · exact absurd (h.lt N b 0 (fN2 i u b 0 hu hb)) (by omega)
        · rw [List.getElem?_append_right (by omega)] at hu
          have hi' := alN_join hi (by omega)
          rw [← hul] at hi'
          rcases vout b hv with hv | hv
          · exact h.dj N B b 0 (Ne.symm hNB) (fN b 0 hv) (fB _ u b 0 hi' hu hb)
          · exact absurd (h.lt B b 0 (fB _ u b 0 hi' hu hb)) (by omega)
    · have hK' : K = N ∨ K = B := by
        rcases hK with hK | hK | hK
        · exact .inl hK
        · exact .inr hK
        · exact (eN hK).elim
      have : look (σ.apply [Upd.ob N PV.dead, Upd.ob B PV.dead, Upd.ob nm p]).ob K = .dead := by
        simp only [St.apply, St.upd, List.foldl_cons, List.foldl_nil, look_upd, Ne.symm eN, if_false]
        by_cases e1 : B = K
        · simp [e1]
        · have : N = K := by rcases hK' with h | h; exact h.symm; exact absurd h.symm e1
          simp [e1, this]
      rw [this]
      simp only [eN, hK', if_false, if_true, OB, PR]
      exact ⟨trivial, trivial⟩
theorem matAs_spec {h : Nat → PV} {e e' : TypeId} {t : Ty} {p : PV} {B : Nat} {ys : List (List t.El)} {al : Option (Nat × Nat)} (hq : matAs h e e' t p = some (B, ys, al)) :
    p = .ref B ∧ ((al = none ∧ h B = .mat e e' t ys) ∨ (∃ j M, al = some (j, M) ∧ h B = .hol e e' t ys j M)) := by
  unfold matAs at hq
  split at hq
  · split at hq
    · rename_i hB
      split at hq
      · rename_i ht
        subst ht
        split at hq
        · rename_i he
          obtain ⟨rfl, rfl⟩ := he
          simp only [Option.some.injEq, Prod.mk.injEq] at hq
          obtain ⟨rfl, rfl, rfl⟩ := hq
          exact ⟨rfl, .inl ⟨rfl, hB⟩⟩
        · cases hq
      · cases hq
    · rename_i hB
      split at hq
      · rename_i ht
        subst ht
        split at hq
        · rename_i he
          obtain ⟨rfl, rfl⟩ := he
          simp only [Option.some.injEq, Prod.mk.injEq] at hq
          obtain ⟨rfl, rfl, rfl⟩ := hq
          exact ⟨rfl, .inr ⟨_, _, rfl, hB⟩⟩
        · cases hq
      · cases hq
    · cases hq
  · cases hq
theorem matApp_ok {P : Program} {o : Oper} {c : Call} {s : TypeId} {x y : Operand} {σ : St} {h : Nat → PV} (hv : Vw h σ) (ho : o.op = .call c) (hcal : c.callee = .builtin .append) (hargs : c.args = #[x, y]) (hty : c.argTypes = #[s, s]) {nm : Nat} {k : List Upd → Prop} {q : Prop}
    (hk : matApp P False h nm o s (σ.eval x) (σ.eval y) k = some q) (hq : q) : ∃ us, k us ∧ OpOk P nm o σ us := by
  have hexec : ∀ (a : Act) (w w' : World) (v : Value), (Builtin.append_ #[s, s] o.type #[a.eval x, a.eval y]).run P w = .ok v w' → (execOp a.eval o).run P w = .ok (.value v) w' := by
    intro a w w' v hr
    simp [execOp, ho, resolve, hcal, hargs, hty, invoke, builtin, hr]
  unfold matApp at hk
  split at hk
  · rename_i N hx
    split at hk
    · rename_i e e' t xs hN
      injection hk with hk
      rw [← hk] at hq
      split at hq
      · rename_i B ys al e1 e2 t1 hm he2
        split at hq
        · rename_i hc
          obtain ⟨rfl, rfl, rfl, hBN⟩ := hc
          split at hq
          case isFalse => exact hq.elim
          rename_i hb
          obtain ⟨he, hue, ht⟩ := elO2_spec he2
          obtain ⟨hp, hB⟩ := matAs_spec hm
          have key : ∀ p : PV, (∀ env D w O v F, (∃ us, MatOk env D w v e1 e2 t1 (xs ++ ys) (al.map fun q => (xs.length + q.1, q.2)) us ∧ F = matF v (al.map fun q => (xs.length + q.1, q.2)) us) → OB env D w O v p F) →
              OpOk P nm o σ (.ob N .dead :: .ob B .dead :: .ob nm p :: Go.Proofs.Ytlpooghphoohcaa.R.put o (.ref nm)) := by
            intro p hpp X W0 w0 D a w K Q hfr hR hk'
            obtain ⟨env, F, hR⟩ := hR
            have hnm : ¬ D nm := hfr nm (Nat.le_refl _) (by omega)
            have hex := hR.ev x
            rw [hx] at hex
            simp only [PR] at hex
            have hey := hR.ev y
            rw [hp] at hey
            simp only [PR] at hey
            have hoN := hR.ob N
            rw [hv.eq hN (by simp)] at hoN
            simp only [OB] at hoN
            obtain ⟨us, h1, hF1⟩ := hoN
            have hoB := hR.ob B
            obtain ⟨vs, h2, hF2⟩ : ∃ vs, MatOk env D w (env B) e1 e2 t1 ys al vs ∧ F B = matF (env B) al vs := by
              rcases hB with ⟨rfl, hB⟩ | ⟨j, M, rfl, hB⟩
              · rw [hv.eq hB (by simp)] at hoB
                simpa only [OB] using hoB
              · rw [hv.eq hB (by simp)] at hoB
                simpa only [OB] using hoB
            obtain ⟨aN, cN, hen, _⟩ := own_form h1.own
            obtain ⟨aB, cB, heB, hcapB, hgB⟩ := own_form h2.own
            have hul : us.length = xs.length := by have := h1.own.1; omega
            have hvl : vs.length = ys.length := by have := h2.own.1; omega
            have hownB := h2.own
            rw [heB] at hownB
            have hone : ∀ u ∈ vs, u.oneCell' = true := by
              intro u hu
              obtain ⟨i, hi⟩ := List.mem_iff_getElem?.1 hu
              have hil := (List.getElem?_eq_some_iff.1 hi).1
              cases hal : alN al i with
              | none =>
                obtain ⟨ws, hin, _⟩ := h2.row i u ys[i] hi (List.getElem?_eq_getElem (by omega)) hal
                exact own_oneCell hin
              | some M =>
                cases al with
                | none => cases hal
                | some q =>
                  have hqi : q.1 = i := by
                    simp only [alN] at hal
                    split at hal
                    · rename_i e; exact e.symm
                    · cases hal
                  obtain ⟨_, k2, k3⟩ := h2.ali q.1 q.2 rfl
                  rw [hqi, hi] at k2
                  injection k2 with k2
                  rw [k2]
                  rcases hR.hd q.2 k3 with ⟨_, _, _, hh⟩ | ⟨_, hh⟩ <;> (rw [hh]; rfl)
            obtain ⟨v', w', hrun, hown, hg, hat⟩ := run_append (P := P) (w := w) (ty := o.type) (t := .sl t1) (c := cB) he h1.own (aa := aB) (m := ys.length) (vs := vs) (by rw [hvl]; simp [Ty.sz]) (fun hne => by
              obtain ⟨g, rfl⟩ := hgB hne
              refine ⟨g, 0, rfl, fun j u hu => ?_⟩
              have hj := (List.getElem?_eq_some_iff.1 hu).1
              have := hownB.cellAt j (by omega)
              rw [Nat.zero_add, show cl w g j = vs[j]? from this, hu]) hone hb
            obtain ⟨env', F', k1, k4⟩ := hR.joinM (nm := nm) hex.1 hey.1 hnm hBN h1 hF1 h2 hF2 hg hown hul hat p hpp
            refine wp_value (v := v') (w' := w') (hexec a w w' v' (by rw [hex.2, hey.2, heB]; exact hrun)) (hk' _ _ ?_)
            rw [St.apply_cons, St.apply_cons, St.apply_cons]
            exact k1.fin o (fun M hM => hM.imp id (fun e => by subst e; exact ⟨Nat.le_refl _, by omega⟩)) (.inr rfl) k4
          cases al with
          | none => exact ⟨_, hq, key _ (fun env D w O v F h => by simp only [OB]; exact h)⟩
          | some q =>
            obtain ⟨j, M⟩ := q
            dsimp only at hq
            split at hq
            · exact ⟨_, hq, key _ (fun env D w O v F h => by simp only [OB]; exact h)⟩
            · exact hq.elim
        · exact hq.elim
      · exact hq.elim
    · cases hk
  · cases hk
end Go.Proofs.Ytlpooghphoohcaa.R
/- Every operation does what `core` tells. -/
namespace Go.Proofs.Ytlpooghphoohcaa.R
open Go.RowKit
set_option linter.unusedVariables false
set_option linter.unusedSimpArgs false

def HdOk (P : Program) (C : Hd Prop) : Prop := ∀ f args Φ, C f args Φ → ∃ outs res, Φ outs res ∧ FnRel P f args outs res
section
variable {P : Program} {C : Hd Prop} {io : FuncId → List Bool} {nm : Nat} {o : Oper} {σ : St} {h : Nat → PV} {k : List Upd → Prop}
theorem exec_v {a : Act} {w : World} {s : Sem Value} {v : Value} (he : execOp a.eval o = (do pure (.value (← s)))) (h : s.run P w = .ok v w) : (execOp a.eval o).run P w = .ok (.value v) w := by
  rw [he, Sem.run_bind, h]
  rfl
theorem args1 {c : Call} {p : PV} (h : c.args.toList.map σ.eval = [p]) : ∃ x, c.args = #[x] ∧ p = σ.eval x := by
  obtain ⟨args⟩ : ∃ l, c.args = l := ⟨_, rfl⟩
  cases hc : c.args.toList with
  | nil => rw [hc] at h; cases h
  | cons x r =>
    rw [hc] at h
    cases r with
    | nil =>
      injection h with h _
      exact ⟨x, by apply Array.ext'; rw [hc], h.symm⟩
    | cons y r => simp at h
theorem args2 {c : Call} {p q : PV} (h : c.args.toList.map σ.eval = [p, q]) : ∃ x y, c.args = #[x, y] ∧ p = σ.eval x ∧ q = σ.eval y := by
  cases hc : c.args.toList with
  | nil => rw [hc] at h; cases h
  | cons x r =>
    rw [hc] at h
    cases r with
    | nil => simp at h
    | cons y r =>
      cases r with
      | nil =>
        simp only [List.map_cons, List.map_nil, List.cons.injEq, and_true] at h
        exact ⟨x, y, by apply Array.ext'; rw [hc], h.1.symm, h.2.symm⟩
      | cons z r => simp at h
theorem toList1 {α : Type} {a : Array α} {x : α} (h : a.toList = [x]) : a = #[x] := by apply Array.ext'; rw [h]
theorem toList2 {α : Type} {a : Array α} {x y : α} (h : a.toList = [x, y]) : a = #[x, y] := by apply Array.ext'; rw [h]
theorem run_builtin {a : Act} {w : World} {c : Call} {b : Go.Builtin} (ho : o.op = .call c) (hcal : c.callee = .builtin b) : (execOp a.eval o).run P w = (builtin b c.argTypes o.type (c.args.map fun | .const _ => true | _ => false) (c.args.map a.eval)).run P w := by
  have e1 : (execOp a.eval o) = (do let d ← resolve a.eval c o.type; invoke d.target d.args) := by simp only [execOp, ho]
  rw [e1, Sem.run_bind]
  simp only [resolve, hcal, Sem.run_pure, Result.andThen_ok, invoke]
  rfl
theorem core0_ok (hC : HdOk P C) (hv : Vw h σ) (hk : core0 P C io False nm o σ.eval h k) : ∃ us, k us ∧ OpOk P nm o σ us := by
  unfold core0 at hk
  split at hk
  · exact ⟨_, hk, ok_move (.inl ‹_›)⟩
  · rename_i x ho
    split at hk
    · rename_i hx
      split at hk
      · exact ⟨_, hk, nil_ok ho hx⟩
      · rw [← hx] at hk
        exact ⟨_, hk, ok_move (.inr ho)⟩
    · exact ⟨_, hk, ok_move (.inr ho)⟩
  · rename_i x ho
    split at hk
    · rename_i N hx
      split at hk
      · rename_i cs hN
        rw [← hx] at hk
        exact ⟨_, hk, ok_nilCheck ho (.inl ⟨N, hx, cs, .inl (hv.eq hN (by simp))⟩)⟩
      · rename_i cs hN
        rw [← hx] at hk
        exact ⟨_, hk, ok_nilCheck ho (.inl ⟨N, hx, cs, .inr (hv.eq hN (by simp))⟩)⟩
      · exact hk.elim
    · rename_i hx
      rw [← hx] at hk
      exact ⟨_, hk, ok_nilCheck ho (.inr (.inl ⟨_, _, _, _, hx⟩))⟩
    · rename_i hx
      rw [← hx] at hk
      exact ⟨_, hk, ok_nilCheck ho (.inr (.inr ⟨_, hx⟩))⟩
    · exact hk.elim
  · rename_i c x y ho
    obtain ⟨t, hk, ht⟩ := iteP_ok hk
    refine ⟨put o (if t then σ.eval x else σ.eval y), by cases t <;> exact hk, ok_pure fun X W0 w0 D a w env F hR => ⟨if t then a.eval x else a.eval y, ?_, ?_⟩⟩
    · have hc := ht _ _ _ _ _ (hR.ev c)
      simp only [execOp, ho, hc]
      cases t <;> rfl
    · cases t
      · exact hR.ev y
      · exact hR.ev x
  · exact alloc_ok ‹_› hk
  · split at hk
    · exact ⟨_, hk, box_ok ‹_› ‹_›⟩
    · exact hk.elim
  · exact build_ok ‹_› hk
  · exact buildS_ok hv ‹_› hk
  · exact load_ok hv ‹_› hk
  · exact store_ok hv ‹_› hk
  · rename_i op t x y yl ho
    obtain ⟨p, hk, hp⟩ := bin_ok (fun hl j b hy => by
      split at hl
      · simp only [St.eval, ofConst, ofConst1] at hy
        cases hy
        intro e
        rw [e] at hl
        exact absurd hl (by decide)
      · cases hl) hk
    refine ⟨_, hk, ok_pure fun X W0 w0 D a w env F hR => ?_⟩
    obtain ⟨v, h1, h2, h3⟩ := hp env D w _ _ _ (hR.ev x) (hR.ev y)
    refine ⟨v, ?_, h2⟩
    simp only [execOp, ho]
    rw [Sem.run_bind, Sem.run_bind, show (eqGuard op t x y (a.eval x) (a.eval y)).run P w = .ok () w by
      rcases h3 with h3 | ⟨hg, cs, ds, e1, e2⟩
      · exact run_eqGuard h3
      · rw [e1, e2]
        exact run_eqGuard_agg w op t x y cs ds hg]
    simp only [Result.andThen_ok, h1]
    rfl
  · rename_i op t x ho
    obtain ⟨p, hk, hp⟩ := una_ok hk
    refine ⟨_, hk, ok_pure fun X W0 w0 D a w env F hR => ?_⟩
    obtain ⟨v, h1, h2⟩ := hp P env D w _ _ (hR.ev x)
    exact ⟨v, exec_v (by simp only [execOp, ho]) h1, h2⟩
  · rename_i src dst x ho
    split at hk
    · rename_i d hd
      obtain ⟨p, hk, hp⟩ := cnv_ok ⟨d, hd⟩ hk
      refine ⟨_, hk, ok_pure fun X W0 w0 D a w env F hR => ?_⟩
      obtain ⟨v, h1, h2⟩ := hp env D w _ _ (hR.ev x)
      exact ⟨v, exec_v (by simp only [execOp, ho]) h1, h2⟩
    · exact hk.elim
  · rename_i f first caps ho
    split at hk
    · rename_i hz
      refine ⟨_, hk, ok_pure fun X W0 w0 D a w env F hR => ⟨.func (.func f) #[] (caps.map a.eval), exec_v (s := Instr.makeFunc (.func f) (first.map a.eval) (caps.map a.eval)) (by simp only [execOp, ho]) ?_, ?_⟩⟩
      · have : first.map a.eval = #[] := by
          have : first = #[] := Array.eq_empty_of_size_eq_zero hz
          rw [this]; simp
        rw [this]
        rfl
      · simp only [PR]
        refine ⟨caps.toList.map a.eval, congrArg (Value.func (.func f) #[]) (Array.ext' (by simp)), (PRs_iff _ _).2 ⟨by simp, fun i p u hp hu => ?_⟩⟩
        rw [List.getElem?_map] at hp hu
        obtain ⟨y, hy, rfl⟩ := Option.map_eq_some_iff.1 hp
        rw [hy] at hu
        simp only [Option.map_some, Option.some.injEq] at hu
        subst hu
        exact hR.ev y
    · exact hk.elim
  · exact make_ok ‹_› hk
  · split at hk
    · exact slice_ok ‹_› hv ‹_› hk
    · exact hk.elim
  · exact fieldA_ok hv ‹_› hk
  · exact fieldP_ok ‹_› hk
  · rename_i t x ix ho
    split at hk
    · rename_i e t' he
      obtain ⟨p, hk, hp⟩ := idx_ok he hv hk
      refine ⟨_, hk, ok_pure fun X W0 w0 D a w env F hR => ?_⟩
      obtain ⟨v, h1, h2⟩ := hp X W0 w0 D a w env F hR _ _ (hR.ev x) (hR.ev ix)
      exact ⟨v, exec_v (by simp only [execOp, ho]) h1, h2⟩
    · exact hk.elim
  · rename_i t i ho
    split at hk
    · rename_i ps hx
      split at hk
      · rename_i hi
        refine ⟨_, hk, ok_pure fun X W0 w0 D a w env F hR => ?_⟩
        have he := hR.ev t
        rw [hx] at he
        simp only [PR] at he
        obtain ⟨us, he, hps⟩ := he
        have hl := PRs_len hps
        refine ⟨us[i]'(by omega), exec_v (s := Instr.extract (a.eval t) i) (by simp only [execOp, ho]) ?_, ?_⟩
        · rw [he]
          have : us.toArray[i]? = some (us[i]'(by omega)) := by simp [show i < us.length by omega]
          simp only [Instr.extract, this]
          rfl
        · refine ((PRs_iff _ _).1 hps).2 i _ _ ?_ (List.getElem?_eq_getElem (by omega))
          simp [List.getD_eq_getElem?_getD, hi]
      · exact hk.elim
    · exact hk.elim
  · rename_i c ho
    split at hk
    · rename_i p hcal hargs
      split at hk
      · rename_i s hty
        obtain ⟨x, hax, rfl⟩ := args1 hargs
        obtain ⟨p, hk, hp⟩ := len_ok hv hk
        refine ⟨_, hk, ok_pure fun X W0 w0 D a w env F hR => ?_⟩
        obtain ⟨v, h1, h2⟩ := hp X W0 w0 D a w env F hR o.type _ (hR.ev x)
        refine ⟨v, ?_, h2⟩
        rw [run_builtin ho hcal, hax, toList1 hty]
        simp only [builtin, List.map_toArray, List.map_cons, List.map_nil, Sem.run_bind, h1]
        rfl
      · exact hk.elim
    · rename_i p q hcal hargs
      split at hk
      · rename_i s s' hty
        split at hk
        · rename_i hss
          subst hss
          obtain ⟨x, y, hax, rfl, rfl⟩ := args2 hargs
          exact append_ok hv ho hcal hax (toList2 hty) hk
        · exact hk.elim
      · exact hk.elim
    · rename_i p q hcal hargs
      split at hk
      · rename_i s s' hty
        split at hk
        · rename_i e t he
          obtain ⟨x, y, hax, rfl, rfl⟩ := args2 hargs
          exact copy_ok hv ho hcal hax (toList2 hty) he hk
        · exact hk.elim
      · exact hk.elim
    · rename_i i b j b' hcal hargs
      obtain ⟨x, y, hax, hx, hy⟩ := args2 hargs
      refine ⟨_, hk, ok_pure fun X W0 w0 D a w env F hR => ?_⟩
      have h1 := hR.ev x
      have h2 := hR.ev y
      rw [← hx] at h1
      rw [← hy] at h2
      simp only [PR, RV, List.cons.injEq, and_true] at h1 h2
      refine ⟨.int i (maxI b b'), ?_, by simp only [PR, RV]⟩
      rw [run_builtin ho hcal, hax]
      simp only [builtin, List.map_toArray, List.map_cons, List.map_nil, Sem.run_bind, h1, h2, run_max_int2]
      rfl
    · rename_i i b j b' hcal hargs
      obtain ⟨x, y, hax, hx, hy⟩ := args2 hargs
      refine ⟨_, hk, ok_pure fun X W0 w0 D a w env F hR => ?_⟩
      have h1 := hR.ev x
      have h2 := hR.ev y
      rw [← hx] at h1
      rw [← hy] at h2
      simp only [PR, RV, List.cons.injEq, and_true] at h1 h2
      refine ⟨.int i (minI b b'), ?_, by simp only [PR, RV]⟩
      rw [run_builtin ho hcal, hax]
      simp only [builtin, List.map_toArray, List.map_cons, List.map_nil, Sem.run_bind, h1, h2, run_min_int2]
      rfl
    · rename_i f hcal
      split at hk
      · rename_i fid caps hf
        exact call_ok hC hv ho hcal hf hk
      · exact hk.elim
    · exact hk.elim
  · exact hk.elim
theorem matOp_ok (hv : Vw h σ) {q : Prop} (hk : matOp P io False nm o σ.eval h k = some q) (hq : q) : ∃ us, k us ∧ OpOk P nm o σ us := by
  unfold matOp at hk
  split at hk
  · split at hk
    · exact matMake_ok ‹_› hk hq
    · cases hk
  · split at hk
    · exact matBuild_ok hv ‹_› hk hq
    · cases hk
  · exact matLoad_ok hv ‹_› hk hq
  · exact matStore_ok hv ‹_› hk hq
  · rename_i c ho
    split at hk
    · rename_i p q s s' hcal hargs hty
      split at hk
      · rename_i hss
        subst hss
        obtain ⟨x, y, hax, rfl, rfl⟩ := args2 hargs
        exact matApp_ok hv ho hcal hax (toList2 hty) hk hq
      · cases hk
    · cases hk
  · cases hk
theorem OpOk.closed (hv : Vw h σ) (L : List Nat) {us : List Upd} (hu : OpOk P nm o (σ.apply (closeF L h)) us) : OpOk P nm o σ (closeF L h ++ us) := by
  intro X W0 w0 D a w K Q hfr hR hk
  obtain ⟨env, F, hR⟩ := hR
  obtain ⟨F', h'⟩ := hR.closeF L hv
  refine hu X W0 w0 D a w K Q hfr ⟨env, F', h'⟩ fun a' w' h => hk a' w' ?_
  rw [St.apply_append]
  exact h
theorem eval_closed (L : List Nat) : (σ.apply (closeF L h)).eval = σ.eval := by
  funext x
  cases x <;> simp only [St.eval, St.get, noSl.sl _ (noSl.closeF L h) σ]
theorem core_ok (hC : HdOk P C) (hv : Vw h σ) (hk : core P C io False nm o σ.eval h k) : ∃ us, k us ∧ OpOk P nm o σ us := by
  unfold core at hk
  have hv' := hv.updF (closeF (pre o σ.eval h) h)
  have he := (eval_closed (σ := σ) (h := h) (pre o σ.eval h)).symm
  generalize hL : pre o σ.eval h = L at hk hv' he
  rw [he] at hk
  split at hk
  · rename_i q hm
    obtain ⟨us, h1, h2⟩ := matOp_ok hv' hm hk
    exact ⟨_, h1, h2.closed hv L⟩
  · obtain ⟨us, h1, h2⟩ := core0_ok hC hv' hk
    exact ⟨_, h1, h2.closed hv L⟩
end
end Go.Proofs.Ytlpooghphoohcaa.R
/- `core` tells one thing. -/
namespace Go.Proofs.Ytlpooghphoohcaa.R
open Go.RowKit
set_option linter.unusedVariables false
set_option linter.unusedSimpArgs false

def Det {U : Type _} (f : (U → Prop) → Prop) : Prop := ∀ k, f k → ∃ u, k u ∧ ∀ k', k' u → f k'
theorem binI_det {op : BinOp} {lit : Bool} {i : IntKind} {a b : Int} : Det (binI False op lit i a b) := by
  intro kk hh; unfold binI at hh; (repeat' split at hh); all_goals first | exact False.elim hh | (refine ⟨_, hh, fun k' h' => ?_⟩; clear hh; unfold binI; first | exact h' | (simp only [*]; exact h') | (simp [*]; done) | (simp_all; done))
theorem shI_det {op : BinOp} {i : IntKind} {a b : Int} : Det (shI False op i a b) := by
  intro kk hh; unfold shI at hh; (repeat' split at hh); all_goals first | exact False.elim hh | (refine ⟨_, hh, fun k' h' => ?_⟩; clear hh; unfold shI; first | exact h' | (simp only [*]; exact h') | (simp [*]; done) | (simp_all; done))
theorem optF_det {i : FloatKind} {r : Option Nat} : Det (optF False i r) := by
  intro kk hh; unfold optF at hh; (repeat' split at hh); all_goals first | exact False.elim hh | (refine ⟨_, hh, fun k' h' => ?_⟩; clear hh; unfold optF; first | exact h' | (simp only [*]; exact h') | (simp [*]; done) | (simp_all; done))
theorem binF_det {op : BinOp} {i : FloatKind} {a b : Nat} : Det (binF False op i a b) := by
  cases op <;> first | exact optF_det | (intro k h; exact h.elim) | (intro k h; exact ⟨_, h, fun k' h' => h'⟩)
theorem binB_det {bo : Bool} {op : BinOp} {a b : Bool} : Det (binB False bo op a b) := by
  intro kk hh; unfold binB at hh; (repeat' split at hh); all_goals first | exact False.elim hh | (refine ⟨_, hh, fun k' h' => ?_⟩; clear hh; unfold binB; first | exact h' | (simp only [*]; exact h') | (simp [*]; done) | (simp_all; done))
theorem binS_det {P : Program} {t : TypeId} {op : BinOp} {xs ys : List PV} : Det (binS P False t op xs ys) := by
  intro kk hh; unfold binS at hh; (repeat' split at hh); all_goals first | exact False.elim hh | (refine ⟨_, hh, fun k' h' => ?_⟩; clear hh; unfold binS; first | exact h' | (simp only [*]; exact h') | (simp [*]; done) | (simp_all; done))
theorem bin_det {P : Program} {t : TypeId} {op : BinOp} {lit : Bool} {x y : PV} : Det (bin P False t op lit x y) := by
  intro k h
  unfold bin at h
  split at h
  · rename_i i a j b
    split at h
    · obtain ⟨u, h1, h2⟩ := shI_det _ h
      exact ⟨u, h1, fun k' h' => h2 _ h'⟩
    · obtain ⟨u, h1, h2⟩ := shI_det _ h
      exact ⟨u, h1, fun k' h' => h2 _ h'⟩
    · rename_i n1 n2
      split at h
      · rename_i e
        obtain ⟨u, h1, h2⟩ := binI_det _ h
        refine ⟨u, h1, fun k' h' => ?_⟩
        have := h2 _ h'
        cases op <;> first | exact (n1 rfl).elim | exact (n2 rfl).elim | (simp only [bin, if_pos e]; exact this)
      · exact h.elim
  · rename_i i a j b
    split at h
    · rename_i e
      obtain ⟨u, h1, h2⟩ := binF_det _ h
      refine ⟨u, h1, fun k' h' => ?_⟩
      have := h2 _ h'
      simp only [bin, if_pos e]
      exact this
    · exact h.elim
  · obtain ⟨u, h1, h2⟩ := binB_det _ h
    exact ⟨u, h1, fun k' h' => h2 _ h'⟩
  · obtain ⟨u, h1, h2⟩ := binB_det _ h
    exact ⟨u, h1, fun k' h' => h2 _ h'⟩
  · obtain ⟨u, h1, h2⟩ := binB_det _ h
    exact ⟨u, h1, fun k' h' => h2 _ h'⟩
  · obtain ⟨u, h1, h2⟩ := binB_det _ h
    exact ⟨u, h1, fun k' h' => h2 _ h'⟩
  · obtain ⟨u, h1, h2⟩ := binS_det _ h
    exact ⟨u, h1, fun k' h' => h2 _ h'⟩
  · exact h.elim
theorem una_det {op : UnOp} {x : PV} : Det (una False op x) := by
  intro kk hh; unfold una at hh; (repeat' split at hh); all_goals first | exact False.elim hh | (refine ⟨_, hh, fun k' h' => ?_⟩; clear hh; unfold una; first | exact h' | (simp only [*]; exact h') | (simp [*]; done) | (simp_all; done))
theorem cnv_det {P : Program} {d : TypeId} {x : PV} : Det (cnv P False d x) := by
  intro kk hh; unfold cnv at hh; (repeat' split at hh); all_goals first | exact False.elim hh | (refine ⟨_, hh, fun k' h' => ?_⟩; clear hh; unfold cnv; first | exact h' | (simp only [*]; exact h') | (simp [*]; done) | (simp_all; done))
theorem inI_det {i : Int} {n : Nat} : Det (inI False i n) := by
  intro kk hh; unfold inI at hh; (repeat' split at hh); all_goals first | exact False.elim hh | (refine ⟨_, hh, fun k' h' => ?_⟩; clear hh; unfold inI; first | exact h' | (simp only [*]; exact h') | (simp [*]; done) | (simp_all; done))
theorem mkI_det {i : Int} {n : Nat} : Det (mkI False n i) := by
  intro kk hh; unfold mkI at hh; (repeat' split at hh); all_goals first | exact False.elim hh | (refine ⟨_, hh, fun k' h' => ?_⟩; clear hh; unfold mkI; first | exact h' | (simp only [*]; exact h') | (simp [*]; done) | (simp_all; done))
theorem toI_det {i : Int} {n : Nat} : Det (toI False i n) := by
  intro kk hh; unfold toI at hh; (repeat' split at hh); all_goals first | exact False.elim hh | (refine ⟨_, hh, fun k' h' => ?_⟩; clear hh; unfold toI; first | exact h' | (simp only [*]; exact h') | (simp [*]; done) | (simp_all; done))
theorem lenP_det {P : Program} {t : TypeId} {h : Nat → PV} {x : PV} : Det (lenP P False t h x) := by
  intro kk hh; unfold lenP at hh; (repeat' split at hh); all_goals first | exact False.elim hh | (refine ⟨_, hh, fun k' h' => ?_⟩; clear hh; unfold lenP; first | exact h' | (simp only [*]; exact h') | (simp [*]; done) | (simp_all; done))
theorem storeP_det {P : Program} {h : Nat → PV} {o : Oper} {t : TypeId} {a v : PV} : Det (storeP P False h o t a v) := by
  intro kk hh; unfold storeP at hh; (repeat' split at hh); all_goals first | exact False.elim hh | (refine ⟨_, hh, fun k' h' => ?_⟩; clear hh; unfold storeP; first | exact h' | (simp only [*]; exact h') | (simp [*]; done) | (simp_all; done))
theorem loadP_det {P : Program} {h : Nat → PV} {o : Oper} {t : TypeId} {a : PV} : Det (loadP P False h o t a) := by
  intro kk hh; unfold loadP at hh; (repeat' split at hh); all_goals first | exact False.elim hh | (refine ⟨_, hh, fun k' h' => ?_⟩; clear hh; unfold loadP; first | exact h' | (simp only [*]; exact h') | (simp [*]; done) | (simp_all; done))
theorem fieldA_det {P : Program} {h : Nat → PV} {o : Oper} {t : TypeId} {a : PV} {f : Nat} : Det (fieldA P False h o t a f) := by
  intro kk hh; unfold fieldA at hh; (repeat' split at hh); all_goals first | exact False.elim hh | (refine ⟨_, hh, fun k' h' => ?_⟩; clear hh; unfold fieldA; first | exact h' | (simp only [*]; exact h') | (simp [*]; done) | (simp_all; done))
theorem fieldP_det {P : Program} {o : Oper} {t : TypeId} {a : PV} {f : Nat} : Det (fieldP P False o t a f) := by
  intro kk hh; unfold fieldP at hh; (repeat' split at hh); all_goals first | exact False.elim hh | (refine ⟨_, hh, fun k' h' => ?_⟩; clear hh; unfold fieldP; first | exact h' | (simp only [*]; exact h') | (simp [*]; done) | (simp_all; done))
theorem allocP_det {P : Program} {nm : Nat} {o : Oper} {t : TypeId} : Det (allocP P False nm o t) := by
  intro kk hh; unfold allocP at hh; (repeat' split at hh); all_goals first | exact False.elim hh | (refine ⟨_, hh, fun k' h' => ?_⟩; clear hh; unfold allocP; first | exact h' | (simp only [*]; exact h') | (simp [*]; done) | (simp_all; done))
theorem buildP_det {P : Program} {nm : Nat} {o : Oper} {t : TypeId} {ps : List (Nat × PV)} : Det (buildP P False nm o t ps) := by
  intro kk hh; unfold buildP at hh; (repeat' split at hh); all_goals first | exact False.elim hh | (refine ⟨_, hh, fun k' h' => ?_⟩; clear hh; unfold buildP; first | exact h' | (simp only [*]; exact h') | (simp [*]; done) | (simp_all; done))
theorem buildS_det {P : Program} {h : Nat → PV} {nm n : Nat} {o : Oper} {t : TypeId} {ps : List (Nat × PV)} : Det (buildS P False h nm o t n ps) := by
  intro kk hh; unfold buildS at hh; (repeat' split at hh); all_goals first | exact False.elim hh | (refine ⟨_, hh, fun k' h' => ?_⟩; clear hh; unfold buildS; first | exact h' | (simp only [*]; exact h') | (simp [*]; done) | (simp_all; done))
theorem appendP_det {P : Program} {h : Nat → PV} {nm : Nat} {o : Oper} {t : TypeId} {a b : PV} : Det (appendP P False h nm o t a b) := by
  intro kk hh; unfold appendP at hh; (repeat' split at hh); all_goals first | exact False.elim hh | (refine ⟨_, hh, fun k' h' => ?_⟩; clear hh; unfold appendP; first | exact h' | (simp only [*]; exact h') | (simp [*]; done) | (simp_all; done))
theorem copyP_det {s : Nat} {h : Nat → PV} {o : Oper} {a b : PV} : Det (copyP s False h o a b) := by
  intro kk hh; unfold copyP at hh; (repeat' split at hh); all_goals first | exact False.elim hh | (refine ⟨_, hh, fun k' h' => ?_⟩; clear hh; unfold copyP; first | exact h' | (simp only [*]; exact h') | (simp [*]; done) | (simp_all; done))
theorem makeP_det {P : Program} {nm : Nat} {o : Oper} {t : TypeId} {same : Bool} {l : PV} : Det (makeP P False nm o t same l) := by
  intro k h
  unfold makeP at h
  split at h
  · rename_i e t' n he
    obtain ⟨u, h1, h2⟩ := mkI_det _ h
    refine ⟨_, h1, fun k' h' => ?_⟩
    simp only [makeP, he]
    exact h2 _ h'
  · exact h.elim
end Go.Proofs.Ytlpooghphoohcaa.R
/- `core` tells one thing, for everyone who sees the same. -/
namespace Go.Proofs.Ytlpooghphoohcaa.R
open Go.RowKit
set_option linter.unusedVariables false
set_option linter.unusedSimpArgs false

theorem Det.bind {U V : Type _} {g : (U → Prop) → Prop} {f : U → (V → Prop) → Prop} (hg : Det g) (hf : ∀ x, Det (f x)) : Det (fun k => g fun x => f x k) := by
  intro k h
  obtain ⟨x, h1, h2⟩ := hg _ h
  obtain ⟨u, h3, h4⟩ := hf x _ h1
  exact ⟨u, h3, fun k' h' => h2 _ (h4 _ h')⟩
theorem Det.ret {U : Type _} (u : U) : Det (fun k : U → Prop => k u) := fun k h => ⟨u, h, fun k' h' => h'⟩
theorem Det.no {U : Type _} : Det (fun k : U → Prop => False) := fun k h => h.elim
theorem Det.ite {U : Type _} {c : Prop} [Decidable c] {f g : (U → Prop) → Prop} (hf : Det f) (hg : Det g) : Det (fun k => if c then f k else g k) := by
  intro k h
  by_cases hc : c
  · rw [if_pos hc] at h
    obtain ⟨u, h1, h2⟩ := hf k h
    exact ⟨u, h1, fun k' h' => by dsimp only; rw [if_pos hc]; exact h2 _ h'⟩
  · rw [if_neg hc] at h
    obtain ⟨u, h1, h2⟩ := hg k h
    exact ⟨u, h1, fun k' h' => by dsimp only; rw [if_neg hc]; exact h2 _ h'⟩
theorem Det.map {U V : Type _} {g : (U → Prop) → Prop} (hg : Det g) (f : U → V) : Det (fun k => g fun x => k (f x)) := hg.bind fun x => Det.ret (f x)
theorem iteP_det {U : Type _} {x : PV} {u v : U} : Det (fun k => iteP False x (k u) (k v)) := by
  intro k h
  cases x with
  | tst c d =>
    simp only [iteP] at h ⊢
    split at h
    · rename_i hc; exact ⟨u, h, fun k' h' => by rw [if_pos hc]; exact h'⟩
    · rename_i hc; exact ⟨v, h, fun k' h' => by rw [if_neg hc]; exact h'⟩
  | val t b =>
    cases t with
    | bool =>
      cases b with
      | true => exact ⟨u, h, fun k' h' => h'⟩
      | false => exact ⟨v, h, fun k' h' => h'⟩
    | _ => exact h.elim
  | _ => exact h.elim
theorem idx_det {n : Nat} {h : Nat → PV} {x ix : PV} : Det (idx False n h x ix) := by
  have h1 : ∀ (i : Int) (m : Nat) (f : Nat → PV), Det (fun k => inI False i m fun j => k (f j)) := fun i m f => inI_det.map f
  cases ix with
  | val ti i =>
    cases ti with
    | int kk =>
      cases x with
      | val t xs =>
        cases t with
        | sl t => exact Det.ite (h1 _ _ _) Det.no
        | _ => exact Det.no
      | ref N =>
        cases hN : h N with
        | row e t xs =>
          have e : idx False n h (.ref N) (.val (.int kk) i) = fun k => if t.sz = n then inI False i (List.length xs) fun j => k (.cp N j n 0) else False := by funext k; simp only [idx, hN]
          rw [e]
          exact Det.ite (h1 _ _ _) Det.no
        | val t xs =>
          cases t with
          | sl t =>
            have e : idx False n h (.ref N) (.val (.int kk) i) = fun k => if t.sz = n then inI False i (List.length xs) fun j => k (.cp N j n 0) else False := by funext k; simp only [idx, hN]
            rw [e]
            exact Det.ite (h1 _ _ _) Det.no
          | _ => intro k hk; simp only [idx, hN] at hk
        | mat e e' t xs =>
          have e : idx False n h (.ref N) (.val (.int kk) i) = fun k => if n = 1 then inI False i (List.length xs) fun j => k (.cp N j 1 0) else False := by funext k; simp only [idx, hN]
          rw [e]
          exact Det.ite (h1 _ _ _) Det.no
        | hol e e' t xs i' M' =>
          have e : idx False n h (.ref N) (.val (.int kk) i) = fun k => if n = 1 then inI False i (List.length xs) fun j => k (.cp N j 1 0) else False := by funext k; simp only [idx, hN]
          rw [e]
          exact Det.ite (h1 _ _ _) Det.no
        | _ => intro k hk; simp only [idx, hN] at hk
      | win N s lo m => exact Det.ite (h1 _ _ _) Det.no
      | _ => exact Det.no
    | _ => exact Det.no
  | _ => exact Det.no
def loP (lo : Option PV) (b : Nat) (kk : Nat → Nat → Prop) : Prop :=
  match lo with
  | none => kk 0 b
  | some (.val (.int _) a) => toI False a b fun a => kk a (b - a)
  | _ => False
def bndP (len : Nat) (lo hi : Option PV) (kk : Nat → Nat → Prop) : Prop :=
  match hi with
  | none => loP lo len kk
  | some (.val (.int _) b) => toI False b len fun b => loP lo b kk
  | _ => False
theorem loP_det {V : Type _} {lo : Option PV} (f : Nat → Nat → V) (b : Nat) : Det (fun k => loP lo b fun a n => k (f a n)) := by
  cases lo with
  | none => exact Det.ret _
  | some p =>
    cases p with
    | val t a =>
      cases t with
      | int _ => exact toI_det.map fun a => f a (b - a)
      | _ => exact Det.no
    | _ => exact Det.no
theorem bndP_det {V : Type _} {len : Nat} {lo hi : Option PV} (f : Nat → Nat → V) : Det (fun k => bndP len lo hi fun a n => k (f a n)) := by
  cases hi with
  | none => exact loP_det f len
  | some p =>
    cases p with
    | val t b =>
      cases t with
      | int _ => exact toI_det.bind (loP_det f)
      | _ => exact Det.no
    | _ => exact Det.no
theorem slice_ref {s : Nat} {h : Nat → PV} {o : Oper} {N : Nat} {lo hi : Option PV} {t : Ty} {xs : List t.El} (hN : (∃ e, h N = .row e t xs) ∨ h N = .val (.sl t) xs) :
    sliceP False s h o (.ref N) lo hi = fun k => if t.sz = s then bndP xs.length lo hi fun a n => k (put o (.win N s a n)) else False := by
  funext k
  rcases hN with ⟨e, hN⟩ | hN <;> simp only [sliceP, hN] <;> congr 1 <;> unfold bndP loP <;> rfl
theorem sliceP_det {s : Nat} {h : Nat → PV} {o : Oper} {x : PV} {lo hi : Option PV} : Det (sliceP False s h o x lo hi) := by
  cases x with
  | val t xs =>
    cases t with
    | sl t =>
      have e : sliceP False s h o (.val (.sl t) xs) lo hi = fun k => if t.sz = s then bndP (List.length xs) lo hi fun a n => k (put o (.val (.sl t) ((List.drop a xs).take n))) else False := by
        funext k; simp only [sliceP]; congr 1 <;> unfold bndP loP <;> rfl
      rw [e]
      exact Det.ite (bndP_det _) Det.no
    | _ => exact Det.no
  | ref N =>
    cases hN : h N with
    | row e t xs => rw [slice_ref (.inl ⟨e, hN⟩)]; exact Det.ite (bndP_det _) Det.no
    | val t xs =>
      cases t with
      | sl t => rw [slice_ref (.inr hN)]; exact Det.ite (bndP_det _) Det.no
      | _ => intro k hk; simp only [sliceP, hN] at hk
    | _ => intro k hk; simp only [sliceP, hN] at hk
  | win N s' l m =>
    have e : sliceP False s h o (.win N s' l m) lo hi = fun k => if s' = s then bndP m lo hi fun a n => k (put o (.win N s (l + a) n)) else False := by
      funext k; simp only [sliceP]; congr 1 <;> unfold bndP loP <;> rfl
    rw [e]
    exact Det.ite (bndP_det _) Det.no
  | _ => exact Det.no

/-- The plain handler: what the function does. -/
def CS (P : Program) : Hd Prop := fun f args Φ => ∃ outs res, Φ outs res ∧ FnRel P f args outs res
theorem CS_ok (P : Program) : HdOk P (CS P) := fun f args Φ h => h
theorem callP_det {P : Program} {io : FuncId → List Bool} {h : Nat → PV} {nm : Nat} {o : Oper} {f : FuncId} {ps : List PV} : Det (callP (CS P) io False h nm o f ps) := by
  refine Det.ite (c := callOk h (io f) ps = true) ?_ Det.no
  intro k hk
  obtain ⟨outs, res, hk, hr⟩ := hk
  split at hk
  · rename_i us h1 h2
    refine ⟨_, hk, fun k' h' => ⟨outs, res, ?_, hr⟩⟩
    simp only [h1, h2]
    exact h'
  · exact hk.elim
theorem callQ_det {P : Program} {io : FuncId → List Bool} {h : Nat → PV} {nm : Nat} {o : Oper} {f : FuncId} {ps : List PV} : Det (callQ (CS P) io False h nm o f ps) := by
  rcases callQ_or io h nm o f ps with ⟨cs, p, _, hq⟩ | hq
  · rw [funext (hq (CS P))]
    exact callP_det
  · rw [funext (hq (CS P))]
    exact Det.ite callP_det Det.no
theorem core0_det {P : Program} {io : FuncId → List Bool} {nm : Nat} {o : Oper} {ev : Operand → PV} {h : Nat → PV} : Det (core0 P (CS P) io False nm o ev h) := by
  intro k hk
  unfold core0 at hk ⊢
  cases ho : o.op with
  | move x => rw [ho] at hk; exact Det.ret _ k hk
  | assign x =>
    rw [ho] at hk
    dsimp only at hk ⊢
    split at hk
    · rename_i hx
      (try simp only [hx])
      split at hk
      · rename_i hx; (try simp only [hx]); exact Det.ret _ k hk
      · rename_i hx; (try simp only [hx]); exact Det.ret _ k hk
    · rename_i hx; exact ⟨_, hk, fun k' h' => by first | exact h' | (split <;> first | exact h' | (rename_i hy; exact (hx hy).elim))⟩
  | nilCheck x =>
    rw [ho] at hk
    dsimp only at hk ⊢
    split at hk
    · rename_i N hx
      (try simp only [hx])
      split at hk
      · rename_i hx; (try simp only [hx]); exact Det.ret _ k hk
      · rename_i hx; (try simp only [hx]); exact Det.ret _ k hk
      · exact hk.elim
    · rename_i hx; (try simp only [hx]); exact Det.ret _ k hk
    · rename_i hx; (try simp only [hx]); exact Det.ret _ k hk
    · exact hk.elim
  | pick c a b => rw [ho] at hk; exact iteP_det (u := put o (ev a)) (v := put o (ev b)) k hk
  | alloc e => rw [ho] at hk; exact allocP_det k hk
  | box e x => rw [ho] at hk; exact Det.ite (Det.ret _) Det.no k hk
  | build t ps => rw [ho] at hk; exact buildP_det k hk
  | buildSlice t n ps => rw [ho] at hk; exact buildS_det k hk
  | load t a => rw [ho] at hk; exact loadP_det k hk
  | store t a v => rw [ho] at hk; exact storeP_det k hk
  | binOp op t x y l => rw [ho] at hk; exact bin_det.map (fun p => put o p) k hk
  | unOp op t x => rw [ho] at hk; exact una_det.map (fun p => put o p) k hk
  | convert s d x =>
    rw [ho] at hk
    dsimp only at hk ⊢
    split at hk
    · rename_i hx; (try simp only [hx]); exact cnv_det.map (fun p => put o p) k hk
    · exact hk.elim
  | makeFunc f fi ca =>
    rw [ho] at hk
    cases f with
    | func f => exact Det.ite (Det.ret _) Det.no k hk
    | _ => exact hk.elim
  | makeSlice t l c => rw [ho] at hk; exact makeP_det k hk
  | slice t x lo hi mx =>
    rw [ho] at hk
    cases mx with
    | none =>
      dsimp only at hk ⊢
      split at hk
      · rename_i hx; (try simp only [hx]); exact sliceP_det k hk
      · exact hk.elim
    | some m => exact hk.elim
  | fieldAddr s x f => rw [ho] at hk; exact fieldA_det k hk
  | field s x f => rw [ho] at hk; exact fieldP_det k hk
  | indexAddr t x ix =>
    rw [ho] at hk
    dsimp only at hk ⊢
    split at hk
    · rename_i hx; (try simp only [hx]); exact idx_det.map (fun p => put o p) k hk
    · exact hk.elim
  | extract t i =>
    rw [ho] at hk
    dsimp only at hk ⊢
    split at hk
    · rename_i hx; (try simp only [hx]); exact Det.ite (Det.ret _) Det.no k hk
    · exact hk.elim
  | call c =>
    rw [ho] at hk
    dsimp only at hk ⊢
    split at hk
    · rename_i h1 h2
      (try simp only [h1, h2])
      split at hk
      · rename_i hx; (try simp only [hx]); exact lenP_det.map (fun p => put o p) k hk
      · exact hk.elim
    · rename_i h1 h2
      (try simp only [h1, h2])
      split at hk
      · rename_i hx; (try simp only [hx]); exact Det.ite appendP_det Det.no k hk
      · exact hk.elim
    · rename_i h1 h2
      (try simp only [h1, h2])
      split at hk
      · rename_i hx
        (try simp only [hx])
        split at hk
        · rename_i hx; (try simp only [hx]); exact copyP_det k hk
        · exact hk.elim
      · exact hk.elim
    · rename_i h1 h2
      (try simp only [h1, h2])
      exact Det.ret _ k hk
    · rename_i h1 h2
      (try simp only [h1, h2])
      exact Det.ret _ k hk
    · rename_i h1
      (try simp only [h1])
      split at hk
      · rename_i hx
        (try simp only [hx])
        exact callQ_det k hk
      · exact hk.elim
    · exact hk.elim
  | _ => rw [ho] at hk; exact hk.elim
/-- An operation on rows of rows tells one thing, or is none. -/
def DetO {U : Type _} (g : (U → Prop) → Option Prop) : Prop := (∀ k, g k = none) ∨ ∃ f, Det f ∧ ∀ k, g k = some (f k)
theorem DetO.no {U : Type _} : DetO (fun _ : U → Prop => none) := .inl fun _ => rfl
theorem DetO.some {U : Type _} {f : (U → Prop) → Prop} (h : Det f) : DetO (fun k => some (f k)) := .inr ⟨f, h, fun _ => rfl⟩
theorem matMake_det {P : Program} {nm : Nat} {o : Oper} {s : TypeId} {same : Bool} {l : PV} : DetO (matMake P False nm o s same l) := by
  unfold matMake
  split
  · exact DetO.some (mkI_det.map fun m => _)
  · exact DetO.no
theorem matBuild_det {P : Program} {h : Nat → PV} {nm : Nat} {o : Oper} {s : TypeId} {n : Nat} {ps : List (Nat × PV)} : DetO (matBuild P False h nm o s n ps) := by
  unfold matBuild
  split
  · exact DetO.some (Det.ret _)
  · split
    · exact DetO.some (Det.ret _)
    · exact DetO.no
  · exact DetO.no
theorem matLoad_det {P : Program} {h : Nat → PV} {nm : Nat} {o : Oper} {t : TypeId} {a : PV} : DetO (matLoad P False h nm o t a) := by
  unfold matLoad
  split
  · split
    · exact DetO.some (Det.ite (Det.ret _) Det.no)
    · exact DetO.no
  · exact DetO.no
theorem matStore_det {P : Program} {h : Nat → PV} {o : Oper} {t : TypeId} {a v : PV} : DetO (matStore P False h o t a v) := by
  unfold matStore
  split
  · split
    · split
      · exact DetO.some (Det.ite (Det.ret _) Det.no)
      · exact DetO.some Det.no
    · exact DetO.no
  · exact DetO.no
theorem matApp_det {P : Program} {h : Nat → PV} {nm : Nat} {o : Oper} {s : TypeId} {a b : PV} : DetO (matApp P False h nm o s a b) := by
  unfold matApp
  split
  · split
    · split
      · rename_i al _ _ _ _ _
        cases al with
        | none => exact DetO.some (Det.ite (Det.ite (Det.ret _) Det.no) Det.no)
        | some q => exact DetO.some (Det.ite (Det.ite (Det.ite (Det.ret _) Det.no) Det.no) Det.no)
      · exact DetO.some Det.no
    · exact DetO.no
  · exact DetO.no
theorem matOp_det {P : Program} {io : FuncId → List Bool} {nm : Nat} {o : Oper} {ev : Operand → PV} {h : Nat → PV} : DetO (matOp P io False nm o ev h) := by
  unfold matOp
  split
  · split
    · exact matMake_det
    · exact DetO.no
  · split
    · exact matBuild_det
    · exact DetO.no
  · exact matLoad_det
  · exact matStore_det
  · split
    · split
      · exact matApp_det
      · exact DetO.no
    · exact DetO.no
  · exact DetO.no
theorem core_det {P : Program} {io : FuncId → List Bool} {nm : Nat} {o : Oper} {ev : Operand → PV} {h : Nat → PV} : Det (core P (CS P) io False nm o ev h) := by
  rcases matOp_det (P := P) (io := io) (nm := nm) (o := o) (ev := ev) (h := updF h (closeF (pre o ev h) h)) with hn | ⟨g, hg, he⟩
  · intro k hk
    unfold core at hk ⊢
    simp only [hn] at hk ⊢
    exact (core0_det (P := P) (io := io) (nm := nm) (o := o) (ev := ev)).map (fun us => closeF (pre o ev h) h ++ us) k hk
  · intro k hk
    unfold core at hk ⊢
    simp only [he] at hk ⊢
    exact hg.map (fun us => closeF (pre o ev h) h ++ us) k hk
theorem core0_cs {P : Program} {C : Hd Prop} (hC : HdOk P C) {io : FuncId → List Bool} {nm : Nat} {o : Oper} {ev : Operand → PV} {h : Nat → PV} {k : List Upd → Prop} (hk : core0 P C io False nm o ev h k) : core0 P (CS P) io False nm o ev h k := by
  unfold core0 at hk ⊢
  cases ho : o.op with
  | call c =>
    rw [ho] at hk
    dsimp only at hk ⊢
    split at hk
    · rename_i h1 h2; (try simp only [h1, h2]); exact hk
    · rename_i h1 h2; (try simp only [h1, h2]); exact hk
    · rename_i h1 h2; (try simp only [h1, h2]); exact hk
    · rename_i h1 h2; (try simp only [h1, h2]); exact hk
    · rename_i h1 h2; (try simp only [h1, h2]); exact hk
    · rename_i h1
      (try simp only [h1])
      split at hk
      · rename_i hx
        (try simp only [hx])
        have hp : ∀ {f ps}, callP C io False h nm o f ps k → callP (CS P) io False h nm o f ps k := by
          intro f ps hk
          unfold callP at hk ⊢
          split at hk
          · rename_i hok
            rw [if_pos hok]
            exact hC _ _ _ hk
          · exact hk.elim
        rcases callQ_or io h nm o _ _ with ⟨cs, p, _, hq⟩ | hq
        · rw [hq] at hk ⊢
          exact hp hk
        · rw [hq] at hk ⊢
          split at hk
          · rename_i hf
            rw [if_pos hf]
            exact hp hk
          · exact hk.elim
      · exact hk.elim
    · exact hk.elim
  | makeFunc f fi ca => rw [ho] at hk; cases f <;> exact hk
  | slice t x lo hi mx => rw [ho] at hk; cases mx <;> exact hk
  | _ => rw [ho] at hk; exact hk
theorem core_cs {P : Program} {C : Hd Prop} (hC : HdOk P C) {io : FuncId → List Bool} {nm : Nat} {o : Oper} {ev : Operand → PV} {h : Nat → PV} {k : List Upd → Prop} (hk : core P C io False nm o ev h k) : core P (CS P) io False nm o ev h k := by
  unfold core at hk ⊢
  cases hm : matOp P io False nm o ev (updF h (closeF (pre o ev h) h)) (fun us => k (closeF (pre o ev h) h ++ us)) with
  | some q => rw [hm] at hk; exact hk
  | none => rw [hm] at hk; exact core0_cs hC hk
end Go.Proofs.Ytlpooghphoohcaa.R
/- One operation of a region, for everyone who sees the same; regions in their order. -/
namespace Go.Proofs.Ytlpooghphoohcaa.R
open Go.RowKit
set_option linter.unusedVariables false
set_option linter.unusedSimpArgs false

theorem core0_congr {P : Program} {C : Hd Prop} {io : FuncId → List Bool} {nm : Nat} {o : Oper} {ev ev' : Operand → PV} {h : Nat → PV} {k : List Upd → Prop} (he : ∀ x ∈ o.op.operands, ev x = ev' x) :
    core0 P C io False nm o ev h k = core0 P C io False nm o ev' h k := by
  have pairs : ∀ ps : Array (Nat × Operand), (∀ x ∈ (ps.toList.map (·.2)).toArray, ev x = ev' x) → (ps.toList.map fun p => (p.1, ev p.2)) = (ps.toList.map fun p => (p.1, ev' p.2)) := fun ps hp =>
    List.map_congr_left fun p hm => by rw [hp p.2 (by simpa using ⟨p.1, by simpa using hm⟩)]
  unfold core0
  cases ho : o.op <;> rw [ho] at he <;> simp only [Op.operands] at he <;> try dsimp only
  case build t ps => rw [pairs ps he]
  case buildSlice t n ps => rw [pairs ps he]
  case makeFunc fn first caps =>
    cases fn <;> try dsimp only
    rw [List.map_congr_left (l := caps.toList) fun x hx => he x (by simp; exact .inr (by simpa using hx))]
  case call c =>
    have ha : c.args.toList.map ev = c.args.toList.map ev' := List.map_congr_left fun x hx => he x (by simp [Call.operands]; exact .inr (by simpa using hx))
    rw [ha]
    cases hc : c.callee with
    | value f =>
      show (match ev f with | .clo fid caps => callQ C io False h nm o fid (c.args.toList.map ev' ++ caps) k | _ => False) = (match ev' f with | .clo fid caps => callQ C io False h nm o fid (c.args.toList.map ev' ++ caps) k | _ => False)
      rw [he f (by simp [Call.operands, hc])]
    | invoke r m => rfl
    | builtin b =>
      generalize c.args.toList.map ev' = l
      cases b <;> rcases l with _ | ⟨p, _ | ⟨q, _ | ⟨r, l⟩⟩⟩ <;> first | rfl | (cases p <;> first | rfl | (rename_i t x; cases t <;> first | rfl | (cases q <;> first | rfl | (rename_i t y; cases t <;> rfl))))
  case slice t x lo hi mx => cases lo <;> cases hi <;> cases mx <;> simp_all
  all_goals (first | rfl | (simp_all; done))

theorem pre_congr {o : Oper} {ev ev' : Operand → PV} {h : Nat → PV} (he : ∀ x ∈ o.op.operands, ev x = ev' x) : pre o ev h = pre o ev' h := by
  unfold pre
  cases ho : o.op <;> rw [ho] at he <;> simp only [Op.operands] at he <;> try dsimp only
  case load t a => rw [he a (by simp)]
  case store t a v => rw [he a (by simp)]
  case call c =>
    have ha : c.args.toList.map ev = c.args.toList.map ev' := List.map_congr_left fun x hx => he x (by simp [Call.operands]; exact .inr (by simpa using hx))
    rw [ha]
    cases hc : c.callee with
    | value f => simp only [he f (by simp [Call.operands, hc])]
    | invoke r m => rfl
    | builtin b =>
      generalize c.args.toList.map ev' = l
      cases b <;> rcases l with _ | ⟨p, _ | ⟨q, _ | ⟨r, l⟩⟩⟩ <;> rfl
theorem matOp_congr {P : Program} {io : FuncId → List Bool} {nm : Nat} {o : Oper} {ev ev' : Operand → PV} {h : Nat → PV} {k : List Upd → Prop} (he : ∀ x ∈ o.op.operands, ev x = ev' x) : matOp P io False nm o ev h k = matOp P io False nm o ev' h k := by
  have pairs : ∀ ps : Array (Nat × Operand), (∀ x ∈ (ps.toList.map (·.2)).toArray, ev x = ev' x) → (ps.toList.map fun p => (p.1, ev p.2)) = (ps.toList.map fun p => (p.1, ev' p.2)) := fun ps hp =>
    List.map_congr_left fun p hm => by rw [hp p.2 (by simpa using ⟨p.1, by simpa using hm⟩)]
  unfold matOp
  cases ho : o.op <;> rw [ho] at he <;> simp only [Op.operands] at he <;> try dsimp only
  case makeSlice s l c => rw [he l (by simp)]
  case buildSlice t n ps => rw [pairs ps he]
  case load t a => rw [he a (by simp)]
  case store t a v => rw [he a (by simp), he v (by simp)]
  case call c =>
    have ha : c.args.toList.map ev = c.args.toList.map ev' := List.map_congr_left fun x hx => he x (by simp [Call.operands]; exact .inr (by simpa using hx))
    rw [ha]
theorem core_congr {P : Program} {C : Hd Prop} {io : FuncId → List Bool} {nm : Nat} {o : Oper} {ev ev' : Operand → PV} {h : Nat → PV} {k : List Upd → Prop} (he : ∀ x ∈ o.op.operands, ev x = ev' x) :
    core P C io False nm o ev h k = core P C io False nm o ev' h k := by
  unfold core
  rw [pre_congr he, matOp_congr he, core0_congr he]

def SeesLike (ops : Array Oper) (o : Oper) (L : List Nat) (σ τ : St) : Prop := (∀ t, t ∈ o.looksAt ops → τ.get t = σ.get t) ∧ ∀ N, N ∈ L → look τ.ob N = look σ.ob N
def StepOk (P : Program) (ops : Array Oper) (i : Nat) (o : Oper) (nm : Nat) (σ : St) (L : List Nat) (us : List Upd) : Prop :=
  ∀ τ, SeesLike ops o L σ τ → ∀ (X W0 : Foot) (w0 : World) (D : Nat → Prop) (a : Act) (w : World) (K : Act → World → Prop) (Q : Exit → Act → World → Prop),
    (∀ M, nm ≤ M → M < nm + 64 → ¬ D M) → R X W0 w0 D τ a w → (∀ a' w', R X W0 w0 (Fresh D nm) (τ.apply us) a' w' → K a' w') → wpOp P ops Q i K a w
theorem Rl.tst {X W0 : Foot} {w0 : World} {D : Nat → Prop} {σ : St} {a : Act} {w : World} {env : Nat → Value} {F : Nat → Foot} {d : Nat} {c : Prop} {e : Decidable c} {b : Bool} (hb : @decide c e = b)
    (h : Rl X W0 w0 D (σ.upd (.sl d (.tst c e))) a w env F) : Rl X W0 w0 D (σ.upd (.sl d (.val .bool b))) a w env F := by
  refine ⟨by simpa [St.upd] using h.tm, h.df, fun t => ?_, h.ob, h.dj, h.xf, h.lt, h.xl, h.own, h.kp, h.dm, h.hd⟩
  have ht := h.sl t
  simp only [St.get, St.upd] at ht ⊢
  by_cases hd : t = d
  · subst hd
    by_cases hl : t < σ.sl.length
    · have h1 : ∀ p, (σ.sl.set t p).getD t .dead = p := fun p => by simp [List.getD_eq_getElem?_getD, hl]
      rw [h1] at ht ⊢
      simp only [PR] at ht
      simp only [PR, RV]
      rw [ht, hb]
    · have h1 : ∀ p, (σ.sl.set t p).getD t .dead = .dead := fun p => by simp [List.getD_eq_getElem?_getD, hl]
      rw [h1]
      simp only [PR]
  · have h1 : ∀ p, (σ.sl.set d p).getD t .dead = σ.sl.getD t .dead := fun p => by simp [List.getD_eq_getElem?_getD, List.getElem?_set_ne (Ne.symm hd)]
    rw [h1] at ht ⊢
    exact ht
theorem fix_ok {g : Bool} {us : List Upd} {k : List Upd → Prop} (h : fix g us k) : ∃ us', k us' ∧ ∀ (X W0 : Foot) (w0 : World) (D : Nat → Prop) (σ : St) (a : Act) (w : World), R X W0 w0 D (σ.apply us) a w → R X W0 w0 D (σ.apply us') a w := by
  unfold fix at h
  split at h
  · rename_i d c e
    split at h
    · rename_i hc
      exact ⟨_, h, fun X W0 w0 D σ a w ⟨env, F, hR⟩ => ⟨env, F, hR.tst (by simp [hc])⟩⟩
    · rename_i hc
      exact ⟨_, h, fun X W0 w0 D σ a w ⟨env, F, hR⟩ => ⟨env, F, hR.tst (by simp [hc])⟩⟩
  · rename_i d b
    split at h
    · exact ⟨_, h, fun X W0 w0 D σ a w h => h⟩
    · exact ⟨_, h, fun X W0 w0 D σ a w h => h⟩
  · exact ⟨_, h, fun X W0 w0 D σ a w h => h⟩
theorem sees_eval {ops : Array Oper} {o : Oper} {L : List Nat} {σ τ : St} (h : SeesLike ops o L σ τ) : ∀ x ∈ o.op.operands, τ.eval x = σ.eval x := by
  intro x hx
  cases x with
  | tmp t => exact h.1 t (List.mem_append_left _ (List.mem_filterMap.2 ⟨.tmp t, by simpa using hx, rfl⟩))
  | _ => rfl
section
variable {P : Program} {C : Hd Prop} {io : FuncId → List Bool}
theorem go_ok (hC : HdOk P C) {ops : Array Oper} {i nm : Nat} {o : Oper} {σ : St} {g : Bool} {k : List Upd → Prop} (hi : ops[i]? = some o)
    (hw : ∀ τ, SeesLike ops o (names o σ.eval (look σ.ob)) σ τ → ∀ (X W0 : Foot) (w0 : World) (D : Nat → Prop) (a : Act) (w : World), R X W0 w0 D τ a w → Region.wanted o (yielded ops a.tmps) = true)
    (hk : core P C io False nm o σ.eval (view (names o σ.eval (look σ.ob)) (look σ.ob)) fun us => fix g us k) : ∃ us, k us ∧ StepOk P ops i o nm σ (names o σ.eval (look σ.ob)) us := by
  obtain ⟨us0, h1, h2⟩ := core_det _ (core_cs hC hk)
  obtain ⟨us, h3, h4⟩ := fix_ok h1
  refine ⟨us, h3, fun τ hτ X W0 w0 D a w K Q hfr hR hK => ?_⟩
  have hc := h2 (fun u => u = us0) rfl
  rw [core_congr (ev' := τ.eval) (fun x hx => (sees_eval hτ x hx).symm)] at hc
  have hv : Vw (view (names o σ.eval (look σ.ob)) (look σ.ob)) τ := by
    intro N
    unfold view
    split
    · rename_i hN
      exact .inl (hτ.2 N (by simpa using hN)).symm
    · exact .inr rfl
  obtain ⟨us1, rfl, hop⟩ := core_ok (CS_ok P) hv hc
  unfold wpOp
  simp only [hi, hw τ hτ X W0 w0 D a w hR, if_true]
  exact .inl (hop X W0 w0 D a w K Q hfr hR fun a' w' hR' => hK a' w' (h4 X W0 w0 _ _ a' w' hR'))
theorem yields_of {ops : Array Oper} {o : Oper} {σ : St} {j d : Nat} {want b : Bool} {L : List Nat} (hg : o.guard = some (j, want)) (hd : (ops[j]?).bind (·.dst) = some d) (hb : σ.get d = .val .bool b) {τ : St} (hτ : SeesLike ops o L σ τ)
    {X W0 : Foot} {w0 : World} {D : Nat → Prop} {a : Act} {w : World} (hR : R X W0 w0 D τ a w) : Region.wanted o (yielded ops a.tmps) = (b == want) := by
  obtain ⟨env, F, hR⟩ := hR
  have h1 := hR.sl d
  rw [hτ.1 d (by simp [Oper.looksAt, hg, hd]), hb] at h1
  simp only [PR, RV, List.cons.injEq, and_true] at h1
  have h2 : a.tmps[d]? = some (.bool b) := by
    cases hx : a.tmps[d]? with
    | none =>
      simp only [Array.getD_eq_getD_getElem?, hx, Option.getD_none] at h1
      cases h1
    | some v =>
      simp only [Array.getD_eq_getD_getElem?, hx, Option.getD_some] at h1
      rw [h1]
  have hy : yielded ops a.tmps j = some b := by
    unfold yielded
    rw [hd]
    simp only [Option.bind_some, h2]
  unfold Region.wanted
  simp only [hg, hy]
  cases b <;> cases want <;> rfl
theorem yields_no {ops : Array Oper} {o : Oper} {σ : St} {j d : Nat} {want : Bool} {L : List Nat} (hg : o.guard = some (j, want)) (hd : (ops[j]?).bind (·.dst) = some d) (hb : σ.get d = .tup []) {τ : St} (hτ : SeesLike ops o L σ τ)
    {X W0 : Foot} {w0 : World} {D : Nat → Prop} {a : Act} {w : World} (hR : R X W0 w0 D τ a w) : Region.wanted o (yielded ops a.tmps) = false := by
  obtain ⟨env, F, hR⟩ := hR
  have h1 := hR.sl d
  rw [hτ.1 d (by simp [Oper.looksAt, hg, hd]), hb] at h1
  simp only [PR, PRs] at h1
  obtain ⟨us, h1, rfl⟩ := h1
  have hy : yielded ops a.tmps j = none := by
    unfold yielded
    rw [hd]
    simp only [Option.bind_some]
    cases hx : a.tmps[d]? with
    | none => rfl
    | some v =>
      simp only [Array.getD_eq_getD_getElem?, hx, Option.getD_some] at h1
      subst h1
      rfl
  unfold Region.wanted
  simp only [hg, hy]
  rfl
theorem bw {b want : Bool} (n1 : b = true → want = true → False) (n2 : b = false → want = false → False) : (b == want) = false := by
  cases b <;> cases want <;> first | rfl | exact (n1 rfl rfl).elim | exact (n2 rfl rfl).elim
theorem skip_ok {ops : Array Oper} {i nm : Nat} {o : Oper} {σ : St} (hi : ops[i]? = some o) {L : List Nat}
    (hw : ∀ τ, SeesLike ops o L σ τ → ∀ (X W0 : Foot) (w0 : World) (D : Nat → Prop) (a : Act) (w : World), R X W0 w0 D τ a w → Region.wanted o (yielded ops a.tmps) = false) : StepOk P ops i o nm σ L (put o (.tup [])) := by
  intro τ hτ X W0 w0 D a w K Q hfr hR hK
  unfold wpOp
  have := hw τ hτ X W0 w0 D a w hR
  obtain ⟨env, F, hR⟩ := hR
  simp only [hi, this]
  exact hK _ _ (R.grow (R.of (hR.puto o (v := undef) (by simp only [PR, PRs]; exact ⟨[], rfl, rfl⟩))) fun M h => .inl h)
theorem opr_ok (hC : HdOk P C) {ops : Array Oper} {i : Nat} {o : Oper} {σ : St} {k : List Upd → Fp → Prop} (hi : ops[i]? = some o) (hk : opr P C io False ops.toList i o σ k) :
    ∃ us fp, k us fp ∧ fp.i = i ∧ fp.w = wrote us ∧ fp.s = sls us ∧ StepOk P ops i o (σ.nx + 64 * i) σ fp.r us := by
  unfold opr at hk
  split at hk
  · rename_i hg
    obtain ⟨us, h1, h2⟩ := go_ok hC hi (fun τ hτ X W0 w0 D a w hR => by simp [Region.wanted, hg]) hk
    exact ⟨us, _, h1, rfl, rfl, rfl, h2⟩
  · rename_i j want hg
    split at hk
    · rename_i d hd
      rw [Array.getElem?_toList] at hd
      split at hk
      · rename_i b hb
        have hy := fun (L : List Nat) τ (hτ : SeesLike ops o L σ τ) (X W0 : Foot) (w0 : World) (D : Nat → Prop) (a : Act) (w : World) (hR : R X W0 w0 D τ a w) => yields_of hg hd hb hτ hR
        split at hk
        · obtain ⟨us, h1, h2⟩ := go_ok hC hi (fun τ hτ X W0 w0 D a w hR => hy _ τ hτ X W0 w0 D a w hR) hk
          exact ⟨us, _, h1, rfl, rfl, rfl, h2⟩
        · obtain ⟨us, h1, h2⟩ := go_ok hC hi (fun τ hτ X W0 w0 D a w hR => hy _ τ hτ X W0 w0 D a w hR) hk
          exact ⟨us, _, h1, rfl, rfl, rfl, h2⟩
        · rename_i n1 n2
          refine ⟨_, _, hk, rfl, rfl, rfl, skip_ok hi fun τ hτ X W0 w0 D a w hR => ?_⟩
          rw [hy _ τ hτ X W0 w0 D a w hR]
          exact bw n1 n2
      · rename_i hb
        refine ⟨_, _, hk, rfl, rfl, rfl, skip_ok hi fun τ hτ X W0 w0 D a w hR => ?_⟩
        exact yields_no hg hd hb hτ hR
      · exact hk.elim
    · exact hk.elim
theorem apply_nx : (us : List Upd) → (σ : St) → (σ.apply us).nx = σ.nx
  | [], σ => rfl
  | u :: us, σ => by
    rw [St.apply_cons, apply_nx us]
    cases u <;> rfl
/-- What a run tells of each operation. -/
structure Good (P : Program) (ops : Array Oper) (nx j : Nat) (o : Oper) (σ : St) (us : List Upd) (fp : Fp) : Prop where
  i : fp.i = j
  w : fp.w = wrote us
  s : fp.s = sls us
  ok : StepOk P ops j o (nx + 64 * j) σ fp.r us
theorem run_path (hC : HdOk P C) {ops : Array Oper} : (rest : List Oper) → (i : Nat) → (σ : St) → (acc : List Fp) → (k : St → List Fp → Prop) → ops.toList.drop i = rest → run P C io False ops.toList i rest σ acc k →
    ∃ (us : Nat → List Upd) (fp : Nat → Fp) (st : Nat → St), k (st (i + rest.length)) (((List.range' i rest.length).map fp).reverse ++ acc) ∧ st i = σ ∧ (∀ j, i ≤ j → j < i + rest.length → st (j + 1) = (st j).apply (us j)) ∧
      ∀ j o, i ≤ j → ops[j]? = some o → Good P ops σ.nx j o (st j) (us j) (fp j)
  | [], i, σ, acc, k, hd, hk => by
    refine ⟨fun _ => [], fun j => ⟨j, [], [], []⟩, fun _ => σ, hk, rfl, fun j h1 h2 => ?_, fun j o h1 h2 => ?_⟩
    · simp at h2; omega
    · have : ops.toList.length ≤ i := by simpa using List.drop_eq_nil_iff.1 hd
      have := (Array.getElem?_eq_some_iff.1 h2).1
      simp at *
      omega
  | o :: rest, i, σ, acc, k, hd, hk => by
    simp only [run] at hk
    have hi : ops[i]? = some o := by
      have := congrArg List.head? hd
      rw [List.head?_drop] at this
      simpa using this
    obtain ⟨us, fp, hk, g1, g2, g3, g4⟩ := opr_ok hC hi hk
    have hd' : ops.toList.drop (i + 1) = rest := by
      have := congrArg List.tail hd
      rwa [List.tail_drop] at this
    obtain ⟨us', fp', st', h1, h2, h3, h4⟩ := run_path hC rest (i + 1) _ _ k hd' hk
    refine ⟨fun j => if j = i then us else us' j, fun j => if j = i then fp else fp' j, fun j => if j = i then σ else st' j, ?_, by simp, fun j e1 e2 => ?_, fun j o' e1 e2 => ?_⟩
    · have hne : ¬ i + (o :: rest).length = i := by simp
      dsimp only
      rw [if_neg hne, show i + (o :: rest).length = i + 1 + rest.length by simp; omega]
      have : (List.map (fun j => if j = i then fp else fp' j) (List.range' i (o :: rest).length)).reverse ++ acc = ((List.range' (i + 1) rest.length).map fp').reverse ++ fp :: acc := by
        rw [List.length_cons, List.range'_succ, List.map_cons, List.reverse_cons, if_pos rfl]
        have : List.map (fun j => if j = i then fp else fp' j) (List.range' (i + 1) rest.length) = (List.range' (i + 1) rest.length).map fp' := by
          refine List.map_congr_left fun j hj => ?_
          have := (List.mem_range'_1.1 hj).1
          rw [if_neg (by omega)]
        rw [this]
        simp
      rw [this]
      exact h1
    · by_cases e : j = i
      · subst e
        dsimp only
        rw [if_neg (by omega), if_pos rfl, if_pos rfl]
        exact h2
      · dsimp only
        rw [if_neg (by omega), if_neg e, if_neg e]
        exact h3 j (by omega) (by simp at e2; omega)
    · by_cases e : j = i
      · subst e
        rw [hi] at e2
        injection e2 with e2
        subst e2
        simp only [if_true]
        exact ⟨g1, g2, g3, g4⟩
      · simp only [if_neg e]
        have := h4 j o' (by omega) e2
        rwa [apply_nx] at this
/-- Slots that no operation of a region is for stay as they are. -/
def Fr (ops : Array Oper) (a a' : Act) : Prop := ∀ t, (∀ o, o ∈ ops → o.dst ≠ some t) → a'.tmps.getD t undef = a.tmps.getD t undef
theorem Fr.refl (ops : Array Oper) (a : Act) : Fr ops a a := fun _ _ => rfl
theorem Fr.put {ops : Array Oper} {a0 a : Act} {o : Oper} (ho : o ∈ ops) (h : Fr ops a0 a) (v : Value) : Fr ops a0 (a.put o.dst v) := by
  intro t ht
  rw [← h t ht]
  cases hd : o.dst with
  | none => rfl
  | some d =>
    have hne : d ≠ t := fun e => ht o ho (by rw [hd, e])
    simp [Act.put, Array.getD_eq_getD_getElem?, Array.getElem?_setIfInBounds_ne hne]
theorem wpOp_frame {P : Program} {ops : Array Oper} {Q : Exit → Act → World → Prop} {i : Nat} {K : Act → World → Prop} {a0 a : Act} {w : World} (hf : Fr ops a0 a) (h : wpOp P ops Q i K a w) : wpOp P ops Q i (fun a' w' => K a' w' ∧ Fr ops a0 a') a w := by
  unfold wpOp at h ⊢
  cases hi : ops[i]? with
  | none => rw [hi] at h; exact ⟨h, hf⟩
  | some o =>
    rw [hi] at h
    have ho : o ∈ ops := Array.mem_of_getElem? hi
    dsimp only at h ⊢
    split at h
    · rename_i hw
      rw [if_pos hw]
      refine h.imp (fun h => ?_) id
      unfold Oper.wp at h ⊢
      generalize (execOp a.eval o).run P w = r at h ⊢
      cases r with
      | ok n w' =>
        cases n <;> simp only [Oper.upon] at h ⊢
        case value v => exact ⟨h, hf.put ho v⟩
        case skip => exact ⟨h, hf.put ho _⟩
        case defer d => exact ⟨h, Fr.put (a := { a with defers := d :: a.defers }) ho hf undef⟩
        case enter f args => exact Calls.mono h fun e w'' he => by cases e <;> first | exact ⟨he, hf.put ho _⟩ | exact he
        case row r args => exact Rows.mono h fun v w'' he => ⟨he, hf.put ho v⟩
      | halt x w' => cases x <;> simp only [Oper.upon] at h ⊢ <;> exact h
    · rename_i hw
      rw [if_neg hw]
      exact ⟨h, hf.put ho _⟩
/-- Regions in their order. -/
theorem wp_path {ops : Array Oper} {nx : Nat} {us : Nat → List Upd} {fp : Nat → Fp} {st : Nat → St} (hst : ∀ j, j < ops.size → st (j + 1) = (st j).apply (us j)) (hg : ∀ j o, ops[j]? = some o → Good P ops nx j o (st j) (us j) (fp j))
    {X W0 : Foot} {w0 : World} {Q : Exit → Act → World → Prop} {a0 : Act} (hQ : ∀ a w, R X W0 w0 (fun M => M < nx + 64 * ops.size) (st ops.size) a w → Fr ops a0 a → Q .normal a w) :
    (n i : Nat) → i + n = ops.size → ∀ a w, R X W0 w0 (fun M => M < nx + 64 * i) (st i) a w → Fr ops a0 a → wpOps P ops Q (List.range' i n) a w
  | 0, i, hi, a, w, hR, hf => by
    simp only [List.range'_zero, wpOps]
    rw [Nat.add_zero] at hi
    subst hi
    exact hQ a w hR hf
  | n + 1, i, hi, a, w, hR, hf => by
    rw [List.range'_succ, wpOps_cons]
    have hlt : i < ops.size := by omega
    refine wpOp_mono (K := fun a' w' => R X W0 w0 (fun M => M < nx + 64 * (i + 1)) (st (i + 1)) a' w' ∧ Fr ops a0 a') (fun a' w' h => wp_path hst hg hQ n (i + 1) (by omega) a' w' h.1 h.2) (wpOp_frame hf ?_)
    refine (hg i ops[i] (Array.getElem?_eq_getElem hlt)).ok (st i) ⟨fun _ _ => rfl, fun _ _ => rfl⟩ X W0 w0 _ a w _ Q (fun M h1 h2 h3 => by omega) hR fun a' w' hR' => ?_
    rw [← hst i hlt] at hR'
    exact R.grow hR' fun M hM => by
      rcases hM with hM | ⟨_, hM⟩ <;> omega
theorem region_ok (hC : HdOk P C) {id : Nat} {ops : Array Oper} {σ : St} {k : St → List Fp → Prop} (hk : run P C io False ops.toList 0 ops.toList σ [] k) :
    ∃ σ' fps, k σ' fps ∧ σ'.nx = σ.nx ∧ ∀ (X W0 : Foot) (w0 : World) (Q : Exit → Act → World → Prop) (a : Act) (w : World), R X W0 w0 (fun M => M < σ.nx) σ a w →
      (∀ a' w', R X W0 w0 (fun M => M < σ.nx + 64 * ops.size) σ' a' w' → Fr ops a a' → Q .normal a' w') → (Code.region id ops false).wp P Q a w := by
  obtain ⟨us, fp, st, h1, h2, h3, h4⟩ := run_path hC ops.toList 0 σ [] k rfl hk
  simp only [Nat.zero_add, Array.length_toList] at h1 h3
  have hnx : ∀ j, j ≤ ops.size → (st j).nx = σ.nx := by
    intro j
    induction j with
    | zero => intro _; rw [h2]
    | succ j ih => intro hj; rw [h3 j (by omega) (by omega), apply_nx]; exact ih (by omega)
  refine ⟨_, _, h1, hnx _ (Nat.le_refl _), fun X W0 w0 Q a w hR hQ => wp_region ?_⟩
  rw [List.range_eq_range']
  exact wp_path (nx := σ.nx) (us := us) (fp := fp) (fun j hj => h3 j (Nat.zero_le _) hj) (fun j o ho => h4 j o (Nat.zero_le _) ho) hQ ops.size 0 (by omega) a w (by rw [h2]; simpa using hR) (Fr.refl _ _)
end
end Go.Proofs.Ytlpooghphoohcaa.R
/- Updates in another order. -/
namespace Go.Proofs.Ytlpooghphoohcaa.R
open Go.RowKit
set_option linter.unusedVariables false
set_option linter.unusedSimpArgs false

def lastSl : List Upd → Nat → Option PV
  | [], _ => none
  | .sl M p :: us, N => match lastSl us N with
    | some q => some q
    | none => if M = N then some p else none
  | .ob _ _ :: us, N => lastSl us N
theorem lastSl_append : (us vs : List Upd) → (N : Nat) → lastSl (us ++ vs) N = (match lastSl vs N with | some q => some q | none => lastSl us N)
  | [], vs, N => by simp only [List.nil_append, lastSl]; cases lastSl vs N <;> rfl
  | .sl M p :: us, vs, N => by
    simp only [List.cons_append, lastSl, lastSl_append us vs N]
    cases lastSl vs N <;> rfl
  | .ob _ _ :: us, vs, N => by
    simp only [List.cons_append, lastSl, lastSl_append us vs N]
theorem apply_len : (us : List Upd) → (σ : St) → (σ.apply us).sl.length = σ.sl.length
  | [], σ => rfl
  | u :: us, σ => by
    rw [St.apply_cons, apply_len us]
    cases u <;> simp [St.upd]
theorem get_apply : (us : List Upd) → (σ : St) → (t : Nat) → (σ.apply us).get t = if t < σ.sl.length then (lastSl us t).getD (σ.get t) else .dead
  | [], σ, t => by
    show σ.get t = _
    by_cases h : t < σ.sl.length
    · rw [if_pos h]; rfl
    · rw [if_neg h]; simp [St.get, List.getD_eq_getElem?_getD, List.getElem?_eq_none_iff.2 (by omega : σ.sl.length ≤ t)]
  | .ob M p :: us, σ, t => by
    rw [St.apply_cons, get_apply us]
    rfl
  | .sl M p :: us, σ, t => by
    rw [St.apply_cons, get_apply us]
    have hl : (σ.upd (.sl M p)).sl.length = σ.sl.length := by simp [St.upd]
    rw [hl]
    by_cases h : t < σ.sl.length
    · rw [if_pos h, if_pos h]
      simp only [lastSl]
      cases lastSl us t with
      | some q => rfl
      | none =>
        simp only [Option.getD_none, St.get, St.upd]
        by_cases e : M = t
        · subst e
          simp [List.getD_eq_getElem?_getD, h]
        · simp [List.getD_eq_getElem?_getD, List.getElem?_set_ne e, e]
    · rw [if_neg h, if_neg h]
theorem lastSl_none : (us : List Upd) → (t : Nat) → t ∉ sls us → lastSl us t = none
  | [], t, h => rfl
  | .ob _ _ :: us, t, h => by
    simp only [lastSl]
    exact lastSl_none us t (by simpa [sls] using h)
  | .sl M p :: us, t, h => by
    simp only [sls, List.flatMap_cons, List.mem_append, List.mem_singleton, not_or] at h
    simp only [lastSl, lastSl_none us t h.2]
    rw [if_neg (fun e => h.1 e.symm)]
theorem lastOb_none : (us : List Upd) → (t : Nat) → t ∉ wrote us → lastOb us t = none
  | [], t, h => rfl
  | .sl _ _ :: us, t, h => by
    simp only [lastOb]
    exact lastOb_none us t (by simpa [wrote] using h)
  | .ob M p :: us, t, h => by
    simp only [wrote, List.flatMap_cons, List.mem_append, List.mem_singleton, not_or] at h
    simp only [lastOb, lastOb_none us t h.2]
    rw [if_neg (fun e => h.1 e.symm)]
theorem lastSl_flat (us : Nat → List Upd) (t : Nat) : (l : List Nat) → lastSl (l.flatMap us) t = lastSl ((l.filter fun i => (sls (us i)).contains t).flatMap us) t
  | [] => rfl
  | i :: l => by
    rw [List.flatMap_cons, lastSl_append, lastSl_flat us t l, List.filter_cons]
    by_cases h : (sls (us i)).contains t = true
    · rw [if_pos h, List.flatMap_cons, lastSl_append]
    · rw [if_neg h, lastSl_none (us i) t (by simpa using h)]
      cases lastSl ((l.filter fun i => (sls (us i)).contains t).flatMap us) t <;> rfl
theorem lastOb_flat (us : Nat → List Upd) (t : Nat) : (l : List Nat) → lastOb (l.flatMap us) t = lastOb ((l.filter fun i => (wrote (us i)).contains t).flatMap us) t
  | [] => rfl
  | i :: l => by
    rw [List.flatMap_cons, lastOb_append, lastOb_flat us t l, List.filter_cons]
    by_cases h : (wrote (us i)).contains t = true
    · rw [if_pos h, List.flatMap_cons, lastOb_append]
    · rw [if_neg h, lastOb_none (us i) t (by simpa using h)]
      cases lastOb ((l.filter fun i => (wrote (us i)).contains t).flatMap us) t <;> rfl
theorem filt {n j : Nat} (hj : j < n) (p : Nat → Bool) (hp : ∀ i, p i = true → i < j) : (List.range n).filter (fun i => p i || i == j) = (List.range n).filter p ++ [j] := by
  have e : List.range n = List.range j ++ j :: List.range' (j + 1) (n - j - 1) := by
    rw [List.range_eq_range', List.range_eq_range', show n = j + (1 + (n - j - 1)) by omega, ← List.range'_append_1, Nat.zero_add, Nat.add_comm 1, List.range'_succ]
    rw [show j + (n - j - 1 + 1) - j - 1 = n - j - 1 by omega]
  rw [e, List.filter_append, List.filter_append, List.filter_cons, List.filter_cons]
  have h1 : (List.range j).filter (fun i => p i || i == j) = (List.range j).filter p := List.filter_congr fun i hi => by
    have : i ≠ j := by have := List.mem_range.1 hi; omega
    simp [this]
  have h2 : (List.range' (j + 1) (n - j - 1)).filter (fun i => p i || i == j) = [] := List.filter_eq_nil_iff.2 fun i hi => by
    have := (List.mem_range'_1.1 hi).1
    have h3 : p i = false := by
      cases hpi : p i with
      | false => rfl
      | true => have := hp i hpi; omega
    simp [h3]
    omega
  have h3 : (List.range' (j + 1) (n - j - 1)).filter p = [] := List.filter_eq_nil_iff.2 fun i hi => by
    have := (List.mem_range'_1.1 hi).1
    intro hpi
    have := hp i hpi
    omega
  have h4 : p j = false := by
    cases hpi : p j with
    | false => rfl
    | true => have := hp j hpi; omega
  rw [h1, h2, h3]
  simp [h4]
section
variable {us : Nat → List Upd} {σ : St} {n : Nat}
/-- After the operations of p, in their order. -/
def aft (us : Nat → List Upd) (σ : St) (n : Nat) (p : Nat → Bool) : St := σ.apply (((List.range n).filter p).flatMap us)
theorem aft_get {p q : Nat → Bool} {t : Nat} (h : ∀ i, i < n → t ∈ sls (us i) → p i = q i) : (aft us σ n p).get t = (aft us σ n q).get t := by
  unfold aft
  rw [get_apply, get_apply, lastSl_flat, lastSl_flat us t ((List.range n).filter q), List.filter_filter, List.filter_filter]
  rw [List.filter_congr (p := fun a => (sls (us a)).contains t && p a) (q := fun a => (sls (us a)).contains t && q a) fun i hi => ?_]
  by_cases hc : (sls (us i)).contains t = true
  · rw [hc, h i (List.mem_range.1 hi) (by simpa using hc)]
  · simp only [Bool.not_eq_true] at hc
    rw [hc]; rfl
theorem aft_look {p q : Nat → Bool} {t : Nat} (h : ∀ i, i < n → t ∈ wrote (us i) → p i = q i) : look (aft us σ n p).ob t = look (aft us σ n q).ob t := by
  unfold aft
  rw [look_apply, look_apply, lastOb_flat, lastOb_flat us t ((List.range n).filter q), List.filter_filter, List.filter_filter]
  rw [List.filter_congr (p := fun a => (wrote (us a)).contains t && p a) (q := fun a => (wrote (us a)).contains t && q a) fun i hi => ?_]
  by_cases hc : (wrote (us i)).contains t = true
  · rw [hc, h i (List.mem_range.1 hi) (by simpa using hc)]
  · simp only [Bool.not_eq_true] at hc
    rw [hc]; rfl
/-- One more. -/
theorem aft_more_get {p : Nat → Bool} {j : Nat} (hj : j < n) (hpj : p j = false) {t : Nat} (h : ∀ i, i < n → p i = true → t ∈ sls (us i) → t ∈ sls (us j) → i < j) :
    ((aft us σ n p).apply (us j)).get t = (aft us σ n fun i => p i || i == j).get t := by
  by_cases ht : t ∈ sls (us j)
  · let p' : Nat → Bool := fun i => p i && (sls (us i)).contains t && decide (i < n)
    have e1 : (aft us σ n fun i => p i || i == j).get t = (aft us σ n fun i => p' i || i == j).get t := aft_get fun i hi hm => by
      have : p' i = p i := by simp [p', hm, hi]
      rw [this]
    have e2 : (aft us σ n p).get t = (aft us σ n p').get t := aft_get fun i hi hm => by simp [p', hm, hi]
    rw [e1]
    have hp' : ∀ i, p' i = true → i < j := fun i hi => by
      simp [p'] at hi
      exact h i hi.2 hi.1.1 hi.1.2 ht
    have e3 : (aft us σ n fun i => p' i || i == j) = (aft us σ n p').apply (us j) := by
      unfold aft
      rw [filt hj p' hp', List.flatMap_append, St.apply_append]
      simp
    rw [e3, get_apply, get_apply, e2, show (aft us σ n p).sl.length = (aft us σ n p').sl.length by simp [aft, apply_len]]
  · rw [get_apply, lastSl_none _ _ ht]
    have e1 : (aft us σ n fun i => p i || i == j).get t = (aft us σ n p).get t := aft_get fun i hi hm => by
      have : i ≠ j := by rintro rfl; exact ht hm
      simp [this]
    rw [e1]
    simp only [Option.getD_none]
    split
    · rfl
    · rename_i hl
      simp [St.get, List.getD_eq_getElem?_getD, List.getElem?_eq_none_iff.2 (by omega : (aft us σ n p).sl.length ≤ t)]
theorem aft_more_look {p : Nat → Bool} {j : Nat} (hj : j < n) (hpj : p j = false) {t : Nat} (h : ∀ i, i < n → p i = true → t ∈ wrote (us i) → t ∈ wrote (us j) → i < j) :
    look ((aft us σ n p).apply (us j)).ob t = look (aft us σ n fun i => p i || i == j).ob t := by
  by_cases ht : t ∈ wrote (us j)
  · let p' : Nat → Bool := fun i => p i && (wrote (us i)).contains t && decide (i < n)
    have e1 : look (aft us σ n fun i => p i || i == j).ob t = look (aft us σ n fun i => p' i || i == j).ob t := aft_look fun i hi hm => by
      have : p' i = p i := by simp [p', hm, hi]
      rw [this]
    have e2 : look (aft us σ n p).ob t = look (aft us σ n p').ob t := aft_look fun i hi hm => by simp [p', hm, hi]
    rw [e1]
    have hp' : ∀ i, p' i = true → i < j := fun i hi => by
      simp [p'] at hi
      exact h i hi.2 hi.1.1 hi.1.2 ht
    have e3 : (aft us σ n fun i => p' i || i == j) = (aft us σ n p').apply (us j) := by
      unfold aft
      rw [filt hj p' hp', List.flatMap_append, St.apply_append]
      simp
    rw [e3, look_apply, look_apply, e2]
  · rw [look_apply, lastOb_none _ _ ht]
    have e1 : look (aft us σ n fun i => p i || i == j).ob t = look (aft us σ n p).ob t := aft_look fun i hi hm => by
      have : i ≠ j := by rintro rfl; exact ht hm
      simp [this]
    rw [e1]
    rfl
end
end Go.Proofs.Ytlpooghphoohcaa.R
/- Regions in any order. -/
namespace Go.Proofs.Ytlpooghphoohcaa.R
open Go.RowKit
set_option linter.unusedVariables false
set_option linter.unusedSimpArgs false
/-- One operation waits for another. -/
inductive Tr (ops : Array Oper) : Nat → Nat → Prop
  | one {j : Nat} {o : Oper} {e : Edge} : ops[j]? = some o → e ∈ o.after → Region.binds .any e = true → Tr ops e.on j
  | more {i j : Nat} {o : Oper} {e : Edge} : ops[j]? = some o → e ∈ o.after → Region.binds .any e = true → Tr ops i e.on → Tr ops i j
theorem inner_fold (acc : Array Nat) (i : Nat) : (l : List Edge) → (s : Nat) → (l.foldl (fun s e => if Region.binds .any e then s ||| 2 ^ e.on ||| acc.getD e.on 0 else s) s).testBit i = true → s.testBit i = true ∨ ∃ e, e ∈ l ∧ Region.binds .any e = true ∧ (e.on = i ∨ (acc.getD e.on 0).testBit i = true)
  | [], s, h => .inl h
  | e :: l, s, h => by
    rw [List.foldl_cons] at h
    rcases inner_fold acc i l _ h with h1 | ⟨e', h1, h2, h3⟩
    · by_cases hb : Region.binds .any e = true
      · rw [if_pos hb, Nat.testBit_or, Nat.testBit_or, Bool.or_eq_true, Bool.or_eq_true, Nat.testBit_two_pow] at h1
        rcases h1 with (h1 | h1) | h1
        · exact .inl h1
        · exact .inr ⟨e, by simp, hb, .inl (by simpa using h1)⟩
        · exact .inr ⟨e, by simp, hb, .inr h1⟩
      · rw [if_neg hb] at h1
        exact .inl h1
    · exact .inr ⟨e', by simp [h1], h2, h3⟩
theorem bef_fold {ops : Array Oper} : (l : List Oper) → (acc : Array Nat) → (∀ i, l[i]? = ops[acc.size + i]?) → (∀ j i, (acc.getD j 0).testBit i = true → Tr ops i j) →
    ∀ j i, ((l.foldl (fun acc o => acc.push (o.after.foldl (fun s e => if Region.binds .any e then s ||| 2 ^ e.on ||| acc.getD e.on 0 else s) 0)) acc).getD j 0).testBit i = true → Tr ops i j
  | [], acc, hl, ha, j, i, h => ha j i h
  | o :: l, acc, hl, ha, j, i, h => by
    rw [List.foldl_cons] at h
    refine bef_fold l _ (fun i => ?_) (fun j i h => ?_) j i h
    · have := hl (i + 1)
      rw [List.getElem?_cons_succ] at this
      rw [this, Array.size_push]
      congr 1
      omega
    · by_cases hj : j = acc.size
      · subst hj
        have ho : ops[acc.size]? = some o := by have := hl 0; simpa using this.symm
        rw [Array.getD_eq_getD_getElem?, Array.getElem?_push_size, Option.getD_some, ← Array.foldl_toList] at h
        rcases inner_fold acc i _ _ h with h | ⟨e, h1, h2, h3 | h3⟩
        · simp at h
        · rw [← h3]; exact .one ho (by simpa using h1) h2
        · exact .more ho (by simpa using h1) h2 (ha _ _ h3)
      · rw [Array.getD_eq_getD_getElem?, Array.getElem?_push, if_neg hj, ← Array.getD_eq_getD_getElem?] at h
        exact ha j i h
theorem before_tr {ops : Array Oper} {i j : Nat} (h : ((Region.before ops).getD j 0).testBit i = true) : Tr ops i j := by
  unfold Region.before at h
  rw [← Array.foldl_toList] at h
  exact bef_fold ops.toList #[] (fun i => by simp) (fun j i h => by simp at h) j i h
theorem Tr.mem {ops : Array Oper} {S : Nat → Prop} (hS : ∀ i o e, S i → ops[i]? = some o → e ∈ o.after → Region.binds .any e = true → S e.on) {i j : Nat} (h : Tr ops i j) : (∀ o e, ops[j]? = some o → e ∈ o.after → Region.binds .any e = true → S e.on) → S i := by
  induction h with
  | one ho he hb => intro hj; exact hj _ _ ho he hb
  | more ho he hb _ ih => intro hj; exact ih fun o e ho' he' hb' => hS _ o e (hj _ _ ho he hb) ho' he' hb'
theorem meets_false {a b : List Nat} (h : (!meets a b) = true) {x : Nat} (ha : x ∈ a) : x ∉ b := by
  intro hb
  simp only [meets, Bool.not_eq_true', List.any_eq_false] at h
  have := h x ha
  simp at this
  exact this hb
theorem all_apart {bef : Array Nat} {ops : Array Oper} : (l : List Fp) → allApart bef ops l = true → ∀ (i j : Nat) x y, i < j → l[i]? = some x → l[j]? = some y → apart bef ops x y = true
  | [], h, i, j, x, y, _, hx, _ => by simp at hx
  | z :: l, h, i, j, x, y, hij, hx, hy => by
    simp only [allApart, Bool.and_eq_true, List.all_eq_true] at h
    cases j with
    | zero => omega
    | succ j =>
      rw [List.getElem?_cons_succ] at hy
      cases i with
      | zero =>
        simp at hx
        subst hx
        exact h.1 y (List.mem_of_getElem? hy)
      | succ i =>
        rw [List.getElem?_cons_succ] at hx
        exact all_apart l h.2 i j x y (by omega) hx hy
theorem backward_get : (l : List Oper) → (k : Nat) → backward k l = true → ∀ (i : Nat) o, l[i]? = some o → ∀ e, e ∈ o.after → Region.binds .any e = true → e.on < k + i
  | [], k, h, i, o, ho => by simp at ho
  | z :: l, k, h, 0, o, ho => by
    simp only [backward, Bool.and_eq_true, Array.all_eq_true_iff_forall_mem, decide_eq_true_eq] at h
    simp at ho
    subst ho
    intro e he hb
    have := h.1 e he
    rw [hb] at this
    simpa using this
  | z :: l, k, h, i + 1, o, ho => by
    simp only [backward, Bool.and_eq_true] at h
    intro e he hb
    have := backward_get l (k + 1) h.2 i o (by simpa using ho) e he hb
    omega
theorem R.eqv {X W0 : Foot} {w0 : World} {D : Nat → Prop} {σ τ : St} {a : Act} {w : World} (h : R X W0 w0 D σ a w) (h1 : τ.sl.length = σ.sl.length) (h2 : ∀ t, τ.get t = σ.get t) (h3 : ∀ N, look τ.ob N = look σ.ob N) : R X W0 w0 D τ a w := by
  obtain ⟨env, F, h⟩ := h
  exact ⟨env, F, ⟨by rw [h1]; exact h.tm, h.df, fun t => by rw [h2]; exact h.sl t, fun N => by rw [h3]; exact h.ob N, h.dj, h.xf, h.lt, h.xl, h.own, h.kp, fun N hN => by rw [h3]; exact h.dm N hN, h.hd⟩⟩
section
variable {P : Program} {C : Hd Prop} {io : FuncId → List Bool}
theorem any_ok {ops : Array Oper} {nx : Nat} {us : Nat → List Upd} {fp : Nat → Fp} {σ : St} (hback : ∀ (i : Nat) (o : Oper), ops[i]? = some o → ∀ e, e ∈ o.after → Region.binds .any e = true → e.on < i)
    (hg : ∀ j o, ops[j]? = some o → Good P ops nx j o (aft us σ ops.size fun i => decide (i < j)) (us j) (fp j))
    (hap : ∀ i j, i < j → j < ops.size → apart (Region.before ops) ops (fp j) (fp i) = true)
    {X W0 : Foot} {w0 : World} {Q : Exit → Act → World → Prop} {a0 : Act} (hQ : ∀ a w, R X W0 w0 (fun M => M < nx + 64 * ops.size) (aft us σ ops.size fun _ => true) a w → Fr ops a0 a → Q .normal a w) :
    ∀ (fuel : Nat) (listed : Array Bool) a w, listed.size = ops.size → (∀ i o e, listed.getD i false = true → ops[i]? = some o → e ∈ o.after → Region.binds .any e = true → listed.getD e.on false = true) →
      ((List.range ops.size).filter fun i => !listed.getD i false).length ≤ fuel →
      R X W0 w0 (fun M => M < nx ∨ ∃ i, i < ops.size ∧ listed.getD i false = true ∧ nx + 64 * i ≤ M ∧ M < nx + 64 * (i + 1)) (aft us σ ops.size fun i => listed.getD i false) a w → Fr ops a0 a → wpAny P .any ops Q fuel listed a w := by
  -- what stands apart
  have dis : ∀ i j oi oj, i < j → ops[i]? = some oi → ops[j]? = some oj → Tr ops i j ∨ ((∀ N, N ∈ wrote (us j) → N ∉ (fp i).r ∧ N ∉ wrote (us i)) ∧ (∀ N, N ∈ wrote (us i) → N ∉ (fp j).r) ∧ (∀ t, t ∈ sls (us j) → t ∉ oi.looksAt ops ∧ t ∉ sls (us i)) ∧ ∀ t, t ∈ sls (us i) → t ∉ oj.looksAt ops) := by
    intro i j oi oj hij hi hj
    have hlt : j < ops.size := (Array.getElem?_eq_some_iff.1 hj).1
    have h := hap i j hij hlt
    have gi := hg i oi hi
    have gj := hg j oj hj
    unfold apart at h
    rw [gi.i, gj.i, Nat.max_eq_left (by omega), Nat.min_eq_right (by omega), Bool.or_eq_true, hi, hj] at h
    rcases h with h | h
    · exact .inl (before_tr h)
    · simp only [Bool.and_eq_true] at h
      obtain ⟨⟨⟨h1, h2⟩, h3⟩, ⟨⟨h4, h5⟩, h6⟩⟩ := h
      rw [gi.w] at h2 h3
      rw [gj.w] at h1 h3
      rw [gi.s] at h5 h6
      rw [gj.s] at h4 h6
      exact .inr ⟨fun N hN => ⟨meets_false h1 hN, meets_false h3 hN⟩, fun N hN => meets_false h2 hN, fun t ht => ⟨meets_false h4 ht, meets_false h6 ht⟩, fun t ht => meets_false h5 ht⟩
  have full : ∀ (listed : Array Bool), listed.size = ops.size → Region.ready .any ops listed = [] → ∀ i, i < ops.size → listed.getD i false = true := by
    intro listed hsz hr i
    induction i using Nat.strongRecOn with
    | _ i ih =>
      intro hi
      cases hl : listed.getD i false with
      | true => rfl
      | false =>
        exfalso
        have : i ∈ Region.ready .any ops listed := by
          refine mem_ready.2 ⟨?_, ops[i], Array.getElem?_eq_getElem hi, fun e he hb => ?_⟩
          · have hi' : i < listed.size := by omega
            simp [Array.getD_eq_getD_getElem?, hi'] at hl ⊢
            exact hl
          · have := hback i ops[i] (Array.getElem?_eq_getElem hi) e he hb
            exact ih e.on this (by omega)
        rw [hr] at this
        cases this
  have endQ : ∀ (listed : Array Bool) a w, (∀ i, i < ops.size → listed.getD i false = true) →
      R X W0 w0 (fun M => M < nx ∨ ∃ i, i < ops.size ∧ listed.getD i false = true ∧ nx + 64 * i ≤ M ∧ M < nx + 64 * (i + 1)) (aft us σ ops.size fun i => listed.getD i false) a w → Fr ops a0 a → Q .normal a w := by
    intro listed a w hall hR hf
    refine hQ a w (R.eqv (R.grow hR fun M hM => ?_) ?_ ?_ ?_) hf
    · rcases hM with hM | ⟨i, hi, _, _, hM⟩ <;> omega
    · simp [aft, apply_len]
    · exact fun t => aft_get fun i hi _ => (hall i hi).symm
    · exact fun t => aft_look fun i hi _ => (hall i hi).symm
  intro fuel
  induction fuel with
  | zero =>
    intro listed a w hsz hcl hcount hR hf
    have hall : ∀ i, i < ops.size → listed.getD i false = true := by
      intro i hi
      have hnil : ((List.range ops.size).filter fun i => !listed.getD i false) = [] := List.eq_nil_of_length_eq_zero (by omega)
      have := List.filter_eq_nil_iff.1 hnil i (List.mem_range.2 hi)
      simpa using this
    refine ⟨?_, endQ listed a w hall hR hf⟩
    refine List.eq_nil_iff_forall_not_mem.2 fun i hi => ?_
    obtain ⟨h1, o, ho, _⟩ := mem_ready.1 hi
    have hlt := (Array.getElem?_eq_some_iff.1 ho).1
    have := hall i hlt
    have hi' : i < listed.size := by omega
    simp [Array.getD_eq_getD_getElem?, hi'] at h1 this
    rw [h1] at this
    cases this
  | succ fuel ih =>
    intro listed a w hsz hcl hcount hR hf
    refine ⟨fun hr => endQ listed a w (full listed hsz hr) hR hf, fun j hj => ?_⟩
    obtain ⟨h1, o, ho, hpred⟩ := mem_ready.1 hj
    have hlt := (Array.getElem?_eq_some_iff.1 ho).1
    have hjl : listed.getD j false = false := by
      have hi' : j < listed.size := by omega
      simp [Array.getD_eq_getD_getElem?, hi'] at h1 ⊢
      exact h1
    have hset : ∀ i, (listed.setIfInBounds j true).getD i false = (listed.getD i false || i == j) := by
      intro i
      by_cases e : i = j
      · subst e
        have hi' : i < listed.size := by omega
        simp [Array.getD_eq_getD_getElem?, hi']
      · rw [getD_set_ne false (Ne.symm e)]
        simp [e]
    -- whoever waits for j is not listed, and all that j waits for are
    have trj : ∀ i, Tr ops i j → listed.getD i false = true := fun i hi => hi.mem (S := fun i => listed.getD i false = true) hcl fun o' e ho' he hb => by
      rw [ho] at ho'
      injection ho' with ho'
      subst ho'
      exact hpred e he hb
    have jtr : ∀ i, listed.getD i false = true → ¬ Tr ops j i := fun i hi ht => by
      have := ht.mem (S := fun i => listed.getD i false = true) hcl fun o' e ho' he hb => hcl i o' e hi ho' he hb
      rw [hjl] at this
      cases this
    have sees : SeesLike ops o (fp j).r (aft us σ ops.size fun i => decide (i < j)) (aft us σ ops.size fun i => listed.getD i false) := by
      have main : ∀ i, i < ops.size → ((∃ t, t ∈ sls (us i) ∧ t ∈ o.looksAt ops) ∨ ∃ N, N ∈ wrote (us i) ∧ N ∈ (fp j).r) → listed.getD i false = decide (i < j) := by
        intro i hi hm
        have hoi : ops[i]? = some ops[i] := Array.getElem?_eq_getElem hi
        rcases Nat.lt_trichotomy i j with h | h | h
        · rcases dis i j _ _ h hoi ho with ht | ⟨_, h2, _, h4⟩
          · rw [trj i ht]; simp [h]
          · rcases hm with ⟨t, ht1, ht2⟩ | ⟨N, hN1, hN2⟩
            · exact (h4 t ht1 ht2).elim
            · exact (h2 N hN1 hN2).elim
        · subst h; rw [hjl]; simp
        · have hn : decide (i < j) = false := by simp; omega
          rw [hn]
          rcases dis j i _ _ h ho hoi with ht | ⟨h1, _, h3, _⟩
          · cases hl : listed.getD i false with
            | false => rfl
            | true => exact (jtr i hl ht).elim
          · rcases hm with ⟨t, ht1, ht2⟩ | ⟨N, hN1, hN2⟩
            · exact ((h3 t ht1).1 ht2).elim
            · exact ((h1 N hN1).1 hN2).elim
      exact ⟨fun t ht => aft_get fun i hi hm => main i hi (.inl ⟨t, hm, ht⟩), fun N hN => aft_look fun i hi hm => main i hi (.inr ⟨N, hm, hN⟩)⟩
    have later : ∀ i, i < ops.size → listed.getD i false = true → ((∃ t, t ∈ sls (us i) ∧ t ∈ sls (us j)) ∨ ∃ N, N ∈ wrote (us i) ∧ N ∈ wrote (us j)) → i < j := by
      intro i hi hl hm
      have hoi : ops[i]? = some ops[i] := Array.getElem?_eq_getElem hi
      rcases Nat.lt_trichotomy i j with h | h | h
      · exact h
      · subst h; rw [hjl] at hl; cases hl
      · exfalso
        rcases dis j i _ _ h ho hoi with ht | ⟨h1, _, h3, _⟩
        · exact jtr i hl ht
        · rcases hm with ⟨t, ht1, ht2⟩ | ⟨N, hN1, hN2⟩
          · exact (h3 t ht1).2 ht2
          · exact (h1 N hN1).2 hN2
    refine wpOp_mono (K := fun a' w' => R X W0 w0 (fun M => M < nx ∨ ∃ i, i < ops.size ∧ (listed.setIfInBounds j true).getD i false = true ∧ nx + 64 * i ≤ M ∧ M < nx + 64 * (i + 1)) (aft us σ ops.size fun i => (listed.setIfInBounds j true).getD i false) a' w' ∧ Fr ops a0 a') (fun a' w' h => ?_) (wpOp_frame hf ?_)
    · refine ih (listed.setIfInBounds j true) a' w' (by simp [hsz]) (fun i o' e hi ho' he hb => ?_) ?_ h.1 h.2
      · rw [hset] at hi
        by_cases e' : i = j
        · subst e'
          rw [ho] at ho'
          injection ho' with ho'
          subst ho'
          exact getD_set_true (hpred e he hb)
        · have hi' : listed.getD i false = true := by simpa [e'] using hi
          exact getD_set_true (hcl i o' e hi' ho' he hb)
      · have hlen : ((List.range ops.size).filter fun i => !(listed.setIfInBounds j true).getD i false).length < ((List.range ops.size).filter fun i => !listed.getD i false).length := by
          have e : ((List.range ops.size).filter fun i => !(listed.setIfInBounds j true).getD i false) = ((List.range ops.size).filter fun i => !listed.getD i false).filter fun i => !(i == j) := by
            rw [List.filter_filter]
            refine List.filter_congr fun i _ => ?_
            rw [hset]
            cases listed.getD i false <;> simp
          rw [e]
          refine List.length_filter_lt_length_iff_exists.2 ⟨j, List.mem_filter.2 ⟨List.mem_range.2 hlt, by rw [hjl]; rfl⟩, by simp⟩
        omega
    · refine (hg j o ho).ok _ sees X W0 w0 _ a w _ Q (fun M m1 m2 m3 => ?_) hR fun a' w' hR' => ?_
      · rcases m3 with m3 | ⟨i, hi, hl, m3, m4⟩
        · omega
        · have : i = j := by omega
          subst this
          rw [hjl] at hl
          cases hl
      · refine R.eqv (R.grow hR' fun M hM => ?_) ?_ (fun t => ?_) fun N => ?_
        · rcases hM with (hM | ⟨i, hi, hl, m1, m2⟩) | ⟨m1, m2⟩
          · exact .inl hM
          · exact .inr ⟨i, hi, getD_set_true hl, m1, m2⟩
          · exact .inr ⟨j, hlt, by rw [hset]; simp, m1, by omega⟩
        · simp [aft, apply_len]
        · rw [aft_more_get hlt hjl (fun i hi hl h1 h2 => later i hi hl (.inl ⟨t, h1, h2⟩))]
          exact aft_get fun i hi _ => hset i
        · rw [aft_more_look hlt hjl (fun i hi hl h1 h2 => later i hi hl (.inr ⟨N, h1, h2⟩))]
          exact aft_look fun i hi _ => hset i
theorem drawn_ok (hm : P.follows .mixedOrders = true) (hC : HdOk P C) {id : Nat} {ops : Array Oper} {σ : St} {k : St → List Fp → Prop} (hk : run P C io False ops.toList 0 ops.toList σ [] k) :
    ∃ σ' fps, k σ' fps ∧ σ'.nx = σ.nx ∧ (drawOk ops fps = true → ∀ (X W0 : Foot) (w0 : World) (Q : Exit → Act → World → Prop) (a : Act) (w : World), R X W0 w0 (fun M => M < σ.nx) σ a w →
      (∀ a' w', R X W0 w0 (fun M => M < σ.nx + 64 * ops.size) σ' a' w' → Fr ops a a' → Q .normal a' w') → (Code.region id ops true).wp P Q a w) := by
  obtain ⟨us, fp, st, h1, h2, h3, h4⟩ := run_path hC ops.toList 0 σ [] k rfl hk
  simp only [Nat.zero_add, Array.length_toList, List.append_nil] at h1 h3
  have hst : ∀ j, j ≤ ops.size → st j = aft us σ ops.size fun i => decide (i < j) := by
    intro j
    induction j with
    | zero =>
      intro _
      rw [h2]
      unfold aft
      have : (List.range ops.size).filter (fun i => decide (i < 0)) = [] := List.filter_eq_nil_iff.2 fun i _ => by simp
      rw [this]
      rfl
    | succ j ih =>
      intro hj
      rw [h3 j (Nat.zero_le _) (by omega), ih (by omega)]
      unfold aft
      rw [← St.apply_append]
      have e : (List.range ops.size).filter (fun i => decide (i < j + 1)) = (List.range ops.size).filter (fun i => decide (i < j)) ++ [j] := by
        rw [← filt (show j < ops.size by omega) (fun i => decide (i < j)) (fun i hi => by simpa using hi)]
        refine List.filter_congr fun i _ => ?_
        rw [Bool.eq_iff_iff]
        simp only [decide_eq_true_eq, Bool.or_eq_true, beq_iff_eq]
        omega
      rw [e, List.flatMap_append]
      simp
  have hnx : (st ops.size).nx = σ.nx := by rw [hst _ (Nat.le_refl _)]; exact apply_nx _ _
  refine ⟨_, _, h1, hnx, fun hd X W0 w0 Q a w hR hQ => wp_region_any hm ?_⟩
  simp only [drawOk, Bool.and_eq_true] at hd
  have hall : (fun _ : Nat => true) = fun _ => true := rfl
  have hend : aft us σ ops.size (fun i => decide (i < ops.size)) = aft us σ ops.size fun _ => true := by
    unfold aft
    rw [List.filter_congr (q := fun _ => true) fun i hi => by simpa using List.mem_range.1 hi]
  have hrep : ∀ i, ¬ (Array.replicate ops.size false).getD i false = true := fun i hi => by
    simp only [Array.getD_eq_getD_getElem?, Array.getElem?_replicate] at hi
    split at hi <;> simp at hi
  refine any_ok (X := X) (W0 := W0) (w0 := w0) (nx := σ.nx) (us := us) (fp := fp) (σ := σ) (a0 := a) (fun i o ho e he hb => ?_) (fun j o ho => ?_) (fun i j hij hj => ?_) (fun a' w' hR' hf => ?_) ops.size _ a _ (by simp) (fun i o e hi => absurd hi (hrep i)) ?_ ?_ (Fr.refl _ _)
  · have := backward_get ops.toList 0 hd.1 i o (by simpa using ho) e he hb
    omega
  · have hlt := (Array.getElem?_eq_some_iff.1 ho).1
    rw [← hst j (by omega)]
    exact h4 j o (Nat.zero_le _) ho
  · have hlen : (List.map fp (List.range' 0 ops.size)).reverse.length = ops.size := by simp
    have hget : ∀ m, m < ops.size → (List.map fp (List.range' 0 ops.size)).reverse[ops.size - 1 - m]? = some (fp m) := by
      intro m hm
      rw [List.getElem?_reverse (by simp; omega)]
      simp only [List.length_map, List.length_range']
      rw [show ops.size - 1 - (ops.size - 1 - m) = m by omega, List.getElem?_map, List.getElem?_range' hm]
      simp
    exact all_apart _ hd.2 (ops.size - 1 - j) (ops.size - 1 - i) (fp j) (fp i) (by omega) (hget j hj) (hget i (by omega))
  · rw [← hend, ← hst _ (Nat.le_refl _)] at hR'
    exact hQ a' w' hR' hf
  · have := List.length_filter_le (fun i => !(Array.replicate ops.size false).getD i false) (List.range ops.size)
    simpa using this
  · obtain ⟨env, F, hR⟩ := hR
    have hR2 := hR.world (Keep.drewN (fun _ _ => False) w 1)
    have e0 : aft us σ ops.size (fun i => (Array.replicate ops.size false).getD i false) = σ := by
      unfold aft
      have : (List.range ops.size).filter (fun i => (Array.replicate ops.size false).getD i false) = [] := List.filter_eq_nil_iff.2 fun i hi => hrep i
      rw [this]
      rfl
    rw [e0]
    exact R.grow (R.of hR2) fun M hM => .inl hM
end
end Go.Proofs.Ytlpooghphoohcaa.R
