/- How the code is read: plain states and the machine. Texts joined, in their order. -/
import Derived.Test.YtlpooghphoohcaaZR4
import Derived.LoopN
import Derived.Lib.SliceRun
import Derived.DataReads
import Derived.Lib.SmallJoins
import Derived.SizedLaws
import Derived.ChangeSlices
/- What a code does. -/
namespace Go.Proofs.Ytlpooghphoohcaa.R
open Go.RowKit
set_option linter.unusedVariables false
set_option linter.unusedSimpArgs false

/-- The relation, with slots T that stay as they are. -/
def RS (T : List Nat) (V : Nat → Value) (X W0 : Foot) (w0 : World) (σ : St) (a : Act) (w : World) : Prop := R X W0 w0 (fun M => M < σ.nx) σ a w ∧ ∀ t, t ∈ T → a.tmps.getD t undef = V t
/-- From σ a code comes to σ' by the exit e. -/
def CodeOk (P : Program) (T : List Nat) (c : Code) (σ : St) (e : Exit) (σ' : St) : Prop :=
  ∀ (V : Nat → Value) (X W0 : Foot) (w0 : World) (Q : Exit → Act → World → Prop) (a : Act) (w : World), RS T V X W0 w0 σ a w → (∀ a' w', RS T V X W0 w0 σ' a' w' → Q e a' w') → c.wp P Q a w
def PieceOk (P : Program) (T : List Nat) : Piece → St → Exit → St → Prop
  | .loop c _, σ, e, σ' => ∃ n, ∀ (V : Nat → Value) (X W0 : Foot) (w0 : World) (Q : Exit → Act → World → Prop) (a : Act) (w : World), RS T V X W0 w0 σ a w → (∀ a' w', RS T V X W0 w0 σ' a' w' → Q e a' w') → Code.rounds P c Q n a w
  | .rest c _, σ, e, σ' => CodeOk P T c σ e σ'
def noDst (T : List Nat) : Code → Bool
  | .region _ ops _ => ops.toList.all fun o => match o.dst with
    | some d => !T.contains d
    | none => true
  | .seq a b => noDst T a && noDst T b
  | .cond _ a b => noDst T a && noDst T b
  | .block _ a => noDst T a
  | .loop a => noDst T a
  | _ => true
theorem noDst_fr {T : List Nat} {id : Nat} {ops : Array Oper} {dr : Bool} (h : noDst T (.region id ops dr) = true) {a a' : Act} (hf : Fr ops a a') {t : Nat} (ht : t ∈ T) : a'.tmps.getD t undef = a.tmps.getD t undef := by
  refine hf t fun o ho e => ?_
  simp only [noDst, List.all_eq_true] at h
  have := h o (by simpa using ho)
  rw [e] at this
  simp at this
  exact this ht
theorem RS.re {T : List Nat} {V : Nat → Value} {X W0 : Foot} {w0 : World} {σ : St} {n m : Nat} (hm : m = n) {a : Act} {w : World} (h : R X W0 w0 (fun M => M < n) σ a w) (hV : ∀ t, t ∈ T → a.tmps.getD t undef = V t) : RS T V X W0 w0 { σ with nx := m } a w := by
  subst hm
  obtain ⟨env, F, h⟩ := h
  exact ⟨⟨env, F, ⟨h.tm, h.df, h.sl, h.ob, h.dj, h.xf, h.lt, h.xl, h.own, h.kp, h.dm, h.hd⟩⟩, hV⟩
def LamOk (P : Program) (T : List Nat) (c : Code) (n : Nat) (Λ : Nat → (Exit → St → Prop) → St → Prop) : Prop :=
  ∀ i pc K σ, pieceAt c n i = some pc → Λ i K σ → ∃ e σ', K e σ' ∧ PieceOk P T pc σ e σ'
theorem piece_range : (c : Code) → (n i : Nat) → (pc : Piece) → pieceAt c n i = some pc → n ≤ i ∧ i < n + cnt c
  | .seq a b, n, i, pc, h => by
    simp only [pieceAt] at h
    simp only [cnt]
    split at h
    · omega
    · split at h
      · have := piece_range a (n + 1) i pc h; omega
      · have := piece_range b _ i pc h; omega
  | .cond _ a b, n, i, pc, h => by
    simp only [pieceAt] at h
    simp only [cnt]
    split at h
    · have := piece_range a n i pc h; omega
    · have := piece_range b _ i pc h; omega
  | .block _ a, n, i, pc, h => by
    simp only [pieceAt] at h
    simp only [cnt]
    exact piece_range a n i pc h
  | .loop a, n, i, pc, h => by
    simp only [pieceAt] at h
    simp only [cnt]
    split at h
    · omega
    · have := piece_range a (n + 1) i pc h; omega
  | .skip, _, _, _, h => by simp [pieceAt] at h
  | .region _ _ _, _, _, _, h => by simp [pieceAt] at h
  | .rangeFunc _ _ _ _, _, _, _, h => by simp [pieceAt] at h
  | .exit _, _, _, _, h => by simp [pieceAt] at h
  | .scope _, _, _, _, h => by simp [pieceAt] at h
  | .label _, _, _, _, h => by simp [pieceAt] at h
  | .goto _, _, _, _, h => by simp [pieceAt] at h
  | .ret, _, _, _, h => by simp [pieceAt] at h
  | .refuse _, _, _, _, h => by simp [pieceAt] at h
theorem LamOk.sub {P : Program} {T : List Nat} {c c' : Code} {n n' : Nat} {Λ : Nat → (Exit → St → Prop) → St → Prop} (h : LamOk P T c n Λ) (hs : ∀ i pc, pieceAt c' n' i = some pc → pieceAt c n i = some pc) : LamOk P T c' n' Λ :=
  fun i pc K σ hp hl => h i pc K σ (hs i pc hp) hl
theorem exec_ok {P : Program} {C : Hd Prop} {io : FuncId → List Bool} (hm : P.follows .mixedOrders = true) (hC : HdOk P C) {T : List Nat} {cut : Nat → Bool} {Λ : Nat → (Exit → St → Prop) → St → Prop} :
    (c : Code) → (n : Nat) → noDst T c = true → LamOk P T c n Λ → (K : Exit → St → Prop) → (σ : St) → exec P C io False cut Λ c n K σ → ∃ e σ', K e σ' ∧ CodeOk P T c σ e σ'
  | .skip, n, hT, hΛ, K, σ, h => ⟨_, _, h, fun V X W0 w0 Q a w hR hQ => wp_skip (hQ a w hR)⟩
  | .ret, n, hT, hΛ, K, σ, h => ⟨_, _, h, fun V X W0 w0 Q a w hR hQ => wp_ret (hQ a w hR)⟩
  | .exit id, n, hT, hΛ, K, σ, h => ⟨_, _, h, fun V X W0 w0 Q a w hR hQ => wp_exit (hQ a w hR)⟩
  | .region id ops dr, n, hT, hΛ, K, σ, h => by
    simp only [exec] at h
    cases dr with
    | false =>
      obtain ⟨σ', fps, hk, hn, hw⟩ := region_ok (id := id) hC h
      simp only [Bool.false_and, Bool.false_eq_true, if_false] at hk
      exact ⟨_, _, hk, fun V X W0 w0 Q a w hR hQ => hw X W0 w0 Q a w hR.1 fun a' w' hR' hf => hQ a' w' (RS.re rfl hR' fun t ht => (noDst_fr hT hf ht).trans (hR.2 t ht))⟩
    | true =>
      obtain ⟨σ', fps, hk, hn, hw⟩ := drawn_ok (id := id) hm hC h
      split at hk
      · exact hk.elim
      · rename_i hd
        have hd : drawOk ops fps = true := by simpa using hd
        exact ⟨_, _, hk, fun V X W0 w0 Q a w hR hQ => hw hd X W0 w0 Q a w hR.1 fun a' w' hR' hf => hQ a' w' (RS.re rfl hR' fun t ht => (noDst_fr hT hf ht).trans (hR.2 t ht))⟩
  | .seq a b, n, hT, hΛ, K, σ, h => by
    simp only [noDst, Bool.and_eq_true] at hT
    have ha := exec_ok hm hC a (n + 1) hT.1 (hΛ.sub fun i pc hp => by
      have := piece_range a (n + 1) i pc hp
      simp only [pieceAt]
      rw [if_neg (by omega), if_pos (by omega)]
      exact hp) _ σ h
    obtain ⟨e1, σ1, hk, h1⟩ := ha
    cases e1 with
    | normal =>
      have hb : ∃ e σ', K e σ' ∧ CodeOk P T b σ1 e σ' := by
        dsimp only at hk
        split at hk
        · exact hΛ n (.rest b (n + 1 + cnt a)) K σ1 (by simp [pieceAt]) hk
        · exact exec_ok hm hC b (n + 1 + cnt a) hT.2 (hΛ.sub fun i pc hp => by
            have := piece_range b _ i pc hp
            simp only [pieceAt]
            rw [if_neg (by omega), if_neg (by omega)]
            exact hp) K σ1 hk
      obtain ⟨e, σ', hk', h2⟩ := hb
      exact ⟨e, σ', hk', fun V X W0 w0 Q a' w hR hQ => wp_seq (h1 V X W0 w0 _ a' w hR fun a'' w'' hR' => h2 V X W0 w0 Q a'' w'' hR' hQ)⟩
    | exit j => exact ⟨_, _, hk, fun V X W0 w0 Q a' w hR hQ => wp_seq (h1 V X W0 w0 _ a' w hR hQ)⟩
    | goto j => exact ⟨_, _, hk, fun V X W0 w0 Q a' w hR hQ => wp_seq (h1 V X W0 w0 _ a' w hR hQ)⟩
    | ret => exact ⟨_, _, hk, fun V X W0 w0 Q a' w hR hQ => wp_seq (h1 V X W0 w0 _ a' w hR hQ)⟩
    | panic j => exact ⟨_, _, hk, fun V X W0 w0 Q a' w hR hQ => wp_seq (h1 V X W0 w0 _ a' w hR hQ)⟩
    | outgrown => exact ⟨_, _, hk, fun V X W0 w0 Q a' w hR hQ => wp_seq (h1 V X W0 w0 _ a' w hR hQ)⟩
  | .cond x a b, n, hT, hΛ, K, σ, h => by
    simp only [noDst, Bool.and_eq_true] at hT
    simp only [exec] at h
    obtain ⟨t, h, ht⟩ := iteP_ok h
    have hb : ∃ e σ', K e σ' ∧ CodeOk P T (if t then a else b) σ e σ' := by
      cases t with
      | true =>
        exact exec_ok hm hC a n hT.1 (hΛ.sub fun i pc hp => by
          have := piece_range a n i pc hp
          simp only [pieceAt]
          rw [if_pos (by omega)]
          exact hp) K σ h
      | false =>
        exact exec_ok hm hC b (n + cnt a) hT.2 (hΛ.sub fun i pc hp => by
          have := piece_range b _ i pc hp
          simp only [pieceAt]
          rw [if_neg (by omega)]
          exact hp) K σ h
    obtain ⟨e, σ', hk, h1⟩ := hb
    refine ⟨e, σ', hk, fun V X W0 w0 Q a' w hR hQ => ?_⟩
    have hR' := hR.1
    obtain ⟨env, F, hRl⟩ := hR'
    exact wp_cond (ht _ _ _ _ _ (hRl.ev x)) (h1 V X W0 w0 Q a' w hR hQ)
  | .block id a, n, hT, hΛ, K, σ, h => by
    simp only [exec] at h
    obtain ⟨e1, σ1, hk, h1⟩ := exec_ok hm hC a n (by simpa only [noDst] using hT) (hΛ.sub fun i pc hp => by simpa only [pieceAt] using hp) _ σ h
    cases e1 with
    | exit j =>
      dsimp only at hk
      split at hk
      · rename_i hj
        exact ⟨_, _, hk, fun V X W0 w0 Q a' w hR hQ => wp_block (h1 V X W0 w0 _ a' w hR fun a'' w'' hR' => by simpa [Exit.inBlock, hj] using hQ a'' w'' hR')⟩
      · rename_i hj
        exact ⟨_, _, hk, fun V X W0 w0 Q a' w hR hQ => wp_block (h1 V X W0 w0 _ a' w hR fun a'' w'' hR' => by simpa [Exit.inBlock, hj] using hQ a'' w'' hR')⟩
    | normal => exact ⟨_, _, hk, fun V X W0 w0 Q a' w hR hQ => wp_block (h1 V X W0 w0 _ a' w hR hQ)⟩
    | goto j => exact ⟨_, _, hk, fun V X W0 w0 Q a' w hR hQ => wp_block (h1 V X W0 w0 _ a' w hR hQ)⟩
    | ret => exact ⟨_, _, hk, fun V X W0 w0 Q a' w hR hQ => wp_block (h1 V X W0 w0 _ a' w hR hQ)⟩
    | panic j => exact ⟨_, _, hk, fun V X W0 w0 Q a' w hR hQ => wp_block (h1 V X W0 w0 _ a' w hR hQ)⟩
    | outgrown => exact ⟨_, _, hk, fun V X W0 w0 Q a' w hR hQ => wp_block (h1 V X W0 w0 _ a' w hR hQ)⟩
  | .loop a, n, hT, hΛ, K, σ, h => by
    simp only [exec] at h
    obtain ⟨e, σ', hk, m, h1⟩ := hΛ n (.loop a (n + 1)) K σ (by simp [pieceAt]) h
    exact ⟨e, σ', hk, fun V X W0 w0 Q a' w hR hQ => wp_loop_rounds m (h1 V X W0 w0 Q a' w hR hQ)⟩
  | .rangeFunc _ _ _ _, n, hT, hΛ, K, σ, h => by simp only [exec] at h
  | .scope _, n, hT, hΛ, K, σ, h => by simp only [exec] at h
  | .label _, n, hT, hΛ, K, σ, h => by simp only [exec] at h
  | .goto _, n, hT, hΛ, K, σ, h => by simp only [exec] at h
  | .refuse _, n, hT, hΛ, K, σ, h => by simp only [exec] at h
end Go.Proofs.Ytlpooghphoohcaa.R
/- States anew: fewer slots, objects by new names. -/
namespace Go.Proofs.Ytlpooghphoohcaa.R
open Go.RowKit
set_option linter.unusedVariables false
set_option linter.unusedSimpArgs false

theorem pos_some : (l : List Nat) → (N i k : Nat) → pos l N k = some i → ∃ j, i = k + j ∧ l[j]? = some N
  | [], N, i, k, h => by cases h
  | M :: r, N, i, k, h => by
    simp only [pos] at h
    split at h
    · rename_i e
      injection h with h
      exact ⟨0, by omega, by simp [e]⟩
    · obtain ⟨j, h1, h2⟩ := pos_some r N i (k + 1) h
      exact ⟨j + 1, by omega, by simpa using h2⟩
theorem nub_nodup : (l acc : List Nat) → acc.Nodup → (nub l acc).Nodup
  | [], acc, h => h
  | x :: r, acc, h => by
    simp only [nub]
    split
    · exact nub_nodup r acc h
    · rename_i hc
      refine nub_nodup r _ ?_
      rw [List.nodup_append]
      refine ⟨h, by simp, fun a ha b hb => ?_⟩
      simp only [List.mem_singleton] at hb
      subst hb
      rintro rfl
      exact hc (by simpa using ha)
theorem look_obs {h : Nat → PV} {ρ : Nat → Option Nat} : (l : List Nat) → (k i : Nat) → look (obs h ρ l k) i = if k ≤ i then (match l[i - k]? with | some N => (h N).ren ρ | none => .dead) else .dead
  | [], k, i => by simp [obs, look]
  | N :: r, k, i => by
    simp only [obs, look, look_obs r]
    by_cases e : k = i
    · subst e; simp
    · rw [if_neg e]
      by_cases h1 : k + 1 ≤ i
      · rw [if_pos h1, if_pos (by omega)]
        obtain ⟨d, hd⟩ : ∃ d, i - k = d + 1 := ⟨i - k - 1, by omega⟩
        rw [hd, show i - (k + 1) = d by omega, List.getElem?_cons_succ]
      · rw [if_neg h1, if_neg (by omega)]
theorem keep_get (L : List Nat) : (sl : List PV) → (k t : Nat) → (keep L k sl).getD t .dead = if L.contains (k + t) = true then sl.getD t .dead else .dead
  | [], k, t => by simp [keep]
  | p :: r, k, 0 => by
    simp only [keep, Nat.add_zero]
    split <;> rfl
  | p :: r, k, t + 1 => by
    simp only [keep, List.getD_cons_succ, keep_get L r]
    rw [show k + 1 + t = k + (t + 1) by omega]
theorem keep_len (L : List Nat) : (sl : List PV) → (k : Nat) → (keep L k sl).length = sl.length
  | [], k => rfl
  | p :: r, k => by simp [keep, keep_len L r]
section
variable {X W0 : Foot} {w0 : World} {D : Nat → Prop} {σ : St} {a : Act} {w : World} {env : Nat → Value} {F : Nat → Foot}
/-- A row of rows whose alias has no name is given up. -/
def lost (ρ : Nat → Option Nat) : PV → Bool
  | .hol _ _ _ _ _ M => (ρ M).isNone
  | _ => false
theorem R.canon0 (h : R X W0 w0 D σ a w) (L : List Nat) : R X W0 w0 (fun M => M < (σ.canon0 L).nx) (σ.canon0 L) a w := by
  classical
  obtain ⟨env, F, h⟩ := h
  let sl := keep L 0 σ.sl
  let hh := look σ.ob
  let n1 := nub (sl.flatMap PV.nms) []
  let n2 := nub (n1.flatMap fun N => (hh N).nms) n1
  let ρ := fun N => pos n2 N 0
  have hnd : n2.Nodup := nub_nodup _ _ (nub_nodup _ _ List.nodup_nil)
  let env' : Nat → Value := fun i => env (n2.getD i 0)
  let F' : Nat → Foot := fun i => if i < n2.length then (if lost ρ (hh (n2.getD i 0)) = true then (fun _ _ => False) else F (n2.getD i 0)) else fun _ _ => False
  let D' : Nat → Prop := fun i => i < n2.length ∧ D (n2.getD i 0)
  have hat : ∀ i, i < n2.length → n2[i]? = some (n2.getD i 0) := fun i hi => by simp [List.getD_eq_getElem?_getD, hi]
  have hsub : ∀ i b o, F' i b o → i < n2.length ∧ F (n2.getD i 0) b o := by
    intro i b o hb'
    simp only [F'] at hb'
    split at hb'
    · split at hb'
      · exact hb'.elim
      · exact ⟨by assumption, hb'⟩
    · exact hb'.elim
  have hs : Stb w (Ow X F) w (Ow X F') := by
    intro b o u h1 h2
    refine ⟨h1, ?_⟩
    rintro (hx | ⟨i, hi⟩)
    · exact h2 (.inl hx)
    · exact h2 (.inr ⟨_, (hsub i b o hi).2⟩)
  have hρ : ∀ N i, ρ N = some i → i < n2.length ∧ n2.getD i 0 = N := by
    intro N i hi
    obtain ⟨j, h1, h2⟩ := pos_some _ _ _ _ hi
    have : i = j := by omega
    subst this
    exact ⟨(List.getElem?_eq_some_iff.1 h2).1, by simp [List.getD_eq_getElem?_getD, h2]⟩
  have p1 : ∀ p v, PR env D w (Ow X F) p v → PR env' D' w (Ow X F') (p.ren1 ρ) v := by
    intro p v hp
    cases p with
    | ref N =>
      simp only [PV.ren1]
      cases hr : ρ N with
      | none => simp only [PR]
      | some i =>
        obtain ⟨h1, h2⟩ := hρ N i hr
        simp only [PR] at hp ⊢
        simp only [D', env', h2]
        exact ⟨⟨h1, hp.1⟩, hp.2⟩
    | win N z lo n =>
      simp only [PV.ren1]
      cases hr : ρ N with
      | none => simp only [PR]
      | some i =>
        obtain ⟨h1, h2⟩ := hρ N i hr
        simp only [PR] at hp ⊢
        simp only [D', env', h2]
        exact ⟨⟨h1, hp.1⟩, hp.2⟩
    | cp N c z j =>
      simp only [PV.ren1]
      cases hr : ρ N with
      | none => simp only [PR]
      | some i =>
        obtain ⟨h1, h2⟩ := hρ N i hr
        simp only [PR] at hp ⊢
        simp only [D', env', h2]
        exact ⟨⟨h1, hp.1⟩, hp.2⟩
    | val t x => simp only [PV.ren1, PR] at hp ⊢; exact RV.mono hs t hp
    | tst c d => simp only [PV.ren1, PR, RV] at hp ⊢; rw [hp]
    | nil => simp only [PV.ren1, PR] at hp ⊢; exact hp
    | row e t xs => simp only [PR] at hp
    | box cs => simp only [PR] at hp
    | mat _ _ _ _ => simp only [PR] at hp
    | hol _ _ _ _ _ _ => simp only [PR] at hp
    | pt cs =>
      simp only [PV.ren1, PR] at hp ⊢
      obtain ⟨b, o, us, rfl, k1, k2⟩ := hp
      exact ⟨b, o, us, rfl, PRs.mono hs (fun _ h => h.elim) (fun _ h => h.elim) _ _ k1, k2.mono hs⟩
    | agg cs => simp only [PV.ren1, PR]
    | tup cs => simp only [PV.ren1, PR]
    | clo f cs => simp only [PV.ren1, PR]
    | dead => simp only [PV.ren1, PR]
  have p2 : ∀ p v, PR env D w (Ow X F) p v → PR env' D' w (Ow X F') (p.ren ρ) v := by
    intro p v hp
    cases p with
    | agg cs =>
      simp only [PV.ren, PR] at hp ⊢
      obtain ⟨us, rfl, k1⟩ := hp
      exact ⟨us, rfl, PRs_map cs us k1 fun q _ u hq => p1 q u hq⟩
    | clo f cs =>
      simp only [PV.ren, PR] at hp ⊢
      obtain ⟨us, rfl, k1⟩ := hp
      exact ⟨us, rfl, PRs_map cs us k1 fun q _ u hq => p1 q u hq⟩
    | box cs => simp only [PR] at hp
    | _ => exact p1 _ v hp
  have hlook : ∀ i, look (σ.canon0 L).ob i = if i < n2.length then (hh (n2.getD i 0)).ren ρ else .dead := by
    intro i
    show look (obs hh ρ n2 0) i = _
    rw [look_obs]
    simp only [Nat.zero_le, if_true, Nat.sub_zero]
    by_cases hi : i < n2.length
    · rw [if_pos hi, hat i hi]
    · rw [if_neg hi, List.getElem?_eq_none_iff.2 (by omega)]
  have hget : ∀ t, (σ.canon0 L).get t = (sl.getD t .dead).ren ρ := by
    intro t
    show (sl.map (PV.ren ρ)).getD t .dead = _
    rw [List.getD_eq_getElem?_getD, List.getElem?_map, List.getD_eq_getElem?_getD]
    cases sl[t]? <;> rfl
  have key : Rl X W0 w0 D' (σ.canon0 L) a w env' F' := by
    refine ⟨?_, h.df, fun t => ?_, fun i => ?_, fun i j b o hne h1 h2 => ?_, fun i b o h1 => h.xf _ b o (hsub i b o h1).2, fun i b o h1 => h.lt _ b o (hsub i b o h1).2, h.xl, fun i b o h1 => h.own _ b o (hsub i b o h1).2, h.kp, fun i hi => ?_, fun i hi => h.hd _ hi.2⟩
    · show a.tmps.size = (sl.map (PV.ren ρ)).length
      rw [List.length_map, keep_len]
      exact h.tm
    · rw [hget]
      have := keep_get L σ.sl 0 t
      rw [this]
      split
      · exact p2 _ _ (h.sl t)
      · simp only [PV.ren, PV.ren1, PR]
    · rw [hlook]
      by_cases hi : i < n2.length
      · rw [if_pos hi]
        have hF : lost ρ (hh (n2.getD i 0)) = false → F' i = F (n2.getD i 0) := fun hl => by simp only [F', if_pos hi, hl]; rfl
        have hob := h.ob (n2.getD i 0)
        show OB env' D' w (Ow X F') (env (n2.getD i 0)) ((look σ.ob (n2.getD i 0)).ren ρ) (F' i)
        cases hl : look σ.ob (n2.getD i 0) with
        | row e t xs =>
          rw [hF (by simp only [hh, hl, lost])]
          rw [hl] at hob
          simp only [PV.ren, PV.ren1, OB] at hob ⊢
          obtain ⟨us, k1, k2, k3⟩ := hob
          exact ⟨us, k1, k2.mono hs, k3⟩
        | box cs =>
          rw [hF (by simp only [hh, hl, lost])]
          rw [hl] at hob
          simp only [PV.ren, OB] at hob ⊢
          obtain ⟨b, o, us, k1, k2, k3, k4⟩ := hob
          exact ⟨b, o, us, k1, PRs_map cs us k2 fun q _ u hq => p1 q u hq, k3, by rw [k4, List.length_map]⟩
        | mat e e' t xs =>
          rw [hF (by simp only [hh, hl, lost])]
          rw [hl] at hob
          simp only [PV.ren, PV.ren1, OB] at hob ⊢
          obtain ⟨us, k1, k2⟩ := hob
          exact ⟨us, ⟨k1.own, k1.flat, k1.row, fun _ _ e => (nomatch e), k1.dj, k1.out⟩, k2⟩
        | hol e e' t xs j M =>
          rw [hl] at hob
          simp only [OB] at hob
          obtain ⟨us, k1, k2⟩ := hob
          obtain ⟨q1, q2, q3⟩ := k1.ali j M rfl
          simp only [PV.ren, PV.ren1]
          cases hr : ρ M with
          | none =>
            have : F' i = fun _ _ => False := by simp only [F', if_pos hi, hh, hl, lost, hr]; rfl
            rw [this]
            simp only [OB, PR]
            exact ⟨trivial, trivial⟩
          | some m =>
            rw [hF (by simp only [hh, hl, lost, hr]; rfl)]
            obtain ⟨h1, h2⟩ := hρ M m hr
            simp only [OB]
            have hem : env' m = env M := by simp only [env', h2]
            have hdm : D' m := ⟨h1, by rw [h2]; exact q3⟩
            have al : ∀ j', alN (some (j, m)) j' = none → alN (some (j, M)) j' = none := fun j' hj => by
              simp only [alN] at hj ⊢
              split at hj
              · cases hj
              · rename_i hne; rw [if_neg hne]
            have al' : ∀ j', alN (some (j, M)) j' = none → alN (some (j, m)) j' = none := fun j' hj => by
              simp only [alN] at hj ⊢
              split at hj
              · cases hj
              · rename_i hne; rw [if_neg hne]
            refine ⟨us, ⟨k1.own, k1.flat, fun i u x a b c => k1.row i u x a b (al i c), fun i' M' e => ?_, fun i j u u' b hij a1 a2 => k1.dj i j u u' b hij (al i a1) (al j a2), fun i u b a1 => k1.out i u b (al i a1)⟩, ?_⟩
            · simp only [Option.some.injEq, Prod.mk.injEq] at e
              obtain ⟨rfl, rfl⟩ := e
              exact ⟨q1, by rw [hem]; exact q2, hdm⟩
            · rw [k2]
              funext b o
              apply propext
              constructor
              · rintro (hb | ⟨i, u, a1, a2, a3⟩)
                · exact .inl hb
                · exact .inr ⟨i, u, al' i a1, a2, a3⟩
              · rintro (hb | ⟨i, u, a1, a2, a3⟩)
                · exact .inl hb
                · exact .inr ⟨i, u, al i a1, a2, a3⟩
        | _ =>
          rw [hF (by simp only [hh, hl, lost])]
          rw [hl] at hob
          obtain ⟨k1, k2⟩ := (OB_plain rfl).1 hob
          refine (OB_plain ?_).2 ⟨p2 _ _ k1, k2⟩
          simp only [PV.ren, PV.ren1]
          repeat' split
          all_goals rfl
      · rw [if_neg hi]
        simp only [OB, PR, F', if_neg hi]
        exact ⟨trivial, trivial⟩
    · obtain ⟨a1, a2⟩ := hsub i b o h1
      obtain ⟨b1, b2⟩ := hsub j b o h2
      refine h.dj _ _ b o (fun e => hne ?_) a2 b2
      have e1 := hat i a1
      rw [e, ← hat j b1] at e1
      exact (List.getElem?_inj a1 hnd).1 e1
    · rw [hlook]
      split
      · rename_i hi'
        have : ¬ D (n2.getD i 0) := fun hd => hi ⟨hi', hd⟩
        have : hh (n2.getD i 0) = .dead := h.dm _ this
        rw [this]
        rfl
      · rfl
  exact R.grow (R.of key) fun i hi => hi.1
theorem R.canon (h : R X W0 w0 D σ a w) (L : List Nat) : R X W0 w0 (fun M => M < (σ.canon L).nx) (σ.canon L) a w := R.canon0 (R.settle _ _ h) L
end
end Go.Proofs.Ytlpooghphoohcaa.R
/- Pieces of a code, each behind its own name, counted down. -/
namespace Go.Proofs.Ytlpooghphoohcaa.R
open Go.RowKit
set_option linter.unusedVariables false
set_option linter.unusedSimpArgs false

def Piece.code : Piece → Code
  | .loop c _ => c
  | .rest c _ => c
def Piece.at_ : Piece → Nat
  | .loop _ m => m
  | .rest _ m => m
theorem piece_sub {c : Code} {n i j : Nat} {pc pc' : Piece} : pieceAt c n i = some pc → pieceAt pc.code pc.at_ j = some pc' → pieceAt c n j = some pc' := by
  induction c generalizing n with
  | seq a b iha ihb =>
    intro h h'
    simp only [pieceAt] at h ⊢
    split at h
    · injection h with h
      subst h
      have := piece_range _ _ _ _ h'
      simp only [Piece.code, Piece.at_] at h' this
      rw [if_neg (by omega), if_neg (by omega)]
      exact h'
    · split at h
      · have h2 := iha h h'
        have := piece_range _ _ _ _ h2
        rw [if_neg (by omega), if_pos (by omega)]
        exact h2
      · have h2 := ihb h h'
        have := piece_range _ _ _ _ h2
        rw [if_neg (by omega), if_neg (by omega)]
        exact h2
  | cond x a b iha ihb =>
    intro h h'
    simp only [pieceAt] at h ⊢
    split at h
    · have h2 := iha h h'
      have := piece_range _ _ _ _ h2
      rw [if_pos (by omega)]
      exact h2
    · have h2 := ihb h h'
      have := piece_range _ _ _ _ h2
      rw [if_neg (by omega)]
      exact h2
  | block id a iha =>
    intro h h'
    simp only [pieceAt] at h ⊢
    exact iha h h'
  | loop a iha =>
    intro h h'
    simp only [pieceAt] at h ⊢
    split at h
    · injection h with h
      subst h
      have := piece_range _ _ _ _ h'
      simp only [Piece.code, Piece.at_] at h' this
      rw [if_neg (by omega)]
      exact h'
    · have h2 := iha h h'
      have := piece_range _ _ _ _ h2
      rw [if_neg (by omega)]
      exact h2
  | _ => intro h; simp [pieceAt] at h
theorem piece_noDst {T : List Nat} {c : Code} {n i : Nat} {pc : Piece} : noDst T c = true → pieceAt c n i = some pc → noDst T pc.code = true := by
  induction c generalizing n with
  | seq a b iha ihb =>
    intro hT h
    simp only [noDst, Bool.and_eq_true] at hT
    simp only [pieceAt] at h
    split at h
    · injection h with h; subst h; exact hT.2
    · split at h
      · exact iha hT.1 h
      · exact ihb hT.2 h
  | cond x a b iha ihb =>
    intro hT h
    simp only [noDst, Bool.and_eq_true] at hT
    simp only [pieceAt] at h
    split at h
    · exact iha hT.1 h
    · exact ihb hT.2 h
  | block id a iha =>
    intro hT h
    simp only [noDst] at hT
    simp only [pieceAt] at h
    exact iha hT h
  | loop a iha =>
    intro hT h
    simp only [noDst] at hT
    simp only [pieceAt] at h
    split at h
    · injection h with h; subst h; exact hT
    · exact iha hT h
  | _ => intro _ h; simp [pieceAt] at h
theorem RS.canon {T : List Nat} {V : Nat → Value} {X W0 : Foot} {w0 : World} {σ : St} {a : Act} {w : World} (h : RS T V X W0 w0 σ a w) (L : List Nat) : RS T V X W0 w0 (σ.canon L) a w := ⟨h.1.canon L, h.2⟩
section
variable {P : Program} {C : Hd Prop} {io : FuncId → List Bool}
/-- What a piece is, one count up. -/
def stepP (P : Program) (C : Hd Prop) (io : FuncId → List Bool) (cut : Nat → Bool) (keep : Nat → List Nat) (keepX : Nat → Exit → List Nat) (D : Nat → (Exit → St → Prop) → St → Prop) (i : Nat) (K : Exit → St → Prop) (σ : St) : Piece → Prop
  | .loop c m => exec P C io False cut D c m (fun e σ' => match e with
      | .normal => D i K σ'
      | e => K e (σ'.canon (keepX i e))) (σ.canon (keep i))
  | .rest c m => exec P C io False cut D c m (fun e σ' => K e (σ'.canon (keepX i e))) (σ.canon (keep i))
theorem disp1 (hm : P.follows .mixedOrders = true) (hC : HdOk P C) {T : List Nat} {cut : Nat → Bool} {keep : Nat → List Nat} {keepX : Nat → Exit → List Nat} {c0 : Code} (hT : noDst T c0 = true)
    {D D' : Nat → (Exit → St → Prop) → St → Prop} (ih : LamOk P T c0 0 D)
    (hs : ∀ i pc K σ, pieceAt c0 0 i = some pc → D' i K σ → stepP P C io cut keep keepX D i K σ pc) : LamOk P T c0 0 D' := by
    intro i pc K σ hp h
    have h := hs i pc K σ hp h
    have hTc := piece_noDst hT hp
    cases pc with
    | loop c m =>
      simp only [stepP] at h
      obtain ⟨e1, σ1, hk, h1⟩ := exec_ok hm hC c m hTc (ih.sub fun j pc' hp' => piece_sub hp hp') _ _ h
      have done : ∀ e, e1 = e → e ≠ .normal → K e (σ1.canon (keepX i e)) → ∃ e σ', K e σ' ∧ PieceOk P T (.loop c m) σ e σ' := by
        rintro e rfl hne hk
        refine ⟨_, _, hk, 1, fun V X W0 w0 Q a w hR hQ => ?_⟩
        refine h1 V X W0 w0 _ a w (hR.canon _) fun a' w' hR' => ?_
        have := hQ a' w' (hR'.canon _)
        cases e1 <;> first | exact (hne rfl).elim | exact this
      cases e1 with
      | normal =>
        obtain ⟨e, σ', hk', n, h2⟩ := ih i (.loop c m) K σ1 hp hk
        exact ⟨e, σ', hk', n + 1, fun V X W0 w0 Q a w hR hQ => h1 V X W0 w0 _ a w (hR.canon _) fun a' w' hR' => h2 V X W0 w0 Q a' w' hR' hQ⟩
      | exit j => exact done _ rfl (by simp) hk
      | goto j => exact done _ rfl (by simp) hk
      | ret => exact done _ rfl (by simp) hk
      | panic j => exact done _ rfl (by simp) hk
      | outgrown => exact done _ rfl (by simp) hk
    | rest c m =>
      simp only [stepP] at h
      obtain ⟨e1, σ1, hk, h1⟩ := exec_ok hm hC c m hTc (ih.sub fun j pc' hp' => piece_sub hp hp') _ _ h
      exact ⟨_, _, hk, fun V X W0 w0 Q a w hR hQ => h1 V X W0 w0 _ a w (hR.canon _) fun a' w' hR' => hQ a' w' (hR'.canon _)⟩
theorem disp_ok {C : Nat → Hd Prop} (hm : P.follows .mixedOrders = true) (hC : ∀ k, HdOk P (C k)) {T : List Nat} {cut : Nat → Bool} {keep : Nat → List Nat} {keepX : Nat → Exit → List Nat} {c0 : Code} (hT : noDst T c0 = true)
    {D : Nat → Nat → (Exit → St → Prop) → St → Prop} (h0 : ∀ i K σ, ¬ D 0 i K σ)
    (hs : ∀ k i pc K σ, pieceAt c0 0 i = some pc → D (k + 1) i K σ → stepP P (C k) io cut keep keepX (D k) i K σ pc) : ∀ k, LamOk P T c0 0 (D k)
  | 0 => fun i pc K σ _ h => (h0 i K σ h).elim
  | k + 1 => by
    intro i pc K σ hp h
    have ih := disp_ok hm hC hT h0 hs k
    have h := hs k i pc K σ hp h
    have hTc := piece_noDst hT hp
    cases pc with
    | loop c m =>
      simp only [stepP] at h
      obtain ⟨e1, σ1, hk, h1⟩ := exec_ok hm (hC k) c m hTc (ih.sub fun j pc' hp' => piece_sub hp hp') _ _ h
      have done : ∀ e, e1 = e → e ≠ .normal → K e (σ1.canon (keepX i e)) → ∃ e σ', K e σ' ∧ PieceOk P T (.loop c m) σ e σ' := by
        rintro e rfl hne hk
        refine ⟨_, _, hk, 1, fun V X W0 w0 Q a w hR hQ => ?_⟩
        refine h1 V X W0 w0 _ a w (hR.canon _) fun a' w' hR' => ?_
        have := hQ a' w' (hR'.canon _)
        cases e1 <;> first | exact (hne rfl).elim | exact this
      cases e1 with
      | normal =>
        obtain ⟨e, σ', hk', n, h2⟩ := ih i (.loop c m) K σ1 hp hk
        exact ⟨e, σ', hk', n + 1, fun V X W0 w0 Q a w hR hQ => h1 V X W0 w0 _ a w (hR.canon _) fun a' w' hR' => h2 V X W0 w0 Q a' w' hR' hQ⟩
      | exit j => exact done _ rfl (by simp) hk
      | goto j => exact done _ rfl (by simp) hk
      | ret => exact done _ rfl (by simp) hk
      | panic j => exact done _ rfl (by simp) hk
      | outgrown => exact done _ rfl (by simp) hk
    | rest c m =>
      simp only [stepP] at h
      obtain ⟨e1, σ1, hk, h1⟩ := exec_ok hm (hC k) c m hTc (ih.sub fun j pc' hp' => piece_sub hp hp') _ _ h
      exact ⟨_, _, hk, fun V X W0 w0 Q a w hR hQ => h1 V X W0 w0 _ a w (hR.canon _) fun a' w' hR' => hQ a' w' (hR'.canon _)⟩
end
end Go.Proofs.Ytlpooghphoohcaa.R
/- Functions: how they begin, what they hand back. -/
namespace Go.Proofs.Ytlpooghphoohcaa.R
open Go.RowKit
set_option linter.unusedVariables false
set_option linter.unusedSimpArgs false

theorem initSl_get : (args : List PV) → (k i : Nat) → (initSl args k)[i]? = (args[i]?).map fun p => if isIo p then .ref (k + i) else p
  | [], k, i => by simp [initSl]
  | p :: ps, k, 0 => by simp [initSl]
  | p :: ps, k, i + 1 => by
    simp only [initSl, List.getElem?_cons_succ, initSl_get ps]
    rw [show k + 1 + i = k + (i + 1) by omega]
theorem initSl_len : (args : List PV) → (k : Nat) → (initSl args k).length = args.length
  | [], k => rfl
  | p :: ps, k => by simp [initSl, initSl_len ps]
theorem initOb_look : (args : List PV) → (k N : Nat) → look (initOb args k) N = if k ≤ N then (match args[N - k]? with | some p => if isIo p then p else .dead | none => .dead) else .dead
  | [], k, N => by simp [initOb, look]
  | p :: ps, k, N => by
    simp only [initOb]
    by_cases h1 : k + 1 ≤ N
    · have h2 : look (initOb ps (k + 1)) N = (match (p :: ps)[N - k]? with | some p => if isIo p then p else .dead | none => .dead) := by
        rw [initOb_look ps, if_pos h1]
        obtain ⟨d, hd⟩ : ∃ d, N - k = d + 1 := ⟨N - k - 1, by omega⟩
        rw [hd, show N - (k + 1) = d by omega, List.getElem?_cons_succ]
      rw [if_pos (show k ≤ N by omega)]
      split
      · simp only [look]
        rw [if_neg (show ¬ k = N by omega)]
        exact h2
      · exact h2
    · have h2 : look (initOb ps (k + 1)) N = .dead := by rw [initOb_look ps, if_neg h1]
      by_cases e : k = N
      · subst e
        simp only [Nat.le_refl, if_true, Nat.sub_self, List.getElem?_cons_zero]
        split
        · simp [look]
        · rw [h2]
      · rw [if_neg (show ¬ k ≤ N by omega)]
        split
        · simp only [look]; rw [if_neg e]; exact h2
        · exact h2
section
variable {X : Foot} {w : World} {args : List PV} {vals : List Value} {Fs : Nat → Foot}
theorem init_ok (h : FnPre X w args vals Fs) {n : Nat} (hn : args.length ≤ n) :
    R X (Un Fs) w (fun M => M < (initSt args n).nx) (initSt args n) { tmps := vals.toArray ++ Array.replicate (n - vals.toArray.size) undef, defers := [] } w := by
  obtain ⟨⟨hl, harg, hno, hdj⟩, hxf, hlt, hxl⟩ := h
  have hlook : ∀ N, look (initSt args n).ob N = (match args[N]? with | some p => if isIo p then p else .dead | none => .dead) := by
    intro N
    show look (initOb args 0) N = _
    rw [initOb_look]
    simp
  have hempty : ∀ N p, args[N]? = some p → isIo p = false → Fs N = fun _ _ => False := by
    intro N p hp hio
    have hi : N < vals.length := by have := (List.getElem?_eq_some_iff.1 hp).1; omega
    exact ((OB_plain (hasPlain hio)).1 (harg N p vals[N] hp (List.getElem?_eq_getElem hi))).2
  let D : Nat → Prop := fun i => ∃ p, args[i]? = some p ∧ isIo p = true
  have hs : Stb w (fun b o => X b o ∨ Un Fs b o) w (Ow X Fs) := fun b o u h1 h2 => ⟨h1, h2⟩
  refine R.grow (D := D) ⟨fun i => vals.getD i undef, Fs, ?_⟩ fun i ⟨p, hp, _⟩ => (List.getElem?_eq_some_iff.1 hp).1
  refine ⟨?_, rfl, fun t => ?_, fun N => ?_, fun M N b o hne h1 h2 => hdj M N b o hne h1 h2, hxf, hlt, hxl, fun N b o h1 _ => ⟨N, h1⟩, Keep.refl _ _, fun N hN => ?_, fun N hN => ?_⟩
  · simp only [initSt, List.length_append, initSl_len, List.length_replicate, Array.size_append, List.size_toArray, Array.size_replicate]
    omega
  · have hg : (initSt args n).get t = (match args[t]? with | some p => if isIo p then .ref t else p | none => .dead) := by
      simp only [St.get, initSt, List.getD_eq_getElem?_getD, List.getElem?_append, initSl_len]
      by_cases ht : t < args.length
      · rw [if_pos ht, initSl_get]
        simp [ht]
      · rw [if_neg ht, List.getElem?_eq_none_iff.2 (by omega : args.length ≤ t)]
        simp only [List.getElem?_replicate]
        split <;> rfl
    rw [hg]
    cases hp : args[t]? with
    | none => simp only [PR]
    | some p =>
      have hi : t < vals.length := by have := (List.getElem?_eq_some_iff.1 hp).1; omega
      have hv : (vals.toArray ++ Array.replicate (n - vals.toArray.size) undef).getD t undef = vals[t] := by
        simp [Array.getD_eq_getD_getElem?, Array.getElem?_append, hi]
      have hv2 : vals.getD t undef = vals[t] := by simp [List.getD_eq_getElem?_getD, hi]
      rw [hv]
      dsimp only
      split
      · rename_i hio
        simp only [PR]
        exact ⟨⟨p, hp, hio⟩, hv2.symm⟩
      · rename_i hio
        have := ((OB_plain (hasPlain (by simpa using hio))).1 (harg t p vals[t] hp (List.getElem?_eq_getElem hi))).1
        exact PR.mono hs (fun _ h => h.elim) (fun _ h => h.elim) _ _ this
  · rw [hlook]
    cases hp : args[N]? with
    | none =>
      simp only [OB, PR]
      exact ⟨trivial, hno N (List.getElem?_eq_none_iff.1 hp)⟩
    | some p =>
      have hi : N < vals.length := by have := (List.getElem?_eq_some_iff.1 hp).1; omega
      dsimp only
      split
      · rename_i hio
        have hv2 : vals.getD N undef = vals[N] := by simp [List.getD_eq_getElem?_getD, hi]
        rw [hv2]
        exact OB_mv (fun _ => hs) (harg N p vals[N] hp (List.getElem?_eq_getElem hi))
      · rename_i hio
        simp only [OB, PR]
        exact ⟨trivial, hempty N p hp (by simpa using hio)⟩
  · rw [hlook]
    cases hp : args[N]? with
    | none => rfl
    | some p =>
      dsimp only
      split
      · rename_i hio; exact (hN ⟨p, hp, hio⟩).elim
      · rfl
  · obtain ⟨p, hp, hio⟩ := hN
    have hi : N < vals.length := by have := (List.getElem?_eq_some_iff.1 hp).1; omega
    have hv2 : vals.getD N undef = vals[N] := by simp [List.getD_eq_getElem?_getD, hi]
    rw [hv2]
    exact OB_hd hio (harg N p vals[N] hp (List.getElem?_eq_getElem hi))
end
/-! results -/
section
variable {X W0 : Foot} {w0 : World} {D : Nat → Prop} {σ : St} {a : Act} {w : World} {env : Nat → Value} {F : Nat → Foot} {P : Program}
def runVar (a : Act) : ResultVar → Sem Value
  | .tmp t => pure (a.tmps.getD t undef)
  | .cell p t => do loadVar t (← asAddr (a.tmps.getD p undef))
theorem resVar_ok (hR : Rl X W0 w0 D σ a w env F) {r : ResultVar} {p : PV} (h : resVar P (look σ.ob) σ r = some p) : ∃ v, (runVar a r).run P w = .ok v w ∧ PR env D w (Ow X F) p v := by
  have hv : Vw (look σ.ob) σ := fun N => .inl rfl
  cases r with
  | tmp t =>
    simp only [resVar, Option.some.injEq] at h
    subst h
    exact ⟨_, rfl, hR.sl t⟩
  | cell x t =>
    simp only [resVar] at h
    split at h
    · rename_i hst
      split at h
      · rename_i hle
        injection h with h
        subst h
        obtain ⟨fs, hu⟩ := isSt_spec hst
        have hi : ∃ i, P.info? t = some i := by
          unfold Program.underlying at hu
          cases hh : P.info? t with
          | none => simp [hh] at hu
          | some i => exact ⟨i, rfl⟩
        obtain ⟨i, hi⟩ := hi
        have hne : atP (look σ.ob) (σ.get x) ≠ [] := by
          intro e
          rw [e] at hle
          simp at hle
          omega
        obtain ⟨b, of, us, hva, h1, h2⟩ := hR.at_ hv (hR.sl x) hne
        have hl := h1.len
        have hle := hle.2
        refine ⟨.agg (us.take (szOf P t)).toArray, ?_, by simp only [PR]; exact ⟨_, rfl, h1.take _⟩⟩
        have hlc := run_loadCells_list (P := P) (w := w) ⟨b, of, none⟩ (us.take (szOf P t)) (fun j v hj => by
          rw [List.getElem?_take] at hj
          split at hj
          · rw [add_at]; exact h2 j v hj
          · cases hj)
        rw [List.length_take, Nat.min_eq_left (by omega)] at hlc
        rw [szOf_info hi] at hlc ⊢
        simp [runVar, asAddr, hva, loadVar, run_isAgg_st hst, sizeOf, typeInfo, hi, hlc]
      · cases h
    · split at h
      · rename_i c cs hpl hat
        injection h with h
        subst h
        obtain ⟨b, of, us, hva, h1, h2⟩ := hR.at_ hv (hR.sl x) (by rw [hat]; simp)
        rw [hat] at h1
        simp only [PRs] at h1
        obtain ⟨u, us', rfl, hu, _⟩ := h1
        have hc := h2 0 u rfl
        refine ⟨u, ?_, hu⟩
        simp only [cl, Nat.add_zero] at hc
        simp [runVar, asAddr, hva, loadVar, run_isAgg_pl hpl, hc]
      · cases h
theorem resVars_ok (hR : Rl X W0 w0 D σ a w env F) : (rs : List ResultVar) → (ps : List PV) → resVars P (look σ.ob) σ rs = some ps → ∃ vs, (rs.mapM (runVar a)).run P w = .ok vs w ∧ PRs env D w (Ow X F) ps vs
  | [], ps, h => by
    simp only [resVars, Option.some.injEq] at h
    subst h
    exact ⟨[], rfl, by simp [PRs]⟩
  | r :: rs, ps, h => by
    simp only [resVars] at h
    split at h
    · rename_i p ps' h1 h2
      injection h with h
      subst h
      obtain ⟨v, e1, e2⟩ := resVar_ok hR h1
      obtain ⟨vs, e3, e4⟩ := resVars_ok hR rs ps' h2
      refine ⟨v :: vs, ?_, by simp only [PRs]; exact ⟨v, vs, rfl, e2, e4⟩⟩
      rw [List.mapM_cons, Sem.run_bind, e1]
      simp only [Result.andThen_ok, Sem.run_bind, e3]
      rfl
    · cases h
theorem results_ok (hR : Rl X W0 w0 D σ a w env F) {fn : Func} {ps : List PV} (h : resVars P (look σ.ob) σ fn.results.toList = some ps) :
    ∃ vs, (results fn a.tmps).run P w = .ok (if h : vs.toArray.size = 1 then vs.toArray[0] else .tuple vs.toArray) w ∧ PRs env D w (Ow X F) ps vs := by
  obtain ⟨vs, h1, h2⟩ := resVars_ok hR _ _ h
  refine ⟨vs, ?_, h2⟩
  have e : results fn a.tmps = (do let vs ← fn.results.mapM (runVar a); pure (if h : vs.size = 1 then vs[0] else .tuple vs)) := by
    unfold results
    congr 1
    try (congr 1; funext r; cases r <;> rfl)
  rw [e, Sem.run_bind, Array.mapM_eq_mapM_toList]
  simp only [map_eq_pure_bind, Sem.run_bind, h1, Result.andThen_ok]
  rfl
end
end Go.Proofs.Ytlpooghphoohcaa.R
/- Functions: what they do to their arguments' memory. -/
namespace Go.Proofs.Ytlpooghphoohcaa.R
open Go.RowKit
set_option linter.unusedVariables false
set_option linter.unusedSimpArgs false

theorem distinct_flat {α : Type _} {f : α → List Nat} : (l : List α) → distinct (l.flatMap f) = true → (∀ (i j : Nat) (x y : α), i < j → l[i]? = some x → l[j]? = some y → ∀ N, N ∈ f x → N ∉ f y) ∧ ∀ x, x ∈ l → distinct (f x) = true
  | [], h => ⟨fun i j x y _ hx => by simp at hx, fun x hx => by simp at hx⟩
  | z :: l, h => by
    rw [List.flatMap_cons] at h
    obtain ⟨h1, h2⟩ := distinct_append _ _ h
    obtain ⟨h3, h4⟩ := distinct_flat l h1
    have h5 : distinct (f z) = true := by
      clear h1 h2 h3 h4
      revert h
      generalize f z = m
      generalize l.flatMap f = r
      intro h
      induction m with
      | nil => rfl
      | cons a m ih =>
        simp only [List.cons_append, distinct, Bool.and_eq_true, Bool.not_eq_true', List.contains_eq_mem] at h ⊢
        refine ⟨?_, ih h.2⟩
        have := h.1
        simp at this ⊢
        exact this.1
    refine ⟨fun i j x y hij hx hy N hN hN' => ?_, fun x hx => ?_⟩
    · cases j with
      | zero => omega
      | succ j =>
        rw [List.getElem?_cons_succ] at hy
        cases i with
        | zero =>
          simp at hx
          subst hx
          exact h2 N hN (List.mem_flatMap.2 ⟨y, List.mem_of_getElem? hy, hN'⟩)
        | succ i =>
          rw [List.getElem?_cons_succ] at hx
          exact h3 i j x y (by omega) hx hy N hN hN'
    · rcases List.mem_cons.1 hx with rfl | hx
      · exact h5
      · exact h4 x hx
theorem distinct_flat_ne {α : Type _} {f : α → List Nat} {l : List α} (h : distinct (l.flatMap f) = true) {i j : Nat} {x y : α} (hij : i ≠ j) (hx : l[i]? = some x) (hy : l[j]? = some y) {N : Nat} (hN : N ∈ f x) : N ∉ f y := by
  intro hN'
  rcases Nat.lt_or_gt_of_ne hij with hlt | hgt
  · exact (distinct_flat l h).1 i j x y hlt hx hy N hN hN'
  · exact (distinct_flat l h).1 j i y x hgt hy hx N hN' hN
/-- What is known of an argument that was written. -/
def OutOf (h : Nat → PV) (σ : St) (args : List PV) (k i : Nat) (q : PV) (ns rn : List Nat) : Prop :=
  ∃ N p, args[i - k]? = some p ∧ k ≤ i ∧ σ.get i = .ref N ∧ N ∈ ns ∧ ((isIo p = true ∧ (∃ e t xs, p = .row e t xs) ∧ ∃ e t xs, h N = .row e t xs ∧ q = .row e t xs) ∨ ∃ cs ds, p = .box cs ∧ h N = .box ds ∧ ds.length = cs.length ∧ q = .box (ds.map (rd1 h)) ∧ ∀ M, M ∈ nmL ds → M ∈ rn)
theorem outsOf_spec {h : Nat → PV} {σ : St} : (args : List PV) → (k : Nat) → (os : List PV) → (ns rn : List Nat) → outsOf h σ args k = some (os, ns, rn) →
    os.length = (ioIdx args k).length ∧ ∀ (j i : Nat) q, (ioIdx args k)[j]? = some i → os[j]? = some q → OutOf h σ args k i q ns rn
  | [], k, os, ns, rn, he => by
    simp only [outsOf, Option.some.injEq, Prod.mk.injEq] at he
    obtain ⟨rfl, rfl, rfl⟩ := he
    exact ⟨rfl, fun j i q h1 => by simp [ioIdx] at h1⟩
  | p :: ps, k, os, ns, rn, he => by
    simp only [outsOf] at he
    by_cases hio : isIo p = true
    · rw [if_pos hio] at he
      split at he
      · rename_i N os' ns' rn' hget hrec
        obtain ⟨h1, h2⟩ := outsOf_spec ps (k + 1) os' ns' rn' hrec
        have up : ∀ {i q rn''}, (∀ M, M ∈ rn' → M ∈ rn'') → OutOf h σ ps (k + 1) i q ns' rn' → OutOf h σ (p :: ps) k i q (N :: ns') rn'' := by
          rintro i q rn'' hsub ⟨N', p', e1, e2, e3, e4, e5⟩
          obtain ⟨d, hd⟩ : ∃ d, i - k = d + 1 := ⟨i - k - 1, by omega⟩
          refine ⟨N', p', by rw [hd, List.getElem?_cons_succ, show d = i - (k + 1) by omega]; exact e1, by omega, e3, by simp [e4], ?_⟩
          rcases e5 with e5 | ⟨cs, ds, f1, f2, f3, f4, f5⟩
          · exact .inl e5
          · exact .inr ⟨cs, ds, f1, f2, f3, f4, fun M hM => hsub M (f5 M hM)⟩
        split at he
        · rename_i hh
          simp only [Option.some.injEq, Prod.mk.injEq] at he
          obtain ⟨rfl, rfl, rfl⟩ := he
          refine ⟨by simp [ioIdx, hio, h1], fun j i q g1 g2 => ?_⟩
          simp only [ioIdx, if_pos hio] at g1
          cases j with
          | zero =>
            simp at g1 g2
            subst g1 g2
            exact ⟨N, _, by simp, Nat.le_refl _, hget, by simp, .inl ⟨hio, ⟨_, _, _, rfl⟩, _, _, _, hh, rfl⟩⟩
          | succ j =>
            rw [List.getElem?_cons_succ] at g1 g2
            exact up (fun _ h => h) (h2 j i q g1 g2)
        · rename_i cs ds hh
          split at he
          · rename_i hlen
            simp only [Option.some.injEq, Prod.mk.injEq] at he
            obtain ⟨rfl, rfl, rfl⟩ := he
            refine ⟨by simp [ioIdx, hio, h1], fun j i q g1 g2 => ?_⟩
            simp only [ioIdx, if_pos hio] at g1
            cases j with
            | zero =>
              simp at g1 g2
              subst g1 g2
              exact ⟨N, _, by simp, Nat.le_refl _, hget, by simp, .inr ⟨_, _, rfl, hh, hlen, rfl, fun M hM => by simp [hM]⟩⟩
            | succ j =>
              rw [List.getElem?_cons_succ] at g1 g2
              exact up (fun M h => by simp [h]) (h2 j i q g1 g2)
          · cases he
        · cases he
      · cases he
    · rw [if_neg hio] at he
      obtain ⟨h1, h2⟩ := outsOf_spec ps (k + 1) os ns rn he
      refine ⟨by simp [ioIdx, hio, h1], fun j i q g1 g2 => ?_⟩
      simp only [ioIdx, if_neg hio] at g1
      obtain ⟨N', p', e1, e2, e3, e4, e5⟩ := h2 j i q g1 g2
      obtain ⟨d, hd⟩ : ∃ d, i - k = d + 1 := ⟨i - k - 1, by omega⟩
      exact ⟨N', p', by rw [hd, List.getElem?_cons_succ, show d = i - (k + 1) by omega]; exact e1, by omega, e3, e4, e5⟩
theorem ioIdx_mem : (args : List PV) → (k i : Nat) → (p : PV) → args[i]? = some p → isIo p = true → ∃ (j : Nat), (ioIdx args k)[j]? = some (k + i)
  | [], k, i, p, h, _ => by simp at h
  | q :: ps, k, 0, p, h, hio => by
    simp at h
    subst h
    exact ⟨0, by simp [ioIdx, hio]⟩
  | q :: ps, k, i + 1, p, h, hio => by
    obtain ⟨j, hj⟩ := ioIdx_mem ps (k + 1) i p (by simpa using h) hio
    rw [show k + 1 + i = k + (i + 1) by omega] at hj
    simp only [ioIdx]
    split
    · exact ⟨j + 1, by simpa using hj⟩
    · exact ⟨j, hj⟩
theorem rd_noTup (h : Nat → PV) (p : PV) : (∀ cs, rd h p ≠ .tup cs) := by
  have r1 : ∀ q cs, rd1 h q ≠ .tup cs := by
    intro q cs
    unfold rd1
    repeat' split
    all_goals simp
  intro cs
  cases p <;> simp only [rd] <;> first | exact r1 _ _ | simp | skip
  split
  · simp
  · exact r1 _ _
theorem rd_noAgg (h : Nat → PV) {p : PV} (hp : ∀ cs, p ≠ .agg cs) : (∀ cs, rd h p ≠ .agg cs) := by
  have r1 : ∀ q cs, rd1 h q ≠ .agg cs := by
    intro q cs
    unfold rd1
    repeat' split
    all_goals simp
  intro cs
  cases p <;> simp only [rd] <;> first | exact r1 _ _ | exact absurd rfl (hp _) | simp | skip
  split
  · simp
  · exact r1 _ _
theorem zipD_get {α β : Type} (d : α) : (as : List α) → (bs : List β) → (i : Nat) → (zipD d as bs)[i]? = (bs[i]?).map fun b => (as.getD i d, b)
  | as, [], i => by cases as <;> simp [zipD]
  | [], b :: bs, 0 => by simp [zipD]
  | [], b :: bs, i + 1 => by
    simp only [zipD, List.getElem?_cons_succ, zipD_get d [] bs i]
    simp
  | a :: as, b :: bs, 0 => by simp [zipD]
  | a :: as, b :: bs, i + 1 => by
    simp only [zipD, List.getElem?_cons_succ, zipD_get d as bs i]
    simp
theorem zipD_len {α β : Type} (d : α) : (as : List α) → (bs : List β) → (zipD d as bs).length = bs.length
  | as, [] => by cases as <;> rfl
  | [], b :: bs => by simp [zipD, zipD_len d [] bs]
  | a :: as, b :: bs => by simp [zipD, zipD_len d as bs]
theorem ex1_cases (h : Nat → PV) (c : Fm × PV) :
    (∃ N e t xs, c.2 = .ref N ∧ h N = .row e t xs ∧ ex1 h c = .row e t xs ∧ exN1 h c = [N]) ∨
    (∃ N cs, c.2 = .ref N ∧ h N = .box cs ∧ ex1 h c = .box (cs.map (rd1 h)) ∧ exN1 h c = [N] ∧ rdN1 h c = nmL cs) ∨
    (∃ N e e' t xs, c.2 = .ref N ∧ h N = .mat e e' t xs ∧ ex1 h c = .mat e e' t xs ∧ exN1 h c = [N]) ∨
    (ex1 h c = rd h c.2 ∧ exN1 h c = []) ∨
    (∃ e t, c.2 = .nil ∧ ex1 h c = .row e t [] ∧ exN1 h c = []) ∨
    (∃ t, c.2 = .nil ∧ ex1 h c = .val (.sl t) [] ∧ exN1 h c = []) := by
  obtain ⟨f, p⟩ := c
  have hr : ∀ N, (∃ e t xs, h N = .row e t xs) ∨ (∃ cs, h N = .box cs) ∨ (∃ e e' t xs, h N = .mat e e' t xs) ∨ ho1 h N = rd h (.ref N) ∧ (match h N with | .row _ _ _ => [N] | .box _ => [N] | .mat _ _ _ _ => [N] | _ => ([] : List Nat)) = [] := by
    intro N
    unfold ho1
    cases h N <;> simp
  cases f with
  | shr t =>
    cases p <;> first | exact .inr (.inr (.inr (.inl ⟨rfl, rfl⟩))) | exact .inr (.inr (.inr (.inr (.inr ⟨t, rfl, rfl, rfl⟩))))
  | any =>
    cases p <;> first | exact .inr (.inr (.inr (.inl ⟨rfl, rfl⟩))) | skip
    rename_i N
    rcases hr N with ⟨e, t, xs, hN⟩ | ⟨cs, hN⟩ | ⟨e, e', t, xs, hN⟩ | ⟨h1, h2⟩
    · exact .inl ⟨N, e, t, xs, rfl, hN, by simp [ex1, ho1, hN], by simp [exN1, hN]⟩
    · exact .inr (.inl ⟨N, cs, rfl, hN, by simp [ex1, ho1, hN], by simp [exN1, hN], by simp [rdN1, exN1, hN]⟩)
    · exact .inr (.inr (.inl ⟨N, e, e', t, xs, rfl, hN, by simp [ex1, ho1, hN], by simp [exN1, hN]⟩))
    · exact .inr (.inr (.inr (.inl ⟨h1, h2⟩)))
  | own e t =>
    cases p <;> first | exact .inr (.inr (.inr (.inl ⟨rfl, rfl⟩))) | exact .inr (.inr (.inr (.inr (.inl ⟨e, t, rfl, rfl, rfl⟩)))) | skip
    rename_i N
    rcases hr N with ⟨e, t, xs, hN⟩ | ⟨cs, hN⟩ | ⟨e, e', t, xs, hN⟩ | ⟨h1, h2⟩
    · exact .inl ⟨N, e, t, xs, rfl, hN, by simp [ex1, ho1, hN], by simp [exN1, hN]⟩
    · exact .inr (.inl ⟨N, cs, rfl, hN, by simp [ex1, ho1, hN], by simp [exN1, hN], by simp [rdN1, exN1, hN]⟩)
    · exact .inr (.inr (.inl ⟨N, e, e', t, xs, rfl, hN, by simp [ex1, ho1, hN], by simp [exN1, hN]⟩))
    · exact .inr (.inr (.inr (.inl ⟨h1, h2⟩)))
theorem ex1_no (h : Nat → PV) (c : Fm × PV) : (∀ cs, ex1 h c ≠ .tup cs) ∧ ((∀ cs, c.2 ≠ .agg cs) → ∀ cs, ex1 h c ≠ .agg cs) := by
  rcases ex1_cases h c with ⟨N, e, t, xs, _, _, hx, _⟩ | ⟨N, cs, _, _, hx, _⟩ | ⟨N, e, e', t, xs, _, _, hx, _⟩ | ⟨hx, _⟩ | ⟨e, t, _, hx, _⟩ | ⟨t, _, hx, _⟩ <;> rw [hx]
  · exact ⟨by simp, by simp⟩
  · exact ⟨by simp, by simp⟩
  · exact ⟨by simp, by simp⟩
  · exact ⟨rd_noTup h c.2, fun hn => rd_noAgg h hn⟩
  · exact ⟨by simp, by simp⟩
  · exact ⟨by simp, by simp⟩
theorem exc_cells (h : Nat → PV) (c : List Fm × PV) : (exc h c).cells = (zipD .any c.1 c.2.cells).map (ex1 h) ∧ ((∃ cs, c.2 = .agg cs) ↔ ∃ cs, exc h c = .agg cs) ∧ ∀ ps, exc h c ≠ .tup ps := by
  obtain ⟨fs, p⟩ := c
  by_cases hag : ∃ cs, p = .agg cs
  · obtain ⟨cs, rfl⟩ := hag
    exact ⟨rfl, ⟨fun _ => ⟨_, rfl⟩, fun _ => ⟨_, rfl⟩⟩, fun ps => by simp [exc]⟩
  · have hne : ∀ cs, p ≠ .agg cs := fun cs e => hag ⟨cs, e⟩
    have e1 : exc h (fs, p) = ex1 h (fs.headD .any, p) := by cases p <;> first | rfl | exact absurd rfl (hne _)
    have e2 : p.cells = [p] := by cases p <;> first | rfl | exact absurd rfl (hne _)
    have e3 := (ex1_no h (fs.headD .any, p)).2 hne
    have e4 := (ex1_no h (fs.headD .any, p)).1
    have e5 : zipD Fm.any fs [p] = [(fs.headD .any, p)] := by cases fs <;> rfl
    rw [e1]
    refine ⟨?_, ⟨fun h => absurd h hag, fun ⟨cs, h⟩ => absurd h (e3 cs)⟩, e4⟩
    have : ∀ q : PV, (∀ cs, q ≠ .agg cs) → q.cells = [q] := by
      intro q hq
      cases q <;> first | rfl | exact absurd rfl (hq _)
    rw [this _ e3, e2, e5]
    rfl
end Go.Proofs.Ytlpooghphoohcaa.R
/- Functions, whole. -/
namespace Go.Proofs.Ytlpooghphoohcaa.R
open Go.RowKit
set_option linter.unusedVariables false
set_option linter.unusedSimpArgs false

section
variable {args : List PV} {σ : St} {P : Program}
theorem post_ok {fn : Func} {Φ : List PV → PV → Prop} {fs : List (List Fm)} (hfin : fin P False fs fn.results.toList args Φ σ) :
    ∃ os res, Φ os res ∧ ∀ (X : Foot) (w : World) (vals : List Value) (Fs : Nat → Foot) (D : Nat → Prop) (a : Act) (w' : World) (env : Nat → Value) (F : Nat → Foot),
      FnPre X w args vals Fs → Rl X (Un Fs) w D σ a w' env F → (∀ t, t ∈ ioIdx args 0 → a.tmps.getD t undef = vals.getD t undef) →
      ∃ v H, (results fn a.tmps).run P w' = .ok v w' ∧ FnPost X w w' args os vals Fs res v H := by
  unfold fin at hfin
  split at hfin
  · rename_i ps os ns rn hrs hout
    split at hfin
    · rename_i hchk
      simp only [Bool.and_eq_true] at hchk
      obtain ⟨hdist, hall⟩ := hchk
      refine ⟨os, _, hfin, ?_⟩
      intro X w vals Fs D a w' env F pre hR hV
      clear hfin
      let h := look σ.ob
      have hvw : Vw h σ := fun N => .inl rfl
      obtain ⟨vs, hrun, hps⟩ := results_ok hR hrs
      obtain ⟨holen, hos⟩ := outsOf_spec args 0 os ns rn hout
      have hpl := PRs_len hps
      let cf : List Fm × PV → List (Fm × PV) := fun c => zipD .any c.1 c.2.cells
      let qs := zipD [] fs ps
      have hqs : ∀ (i : Nat), qs[i]? = (ps[i]?).map fun p => (fs.getD i [], p) := fun i => zipD_get [] fs ps i
      have hql : qs.length = ps.length := zipD_len [] fs ps
      let ex := (fcells fs ps).flatMap (exN1 h)
      have hexd : distinct ex = true := (distinct_append ns ex hdist).1
      have hnsx : ∀ N, N ∈ ns → N ∉ ex := (distinct_append ns ex hdist).2
      have hrdn : ∀ N, N ∈ rn ++ (fcells fs ps).flatMap (rdN1 h) → N ∉ ns ∧ N ∉ ex := by
        intro N hN
        have := List.all_eq_true.1 hall N hN
        simp at this
        refine ⟨this.1, fun hx => ?_⟩
        simp only [ex, List.mem_flatMap] at hx
        obtain ⟨c, hc, hx⟩ := hx
        exact this.2 c.1 c.2 hc hx
      have hexp : distinct (qs.flatMap fun p => (cf p).flatMap (exN1 h)) = true := by
        have : ex = qs.flatMap fun p => (cf p).flatMap (exN1 h) := List.flatMap_assoc
        rw [← this]
        exact hexd
      let exF : Option (Fm × PV) → Foot := fun c b o => ∃ q N, c = some q ∧ N ∈ exN1 h q ∧ F N b o
      let H : Nat → Foot := fun i b o => ∃ (p : List Fm × PV) (j : Nat), qs[i]? = some p ∧ exF (cf p)[j]? b o
      have hexF : ∀ i b o, H i b o → ∃ p N, qs[i]? = some p ∧ N ∈ (cf p).flatMap (exN1 h) ∧ N ∈ ex ∧ F N b o := by
        rintro i b o ⟨p, j, hp, q, N, hq, hN, hF⟩
        refine ⟨p, N, hp, List.mem_flatMap.2 ⟨q, List.mem_of_getElem? hq, hN⟩, ?_, hF⟩
        exact List.mem_flatMap.2 ⟨q, List.mem_flatMap.2 ⟨p, List.mem_of_getElem? hp, List.mem_of_getElem? hq⟩, hN⟩
      -- the arguments that are written
      have hio : ∀ (i : Nat) p, args[i]? = some p → isIo p = true → ∃ (N : Nat) (q : PV) (j : Nat), N ∈ ns ∧ (ioIdx args 0)[j]? = some i ∧ os[j]? = some q ∧ vals[i]? = some (env N) ∧ Fs i = F N ∧ σ.get i = .ref N := by
        intro i p hp hi
        obtain ⟨j, hj⟩ := ioIdx_mem args 0 i p hp hi
        rw [Nat.zero_add] at hj
        have hjo : j < os.length := by have := (List.getElem?_eq_some_iff.1 hj).1; omega
        obtain ⟨N, p', e1, _, e3, e4, e5⟩ := hos j i os[j] hj (List.getElem?_eq_getElem hjo)
        rw [Nat.sub_zero, hp] at e1
        injection e1 with e1
        subst e1
        have hiv : i < vals.length := by have := (List.getElem?_eq_some_iff.1 hp).1; have := pre.arg.1; omega
        have hval : vals[i]? = some (env N) := by
          have h1 := hR.sl i
          rw [e3] at h1
          simp only [PR] at h1
          have h2 := hV i (List.mem_of_getElem? hj)
          rw [h1.2] at h2
          rw [List.getElem?_eq_getElem hiv]
          simp [List.getD_eq_getElem?_getD, hiv] at h2
          rw [← h2]
        refine ⟨N, os[j], j, e4, hj, List.getElem?_eq_getElem hjo, hval, ?_, e3⟩
        have hc := pre.arg.2.1 i p (env N) hp hval
        have hob := hR.ob N
        rcases e5 with ⟨_, ⟨e, t, xs, rfl⟩, e', t', xs', e6, _⟩ | ⟨cs, ds, rfl, e6, e7, _, _⟩
        · rw [show look σ.ob N = .row e' t' xs' from e6] at hob
          simp only [OB, CR1] at hob hc
          obtain ⟨_, _, _, h3⟩ := hob
          obtain ⟨_, _, _, h4⟩ := hc
          rw [h3, h4]
        · rw [show look σ.ob N = .box ds from e6] at hob
          simp only [OB, CR1] at hob hc
          obtain ⟨b, o, us, k1, k2, k3, k4⟩ := hob
          obtain ⟨b', o', us', m1, m2, m3, m4⟩ := hc
          rw [k1] at m1
          injection m1 with m1
          injection m1 with m1
          injection m1 with m1 m5 _
          subst m1 m5
          rw [k4, m4, e7]
      have hFs : ∀ b o, Un Fs b o → ∃ N, N ∈ ns ∧ F N b o := by
        rintro b o ⟨i, hi⟩
        cases hp : args[i]? with
        | none => rw [pre.arg.2.2.1 i (List.getElem?_eq_none_iff.1 hp)] at hi; exact hi.elim
        | some p =>
          cases hpi : isIo p with
          | false =>
            have hiv : i < vals.length := by have := (List.getElem?_eq_some_iff.1 hp).1; have := pre.arg.1; omega
            have := ((OB_plain (hasPlain hpi)).1 (pre.arg.2.1 i p vals[i] hp (List.getElem?_eq_getElem hiv))).2
            rw [this] at hi
            exact hi.elim
          | true =>
            obtain ⟨N, q, j, h1, _, _, _, h2, _⟩ := hio i p hp hpi
            rw [h2] at hi
            exact ⟨N, h1, hi⟩
      let O : Foot := fun b o => X b o ∨ Un Fs b o ∨ Un H b o
      have hO : ∀ b o, O b o → Ow X F b o := by
        rintro b o (hx | hx | ⟨i, hx⟩)
        · exact .inl hx
        · obtain ⟨N, _, hN⟩ := hFs b o hx; exact .inr ⟨N, hN⟩
        · obtain ⟨_, N, _, _, _, hN⟩ := hexF i b o hx; exact .inr ⟨N, hN⟩
      have hs : Stb w' (Ow X F) w' O := fun b o u h1 h2 => ⟨h1, fun h3 => h2 (hO b o h3)⟩
      have hfree : ∀ N, N ∉ ns → N ∉ ex → ∀ b o, F N b o → ¬ O b o := by
        rintro N h1 h2 b o hF (hx | hx | ⟨i, hx⟩)
        · exact hR.xf N b o hF hx
        · obtain ⟨M, hM, hMF⟩ := hFs b o hx
          exact hR.dj N M b o (fun e => h1 (e ▸ hM)) hF hMF
        · obtain ⟨_, M, _, _, hM, hMF⟩ := hexF i b o hx
          exact hR.dj N M b o (fun e => h2 (e ▸ hM)) hF hMF
      -- a cell of a result
      have hcell : ∀ (c : Fm × PV) u, c ∈ fcells fs ps → PR env D w' (Ow X F) c.2 u → CR1 w' O (ex1 h c) u (exF (some c)) := by
        intro c u hc hu
        have hone : ∀ N, exN1 h c = [N] → F N = exF (some c) := by
          intro N hxn
          funext b o
          apply propext
          constructor
          · intro hF
            exact ⟨_, N, rfl, by rw [hxn]; simp, hF⟩
          · rintro ⟨q, M, hq, hM, hF⟩
            injection hq with hq
            subst hq
            rw [hxn, List.mem_singleton] at hM
            subst hM
            exact hF
        have hnone : exN1 h c = [] → exF (some c) = fun _ _ => False := by
          intro hxn
          funext b o
          apply propext
          constructor
          · rintro ⟨q, M, hq, hM, hF⟩
            injection hq with hq
            subst hq
            rw [hxn] at hM
            cases hM
          · exact fun hF => hF.elim
        rcases ex1_cases h c with ⟨N, e, t, xs, hcN, hN, hx, hxn⟩ | ⟨N, cs, hcN, hN, hx, hxn, hrn⟩ | ⟨N, e, e', t, xs, hcN, hN, hx, hxn⟩ | ⟨hx, hxn⟩ | ⟨e, t, hcN, hx, hxn⟩ | ⟨t, hcN, hx, hxn⟩
        · rw [hx, ← hone N hxn]
          rw [hcN] at hu
          simp only [PR] at hu
          rw [hu.2]
          have hob := hR.ob N
          rw [show look σ.ob N = .row e t xs from hN] at hob
          simp only [CR1, OB] at hob ⊢
          obtain ⟨us, k1, k2, k3⟩ := hob
          exact ⟨us, k1, k2.mono hs, k3⟩
        · rw [hx, ← hone N hxn]
          rw [hcN] at hu
          simp only [PR] at hu
          rw [hu.2]
          have hob := hR.ob N
          rw [show look σ.ob N = .box cs from hN] at hob
          simp only [CR1, OB] at hob ⊢
          obtain ⟨b, o, us, k1, k2, k3, k4⟩ := hob
          refine ⟨b, o, us, k1, PRs_map cs us k2 fun c' hc' u hu => hR.rd1 hvw hO (fun M hM hd b o hF => ?_) hu, k3, by rw [k4, List.length_map]⟩
          have hrd : M ∈ (fcells fs ps).flatMap (rdN1 h) := List.mem_flatMap.2 ⟨c, hc, by rw [hrn]; exact nmL_mem hc' hM⟩
          obtain ⟨m1, m2⟩ := hrdn M (List.mem_append_right _ hrd)
          exact hfree M m1 m2 b o hF
        · rw [hx, ← hone N hxn]
          rw [hcN] at hu
          simp only [PR] at hu
          rw [hu.2]
          have hob := hR.ob N
          rw [show look σ.ob N = .mat e e' t xs from hN] at hob
          simp only [CR1, OB] at hob ⊢
          obtain ⟨us, k1, k2⟩ := hob
          exact ⟨us, ⟨k1.own, k1.flat, k1.row, fun _ _ e => (nomatch e), k1.dj, k1.out⟩, k2⟩
        · rw [hx, hnone hxn]
          refine (OB_plain (rd_plain h c.2)).2 ⟨hR.rd hvw hO (fun N hN hd b o hF => ?_) hu, rfl⟩
          have hrd : N ∈ (fcells fs ps).flatMap (rdN1 h) := List.mem_flatMap.2 ⟨c, hc, by simp [rdN1, hxn, hN]⟩
          obtain ⟨h1, h2⟩ := hrdn N (List.mem_append_right _ hrd)
          exact hfree N h1 h2 b o hF
        · rw [hx, hnone hxn]
          rw [hcN] at hu
          simp only [PR] at hu
          subst hu
          simp only [CR1, OB]
          exact ⟨[], World.ownsRow_nil _ _ _ _, ⟨by simp, fun i hi => absurd hi (by simp)⟩, by funext b o; simp [Value.ownBlock]⟩
        · rw [hx, hnone hxn]
          rw [hcN] at hu
          simp only [PR] at hu
          subst hu
          refine (OB_plain (by rfl)).2 ⟨?_, rfl⟩
          simp only [PR]
          exact RV_sl.2 ⟨none, 0, [], rfl, ⟨by simp, fun i hi => absurd hi (by simp)⟩, fun h => absurd rfl h, Nat.zero_le _⟩
      -- a component
      have hcomp : ∀ (i : Nat) (p : List Fm × PV) u, qs[i]? = some p → PR env D w' (Ow X F) p.2 u → CR2 w' O (exc h p) u (H i) := by
        intro i p u hp hu
        obtain ⟨c1, c2, c3⟩ := exc_cells h p
        obtain ⟨fp, p⟩ := p
        have hvals : ∃ us, PRs env D w' (Ow X F) p.cells us ∧ ((∃ cs, p = .agg cs) → u = .agg us.toArray) ∧ ((∀ cs, p ≠ .agg cs) → us = [u]) := by
          by_cases hag : ∃ cs, p = .agg cs
          · obtain ⟨cs, rfl⟩ := hag
            simp only [PR] at hu
            obtain ⟨us, rfl, k1⟩ := hu
            exact ⟨us, k1, fun _ => rfl, fun hn => absurd rfl (hn cs)⟩
          · have hne : ∀ cs, p ≠ .agg cs := fun cs e => hag ⟨cs, e⟩
            have : p.cells = [p] := by cases p <;> first | rfl | exact absurd rfl (hne _)
            rw [this]
            exact ⟨[u], PRs_one.2 ⟨u, rfl, hu⟩, fun h => absurd h hag, fun _ => rfl⟩
        obtain ⟨us, k1, k2, k3⟩ := hvals
        have kl := PRs_len k1
        have hcf : ∀ (j : Nat), (cf (fp, p))[j]? = (p.cells[j]?).map fun q => (fp.getD j .any, q) := fun j => zipD_get .any fp p.cells j
        have hcfl : (cf (fp, p)).length = p.cells.length := zipD_len .any fp p.cells
        refine ⟨us, fun j => exF (cf (fp, p))[j]?, ⟨by rw [c1, List.length_map, hcfl]; exact kl, fun j q v hq hv => ?_, fun j hj => ?_, fun j j' b o hne h1 h2 => ?_⟩, ?_, fun hag => k2 (c2.2 hag), fun hn => k3 fun cs e => by
          obtain ⟨cs', hcs'⟩ := c2.1 ⟨cs, e⟩
          exact hn cs' hcs'⟩
        · rw [c1, List.getElem?_map] at hq
          obtain ⟨c, hc, rfl⟩ := Option.map_eq_some_iff.1 hq
          show CR1 w' O (ex1 h c) v (exF (cf (fp, p))[j]?)
          have hc' : (cf (fp, p))[j]? = some c := hc
          rw [hc']
          have hc2 : p.cells[j]? = some c.2 := by
            rw [hcf] at hc'
            obtain ⟨q, hq2, rfl⟩ := Option.map_eq_some_iff.1 hc'
            exact hq2
          exact hcell c v (List.mem_flatMap.2 ⟨(fp, p), List.mem_of_getElem? hp, List.mem_of_getElem? hc'⟩) (((PRs_iff _ _).1 k1).2 j c.2 v hc2 hv)
        · rw [c1, List.length_map] at hj
          show exF (cf (fp, p))[j]? = _
          rw [List.getElem?_eq_none_iff.2 hj]
          funext b o
          apply propext
          exact ⟨fun ⟨q, M, hq, _⟩ => (by cases hq), fun hF => hF.elim⟩
        · obtain ⟨q, M, hq, hM, hF⟩ := h1
          obtain ⟨q', M', hq', hM', hF'⟩ := h2
          have hd := (distinct_flat qs hexp).2 (fp, p) (List.mem_of_getElem? hp)
          refine hR.dj M M' b o ?_ hF hF'
          rintro rfl
          exact distinct_flat_ne hd hne hq hq' hM hM'
        · funext b o
          apply propext
          constructor
          · rintro ⟨p', j, hp', hx⟩
            rw [hp] at hp'
            injection hp' with hp'
            subst hp'
            exact ⟨j, hx⟩
          · rintro ⟨j, hx⟩
            exact ⟨_, j, hp, hx⟩
      have hHno : ∀ i, ps.length ≤ i → H i = fun _ _ => False := by
        intro i hi
        funext b o
        apply propext
        exact ⟨fun ⟨p, j, hp, _⟩ => (nomatch (List.getElem?_eq_none_iff.2 (hql.symm ▸ hi) ▸ hp : none = some p)), fun hF => hF.elim⟩
      have hHdj : Dj H := by
        intro i i' b o hne h1 h2
        obtain ⟨p, N, k1, k2, _, k3⟩ := hexF i b o h1
        obtain ⟨p', N', m1, m2, _, m3⟩ := hexF i' b o h2
        refine hR.dj N N' b o ?_ k3 m3
        rintro rfl
        exact distinct_flat_ne hexp hne k1 m1 k2 m2
      refine ⟨_, H, hrun, ⟨holen, fun j i q u h1 h2 h3 => ?_, ?_, fun i b o hb' => ?_, hR.kp⟩⟩
      · obtain ⟨N, p, e1, _, e3, e4, e5⟩ := hos j i q h1 h2
        rw [Nat.sub_zero] at e1
        have hpi : isIo p = true := by
          rcases e5 with ⟨hx, _⟩ | ⟨cs, ds, rfl, _⟩
          · exact hx
          · rfl
        obtain ⟨N', _, _, _, _, _, hval, hFN, e6⟩ := hio i p e1 hpi
        rw [e3] at e6
        injection e6 with e6
        subst e6
        rw [h3] at hval
        injection hval with hval
        subst hval
        rw [hFN]
        have hob := hR.ob N
        rcases e5 with ⟨_, _, e, t, xs, e7, rfl⟩ | ⟨cs, ds, _, e7, _, rfl, e8⟩
        · rw [show look σ.ob N = .row e t xs from e7] at hob
          simp only [CR1, OB] at hob ⊢
          obtain ⟨us, k1, k2, k3⟩ := hob
          exact ⟨us, k1, k2.mono hs, k3⟩
        · rw [show look σ.ob N = .box ds from e7] at hob
          simp only [CR1, OB] at hob ⊢
          obtain ⟨b, o, us, k1, k2, k3, k4⟩ := hob
          refine ⟨b, o, us, k1, PRs_map ds us k2 fun c hc u hu => hR.rd1 hvw hO (fun M hM hd b o hF => ?_) hu, k3, by rw [k4, List.length_map]⟩
          obtain ⟨m1, m2⟩ := hrdn M (List.mem_append_left _ (e8 M (nmL_mem hc hM)))
          exact hfree M m1 m2 b o hF
      · have one : ∀ p u, ps = [p] → vs = [u] → CR3 w' O (exc h (fs.headD [], p)) u H := by
          intro p u e1 e2
          have h1 : CR2 w' O (exc h (fs.headD [], p)) u (H 0) ∧ ∀ i, 0 < i → H i = fun _ _ => False := by
            subst e1 e2
            simp only [PRs] at hps
            obtain ⟨u', us', hu', k1, _⟩ := hps
            injection hu' with hu' _
            subst hu'
            exact ⟨hcomp 0 (fs.headD [], p) u (by rw [hqs 0]; cases fs <;> rfl) k1, fun i hi => hHno i hi⟩
          have h2 := (exc_cells h (fs.headD [], p)).2.2
          unfold CR3
          split
          · rename_i qs hq; exact absurd hq (h2 qs)
          · exact h1
        have many : (∀ p, ps ≠ [p]) → CR3 w' O (.tup (qs.map (exc h))) (.tuple vs.toArray) H := by
          intro _
          refine ⟨vs, rfl, by rw [List.length_map, hql]; exact hpl, fun i q u hq hu => ?_, fun i hi => hHno i (by simpa [hql] using hi), hHdj⟩
          rw [List.getElem?_map] at hq
          obtain ⟨p, hp, rfl⟩ := Option.map_eq_some_iff.1 hq
          have hp' := hp
          rw [hqs] at hp'
          obtain ⟨p', hp'', rfl⟩ := Option.map_eq_some_iff.1 hp'
          exact hcomp i _ u hp (((PRs_iff _ _).1 hps).2 i p' u hp'' hu)
        rcases ps with _ | ⟨p, _ | ⟨p2, ps⟩⟩
        · have : vs = [] := List.eq_nil_of_length_eq_zero (by simpa using hpl.symm)
          subst this
          have h0 : zipD ([] : List Fm) fs ([] : List PV) = [] := by cases fs <;> rfl
          have := many (by simp)
          show CR3 w' O (match zipD ([] : List Fm) fs [] with | [c] => exc h c | cs => .tup (cs.map (exc h))) _ H
          rw [h0]
          simp only [qs, h0] at this
          exact this
        · rcases vs with _ | ⟨u, _ | ⟨u2, vs⟩⟩
          · simp at hpl
          · have h0 : zipD ([] : List Fm) fs [p] = [(fs.headD [], p)] := by cases fs <;> rfl
            show CR3 w' O (match zipD ([] : List Fm) fs [p] with | [c] => exc h c | cs => .tup (cs.map (exc h))) _ H
            rw [h0]
            exact one p u rfl rfl
          · simp at hpl
        · have hv : ¬ vs.toArray.size = 1 := by
            have : vs.length = ps.length + 2 := by simpa using hpl.symm
            simp only [List.size_toArray]
            omega
          rw [dif_neg hv]
          have := many (by simp)
          rcases fs with _ | ⟨f, _ | ⟨f2, fs⟩⟩ <;> exact this
      · obtain ⟨p, N, h1, h2, h3, h4⟩ := hexF i b o hb'
        refine ⟨Classical.byContradiction fun hlt => ?_, hR.lt N b o h4⟩
        obtain ⟨M, hM, hMF⟩ := hFs b o (hR.own N b o h4 (by omega))
        exact hR.dj N M b o (fun e => hnsx M hM (e ▸ h3)) h4 hMF
    · exact hfin.elim
  · exact hfin.elim
/-- A function does what its code tells. -/
theorem fn_ok {C : Hd Prop} {io : FuncId → List Bool} (hm : P.follows .mixedOrders = true) (hC : HdOk P C) {f : FuncId} {fn : Func} {c0 : Code} (hf : P.funcs[f]? = some fn) (hlt : Nat.blt f 1000000 = true) (hname : (fn.name == "runtime.NumGoroutine") = false) (hb : fn.body = some c0)
    (hn : args.length ≤ fn.ntmps) (hT : noDst (ioIdx args 0) c0 = true) {cut : Nat → Bool} {Λ : Nat → (Exit → St → Prop) → St → Prop} (hΛ : LamOk P (ioIdx args 0) c0 0 Λ) {Φ : List PV → PV → Prop} {fs : List (List Fm)}
    (h : exec P C io False cut Λ c0 0 (finE P False fs fn args Φ) (initSt args fn.ntmps)) : ∃ outs res, Φ outs res ∧ FnRel P f args outs res := by
  obtain ⟨e, σ', hk, h1⟩ := exec_ok hm hC c0 0 hT hΛ _ _ h
  have hk' : fin P False fs fn.results.toList args Φ (settleR fn.results.toList σ') ∧ (e = .normal ∨ e = .ret) := by
    cases e <;> first | exact ⟨hk, .inl rfl⟩ | exact ⟨hk, .inr rfl⟩ | exact hk.elim
  obtain ⟨os, res, hΦ, hpost⟩ := post_ok hk'.1
  refine ⟨os, res, hΦ, FnRel0.up ?_ hlt⟩
  refine ⟨fun as w => by
    have h1 : fn.name ≠ "runtime.NumGoroutine" := by simpa using hname
    simp [callFunc, hf, h1, hb], fun X w vals Fs pre => ?_⟩
  refine calls_of_wp hf hb ?_
  refine h1 (fun t => vals.getD t undef) X (Un Fs) w _ _ w ⟨init_ok pre hn, fun t ht => ?_⟩ fun a' w' hR' => ?_
  · have hl := pre.arg.1
    have htl : t < args.length := by
      have gen : ∀ (l : List PV) (k t : Nat), t ∈ ioIdx l k → t < k + l.length := by
        intro l
        induction l with
        | nil => intro k t ht; simp [ioIdx] at ht
        | cons p l ih =>
          intro k t ht
          simp only [ioIdx] at ht
          split at ht
          · rcases List.mem_cons.1 ht with rfl | ht
            · simp
            · have := ih (k + 1) t ht; simp; omega
          · have := ih (k + 1) t ht; simp; omega
      have := gen args 0 t ht
      omega
    have hi : t < vals.length := by omega
    simp [Array.getD_eq_getD_getElem?, Array.getElem?_append, hi, List.getD_eq_getElem?_getD]
  · obtain ⟨hR0, hV⟩ := hR'
    obtain ⟨env, F, hRl⟩ := hR0.settle [] (nub ((resNms σ' fn.results.toList).flatMap fun N => (look σ'.ob N).nms) (nub (resNms σ' fn.results.toList) []))
    obtain ⟨v, H, hr, hp⟩ := hpost X w vals Fs _ a' w' env F pre hRl hV
    rcases hk'.2 with rfl | rfl
    · exact ⟨hRl.df, v, hr, v, H, rfl, hp⟩
    · exact ⟨hRl.df, v, hr, v, H, rfl, hp⟩
end
end Go.Proofs.Ytlpooghphoohcaa.R
/- Shapes: states of one form, told by their variables. -/
namespace Go.Proofs.Ytlpooghphoohcaa.R
open Go.RowKit
set_option linter.unusedVariables false
set_option linter.unusedSimpArgs false

/-- What p tells is told by q as well. -/
def Wk (p q : PV) : Prop := p = q ∨ isIo p = false ∧ isIo q = false ∧ ∀ w O v, PR env0 D0 w O p v → PR env0 D0 w O q v
theorem Wk.pr {p q : PV} (h : Wk p q) {w : World} {O : Foot} {v : Value} (hp : PR env0 D0 w O p v) : PR env0 D0 w O q v := by
  rcases h with rfl | ⟨_, _, h⟩
  · exact hp
  · exact h w O v hp
theorem Wk.cr {p q : PV} (h : Wk p q) {w : World} {O : Foot} {v : Value} {F : Foot} (hp : CR1 w O p v F) : CR1 w O q v F := by
  rcases h with rfl | ⟨h1, h2, h3⟩
  · exact hp
  · obtain ⟨k1, k2⟩ := (OB_plain (hasPlain h1)).1 hp
    exact (OB_plain (hasPlain h2)).2 ⟨h3 w O v k1, k2⟩
theorem Wk.io {p q : PV} (h : Wk p q) : isIo p = isIo q := by
  rcases h with rfl | ⟨h1, h2, _⟩
  · rfl
  · rw [h1, h2]
def WkL : List PV → List PV → Prop
  | [], [] => True
  | p :: ps, q :: qs => Wk p q ∧ WkL ps qs
  | _, _ => False
theorem WkL.refl : (l : List PV) → WkL l l
  | [] => trivial
  | p :: l => ⟨.inl rfl, WkL.refl l⟩
theorem WkL.prs {w : World} {O : Foot} : {ps qs : List PV} → {us : List Value} → WkL ps qs → PRs env0 D0 w O ps us → PRs env0 D0 w O qs us
  | [], [], us, _, hp => hp
  | p :: ps, q :: qs, us, h, hp => by
    simp only [PRs] at hp ⊢
    obtain ⟨u, us', rfl, h1, h2⟩ := hp
    exact ⟨u, us', rfl, h.1.pr h1, WkL.prs h.2 h2⟩
  | [], _ :: _, _, h, _ => h.elim
  | _ :: _, [], _, h, _ => h.elim
theorem WkL.len : {ps qs : List PV} → WkL ps qs → ps.length = qs.length
  | [], [], _ => rfl
  | p :: ps, q :: qs, h => by simp [WkL.len h.2]
  | [], _ :: _, h => h.elim
  | _ :: _, [], h => h.elim
theorem WkL.get : {ps qs : List PV} → WkL ps qs → ∀ (i : Nat) p q, ps[i]? = some p → qs[i]? = some q → Wk p q
  | [], [], _, i, p, q, hp, _ => by simp at hp
  | a :: ps, b :: qs, h, 0, p, q, hp, hq => by
    simp at hp hq
    subst hp hq
    exact h.1
  | a :: ps, b :: qs, h, i + 1, p, q, hp, hq => WkL.get h.2 i p q (by simpa using hp) (by simpa using hq)
  | [], _ :: _, h, _, _, _, _, _ => h.elim
  | _ :: _, [], h, _, _, _, _, _ => h.elim
theorem WkL.io : {ps qs : List PV} → WkL ps qs → ∀ k, ioIdx ps k = ioIdx qs k
  | [], [], _, k => rfl
  | p :: ps, q :: qs, h, k => by simp only [ioIdx, h.1.io, WkL.io h.2 (k + 1)]
  | [], _ :: _, h, _ => h.elim
  | _ :: _, [], h, _ => h.elim
theorem FnRel.weak {P : Program} {f : FuncId} {args args' outs : List PV} {res : PV} (h : WkL args args') (k : FnRel P f args' outs res) : FnRel P f args outs res := by
  have hl := h.len
  have hio := h.io 0
  have pre' : ∀ {X w vals Fs}, FnPre X w args vals Fs → FnPre X w args' vals Fs := by
    intro X w vals Fs pre
    refine ⟨⟨hl ▸ pre.arg.1, fun i p u hp hu => ?_, fun i hi => pre.arg.2.2.1 i (by omega), pre.arg.2.2.2⟩, pre.xf, pre.lt, pre.xl⟩
    have hi : i < args.length := by have := (List.getElem?_eq_some_iff.1 hp).1; omega
    have hq := List.getElem?_eq_getElem hi
    exact (h.get i _ p hq hp).cr (pre.arg.2.1 i _ u hq hu)
  unfold FnRel at k ⊢
  by_cases hf : Nat.blt f 1000000 = true
  · rw [if_pos hf] at k ⊢
    refine ⟨k.1, fun X w vals Fs pre => Calls.mono (k.2 X w vals Fs (pre' pre)) fun e w' he => ?_⟩
    obtain ⟨v, H, h1, h2⟩ := he
    exact ⟨v, H, h1, by rw [hio]; exact h2.len, by rw [hio]; exact h2.out, h2.res, h2.new, h2.kp⟩
  · rw [if_neg hf] at k ⊢
    refine ⟨k.1, fun X w us u Fs pre => Calls.mono (k.2 X w us u Fs (pre' pre)) fun e w' he => ?_⟩
    obtain ⟨v, H, h1, h2⟩ := he
    exact ⟨v, H, h1, by rw [hio]; exact h2.len, by rw [hio]; exact h2.out, h2.res, h2.new, h2.kp⟩
/-- A value of one form. -/
structure Sh where
  Arg : Type
  build : Arg → PV
  parse : PV → Option Arg
  ok : ∀ p x, parse p = some x → p = build x
  fit : PV → Option Arg
  fit_ok : ∀ p x, fit p = some x → Wk p (build x)
structure Sh0 where
  Arg : Type
  build : Arg → PV
  parse : PV → Option Arg
  ok : ∀ p x, parse p = some x → p = build x
def Sh0.up (s : Sh0) : Sh := ⟨s.Arg, s.build, s.parse, s.ok, s.parse, fun p x h => .inl (s.ok p x h)⟩
/-- Values of one form, in a row. -/
structure Shs where
  Arg : Type
  build : Arg → List PV
  parse : List PV → Option Arg
  ok : ∀ p x, parse p = some x → p = build x
  fit : List PV → Option Arg
  fit_ok : ∀ p x, fit p = some x → WkL p (build x)
def Sh.val (t : Ty) : Sh where
  Arg := t.El
  build := .val t
  parse p := match p with
    | .val t' x => if h : t' = t then some (h ▸ x) else none
    | _ => none
  ok p x h := by
    split at h
    · split at h
      · rename_i e
        subst e
        injection h with h
        subst h
        rfl
      · cases h
    · cases h
  fit p := match p with
    | .val t' x => if h : t' = t then some (h ▸ x) else none
    | .nil => match t with
      | .sl _ => some []
      | _ => none
    | _ => none
  fit_ok p x h := by
    split at h
    · split at h
      · rename_i e
        subst e
        injection h with h
        subst h
        exact .inl rfl
      · cases h
    · cases t with
      | sl t =>
        injection h with h
        subst h
        refine .inr ⟨rfl, rfl, fun w O v hp => ?_⟩
        simp only [PR] at hp ⊢
        subst hp
        exact RV_sl.2 ⟨none, 0, [], rfl, ⟨by simp, fun i hi => absurd hi (by simp)⟩, fun h => absurd rfl h, Nat.zero_le _⟩
      | _ => cases h
    · cases h
def Sh0.row (e : TypeId) (t : Ty) : Sh0 where
  Arg := List t.El
  build := .row e t
  parse p := match p with
    | .row e' t' x => if h : t' = t then (if e' = e then some (h ▸ x) else none) else none
    | _ => none
  ok p x h := by
    split at h
    · split at h
      · rename_i e
        subst e
        split at h
        · rename_i e
          subst e
          injection h with h
          subst h
          rfl
        · cases h
      · cases h
    · cases h
def Sh.row (e : TypeId) (t : Ty) : Sh := (Sh0.row e t).up
def Sh0.mat (e e' : TypeId) (t : Ty) : Sh0 where
  Arg := List (List t.El)
  build := .mat e e' t
  parse p := match p with
    | .mat e1 e2 t' x => if h : t' = t then (if e1 = e ∧ e2 = e' then some (h ▸ x) else none) else none
    | _ => none
  ok p x h := by
    split at h
    · split at h
      · rename_i e
        subst e
        split at h
        · rename_i e
          obtain ⟨rfl, rfl⟩ := e
          injection h with h
          subst h
          rfl
        · cases h
      · cases h
    · cases h
def Sh.mat (e e' : TypeId) (t : Ty) : Sh := (Sh0.mat e e' t).up
def Sh0.hol (e e' : TypeId) (t : Ty) (M : Nat) : Sh0 where
  Arg := List (List t.El) × Nat
  build x := .hol e e' t x.1 x.2 M
  parse p := match p with
    | .hol e1 e2 t' x i M' => if h : t' = t then (if e1 = e ∧ e2 = e' ∧ M' = M then some (h ▸ x, i) else none) else none
    | _ => none
  ok p x h := by
    split at h
    · split at h
      · rename_i e
        subst e
        split at h
        · rename_i e
          obtain ⟨rfl, rfl, rfl⟩ := e
          injection h with h
          subst h
          rfl
        · cases h
      · cases h
    · cases h
def Sh.hol (e e' : TypeId) (t : Ty) (M : Nat) : Sh := (Sh0.hol e e' t M).up
def Sh0.cp (N z j : Nat) : Sh0 where
  Arg := Nat
  build i := .cp N i z j
  parse p := match p with
    | .cp N' i z' j' => if N' = N ∧ z' = z ∧ j' = j then some i else none
    | _ => none
  ok p x h := by
    split at h
    · split at h
      · rename_i e
        obtain ⟨rfl, rfl, rfl⟩ := e
        injection h with h
        subst h
        rfl
      · cases h
    · cases h
def Sh.cp (N z j : Nat) : Sh := (Sh0.cp N z j).up
def Sh0.win (N z : Nat) : Sh0 where
  Arg := Nat × Nat
  build i := .win N z i.1 i.2
  parse p := match p with
    | .win N' z' lo n => if N' = N ∧ z' = z then some (lo, n) else none
    | _ => none
  ok p x h := by
    split at h
    · split at h
      · rename_i e
        obtain ⟨rfl, rfl⟩ := e
        injection h with h
        subst h
        rfl
      · cases h
    · cases h
def Sh.win (N z : Nat) : Sh := (Sh0.win N z).up
def Sh.pt (s : Shs) : Sh where
  Arg := s.Arg
  build x := .pt (s.build x)
  parse p := match p with
    | .pt cs => s.parse cs
    | _ => none
  ok p x h := by
    split at h
    · rw [s.ok _ _ h]
    · cases h
  fit p := match p with
    | .pt cs => s.fit cs
    | _ => none
  fit_ok p x h := by
    split at h
    · exact .inr ⟨rfl, rfl, fun w O v hp => by
        simp only [PR] at hp ⊢
        obtain ⟨b, o, us, h1, h2, h3⟩ := hp
        exact ⟨b, o, us, h1, (s.fit_ok _ _ h).prs h2, h3⟩⟩
    · cases h
def Sh0.box (s : Shs) : Sh0 where
  Arg := s.Arg
  build x := .box (s.build x)
  parse p := match p with
    | .box cs => s.parse cs
    | _ => none
  ok p x h := by
    split at h
    · rw [s.ok _ _ h]
    · cases h
def Sh.box (s : Shs) : Sh := (Sh0.box s).up
def Sh.agg (s : Shs) : Sh where
  Arg := s.Arg
  build x := .agg (s.build x)
  parse p := match p with
    | .agg cs => s.parse cs
    | _ => none
  ok p x h := by
    split at h
    · rw [s.ok _ _ h]
    · cases h
  fit p := match p with
    | .agg cs => s.fit cs
    | _ => none
  fit_ok p x h := by
    split at h
    · exact .inr ⟨rfl, rfl, fun w O v hp => by
        simp only [PR] at hp ⊢
        obtain ⟨us, h1, h2⟩ := hp
        exact ⟨us, h1, (s.fit_ok _ _ h).prs h2⟩⟩
    · cases h
def Sh0.tup (s : Shs) : Sh0 where
  Arg := s.Arg
  build x := .tup (s.build x)
  parse p := match p with
    | .tup cs => s.parse cs
    | _ => none
  ok p x h := by
    split at h
    · rw [s.ok _ _ h]
    · cases h
def Sh.tup (s : Shs) : Sh := (Sh0.tup s).up
def Sh.clo (f : FuncId) (s : Shs) : Sh where
  Arg := s.Arg
  build x := .clo f (s.build x)
  parse p := match p with
    | .clo g cs => if g = f then s.parse cs else none
    | _ => none
  ok p x h := by
    split at h
    · split at h
      · rename_i e
        subst e
        rw [s.ok _ _ h]
      · cases h
    · cases h
  fit p := match p with
    | .clo g cs => if g = f then s.fit cs else none
    | _ => none
  fit_ok p x h := by
    split at h
    · split at h
      · rename_i e
        subst e
        exact .inr ⟨rfl, rfl, fun w O v hp => by
          simp only [PR] at hp ⊢
          obtain ⟨us, h1, h2⟩ := hp
          exact ⟨us, h1, (s.fit_ok _ _ h).prs h2⟩⟩
      · cases h
    · cases h
def Shs.nil : Shs where
  Arg := Unit
  build _ := []
  parse l := match l with
    | [] => some ()
    | _ => none
  ok p x h := by
    split at h
    · rfl
    · cases h
  fit l := match l with
    | [] => some ()
    | _ => none
  fit_ok p x h := by
    split at h
    · exact trivial
    · cases h
def Shs.cons (s : Sh) (r : Shs) : Shs where
  Arg := s.Arg × r.Arg
  build x := s.build x.1 :: r.build x.2
  parse l := match l with
    | p :: ps => match s.parse p, r.parse ps with
      | some a, some b => some (a, b)
      | _, _ => none
    | [] => none
  ok p x h := by
    split at h
    · split at h
      · rename_i h1 h2
        injection h with h
        subst h
        rw [s.ok _ _ h1, r.ok _ _ h2]
      · cases h
    · cases h
  fit l := match l with
    | p :: ps => match s.fit p, r.fit ps with
      | some a, some b => some (a, b)
      | _, _ => none
    | [] => none
  fit_ok p x h := by
    split at h
    · split at h
      · rename_i h1 h2
        injection h with h
        subst h
        exact ⟨s.fit_ok _ _ h1, r.fit_ok _ _ h2⟩
      · cases h
    · cases h
/-- A value that is known. -/
inductive Lit where
  | dead
  | nil
  | ref (N : Nat)
  | clo (f : FuncId)
def Lit.pv : Lit → PV
  | .dead => .dead
  | .nil => .nil
  | .ref N => .ref N
  | .clo f => .clo f []
def Lit.is : Lit → PV → Bool
  | .dead, .dead => true
  | .nil, .nil => true
  | .ref N, .ref M => N == M
  | .clo f, .clo g [] => f == g
  | _, _ => false
theorem Lit.is_ok {l : Lit} {p : PV} (h : l.is p = true) : p = l.pv := by
  cases l <;> cases p <;> first | rfl | cases h | skip
  · simp only [Lit.is, beq_iff_eq] at h
    rw [h]
    rfl
  · rename_i f g cs
    cases cs with
    | nil =>
      simp only [Lit.is, beq_iff_eq] at h
      rw [h]
      rfl
    | cons c cs => cases h
def Shs.lit (l : Lit) (r : Shs) : Shs where
  Arg := r.Arg
  build x := l.pv :: r.build x
  parse ps := match ps with
    | p :: ps => match l.is p with
      | true => r.parse ps
      | false => none
    | [] => none
  ok p x h := by
    split at h
    · split at h
      · rename_i h1
        rw [Lit.is_ok h1, r.ok _ _ h]
      · cases h
    · cases h
  fit ps := match ps with
    | p :: ps => match l.is p with
      | true => r.fit ps
      | false => none
    | [] => none
  fit_ok p x h := by
    split at h
    · split at h
      · rename_i h1
        rw [Lit.is_ok h1]
        exact ⟨.inl rfl, r.fit_ok _ _ h⟩
      · cases h
    · cases h
def Shs.dd : Nat → Shs → Shs
  | 0, r => r
  | n + 1, r => .lit .dead (Shs.dd n r)
/-- Slots and objects, these by the names 0, 1, ... -/
structure Shst where
  sl : Shs
  ob : Shs
  n : Nat
def obL : List PV → Nat → List (Nat × PV)
  | [], _ => []
  | p :: ps, i => (i, p) :: obL ps (i + 1)
def unL : List (Nat × PV) → Nat → Option (List PV)
  | [], _ => some []
  | (j, p) :: r, i => if j = i then (match unL r (i + 1) with
    | some ps => some (p :: ps)
    | none => none) else none
theorem unL_ok : (l : List (Nat × PV)) → (i : Nat) → (ps : List PV) → unL l i = some ps → l = obL ps i
  | [], i, ps, h => by
    simp only [unL, Option.some.injEq] at h
    subst h
    rfl
  | (j, p) :: r, i, ps, h => by
    simp only [unL] at h
    split at h
    · rename_i e
      subst e
      split at h
      · rename_i ps' h1
        injection h with h
        subst h
        rw [unL_ok r _ ps' h1]
        rfl
      · cases h
    · cases h
def Shst.Arg (s : Shst) : Type := s.sl.Arg × s.ob.Arg
def Shst.build (s : Shst) (x : s.sl.Arg × s.ob.Arg) : St := { sl := s.sl.build x.1, ob := obL (s.ob.build x.2) 0, nx := s.n }
def Shst.parse (s : Shst) (σ : St) : Option (s.sl.Arg × s.ob.Arg) :=
  match s.sl.parse σ.sl, unL σ.ob 0, decide (σ.nx = s.n) with
  | some a, some ps, true => match s.ob.parse ps with
    | some b => some (a, b)
    | none => none
  | _, _, _ => none
theorem Shst.ok (s : Shst) (σ : St) (x : s.sl.Arg × s.ob.Arg) (h : s.parse σ = some x) : σ = s.build x := by
  unfold Shst.parse at h
  split at h
  · rename_i h1 h2 h3
    split at h
    · rename_i h4
      injection h with h
      subst h
      obtain ⟨sl, ob, nx⟩ := σ
      simp only [decide_eq_true_eq] at h1 h2 h3
      rw [s.sl.ok _ _ h1, unL_ok _ _ _ h2, s.ob.ok _ _ h4, h3]
      rfl
    · cases h
  · cases h
end Go.Proofs.Ytlpooghphoohcaa.R
/- From texts to functions: what is told of each one, and what follows. -/
namespace Go.Proofs.Ytlpooghphoohcaa.R
open Go.RowKit
set_option linter.unusedVariables false

/-! words of the printed functions -/
def w64 (n : Int) : Int := wr .i64 n
def wu64 (n : Int) : Int := wr .u64 n
def w32 (n : Int) : Int := wr .i32 n
def wu32 (n : Int) : Int := wr .u32 n
def w16 (n : Int) : Int := wr .i16 n
def wu16 (n : Int) : Int := wr .u16 n
def w8 (n : Int) : Int := wr .i8 n
def wu8 (n : Int) : Int := wr .u8 n
def gd {A : Type} (z : A) (c : Prop) [Decidable c] (k : A) : A := if c then k else z
def apI {A : Type} (z : A) (n by_ : Nat) (k : A) : A := if n * by_ ≤ 140737488355328 then k else z
def optN {A : Type} (z : A) (r : Option Nat) (k : Nat → A) : A := match r with
  | some n => k n
  | none => z

/-- Only so that the kernel unfolds `step` before the words of the printed functions. -/
def stepTop : Nat := mkI (0 : Nat) 8 (w64 0 + wu64 0) fun m => inI 0 0 m fun j => toI 0 0 j fun q => gd 0 (q ≠ 0) <| apI 0 q 8 <| optN 0 (some q) fun r => r
def step {B : Type} (z : B) (f : Nat → B) : Nat → B
  | 0 => (fun _ : Nat => z) stepTop
  | k + 1 => f k
theorem step_succ {B : Type} (z : B) (f : Nat → B) (k : Nat) : step z f (k + 1) = f k := rfl

/-! functions -/
structure En where
  f : FuncId
  A : Shs
  go : Nat → A.Arg → (List PV → PV → Prop) → Prop
def Cn (k : Nat) : List En → Hd Prop
  | [] => fun _ _ _ => False
  | e :: es => fun f args Φ => if e.f = f then (match e.A.fit args with
    | some x => e.go k x Φ
    | none => Cn k es f args Φ) else Cn k es f args Φ
def EnOk (P : Program) (k : Nat) (e : En) : Prop := ∀ x Φ, e.go k x Φ → ∃ outs res, Φ outs res ∧ FnRel P e.f (e.A.build x) outs res
theorem Cn_ok {P : Program} {k : Nat} : (es : List En) → (∀ e, e ∈ es → EnOk P k e) → HdOk P (Cn k es)
  | [], _ => fun f args Φ h => h.elim
  | e :: es, he => by
    intro f args Φ h
    simp only [Cn] at h
    split at h
    · rename_i ef
      split at h
      · rename_i x hx
        obtain ⟨outs, res, h1, h2⟩ := he e (by simp) x Φ h
        exact ⟨outs, res, h1, ef ▸ h2.weak (e.A.fit_ok _ _ hx)⟩
      · exact Cn_ok es (fun e' h' => he e' (by simp [h'])) f args Φ h
    · exact Cn_ok es (fun e' h' => he e' (by simp [h'])) f args Φ h
/-! pieces -/
structure Pc where
  i : Nat
  S : Shst
  go : Nat → S.sl.Arg × S.ob.Arg → (Exit → St → Prop) → Prop
def Dp (keep : Nat → List Nat) (k : Nat) : List Pc → Nat → (Exit → St → Prop) → St → Prop
  | [] => fun _ _ _ => False
  | p :: ps => fun i K σ => if p.i = i then (match p.S.parse (σ.canon (keep i)) with
    | some x => p.go k x K
    | none => Dp keep k ps i K σ) else Dp keep k ps i K σ
def codeOf : Exit → Nat
  | .normal => 0
  | .ret => 1
  | .exit j => j + 2
  | _ => 0
def look2 : List (Nat × List Nat) → Nat → List Nat
  | [], _ => []
  | (a, l) :: r, n => if a = n then l else look2 r n
def look3 : List (Nat × List (Nat × List Nat)) → Nat → List (Nat × List Nat)
  | [], _ => []
  | (a, l) :: r, n => if a = n then l else look3 r n
def stepS (P : Program) (C : Hd Prop) (io : FuncId → List Bool) (cut : Nat → Bool) (keepX : Nat → Exit → List Nat) (D : Nat → (Exit → St → Prop) → St → Prop) (i : Nat) (K : Exit → St → Prop) (σ : St) : Option Piece → Prop
  | some (.loop c m) => exec P C io False cut D c m (fun e σ' => match e with
      | .normal => D i K σ'
      | e => K e (σ'.canon (keepX i e))) σ
  | some (.rest c m) => exec P C io False cut D c m (fun e σ' => K e (σ'.canon (keepX i e))) σ
  | none => False
structure Fd where
  f : FuncId
  fn : Func
  A : Shs
  go : Nat → A.Arg → (List PV → PV → Prop) → Prop
  es : List En
  cut : List Nat
  kp : List (Nat × List Nat)
  kx : List (Nat × List (Nat × List Nat))
  ps : List Pc
  fs : List (List Fm)
namespace Fd
variable (F : Fd) (P : Program) (io : FuncId → List Bool)
noncomputable def b : Code := F.fn.body.getD .skip
def en : En := ⟨F.f, F.A, F.go⟩
def keep : Nat → List Nat := look2 F.kp
def keepX (i : Nat) (e : Exit) : List Nat := look2 (look3 F.kx i) (codeOf e)
def cuts (n : Nat) : Bool := F.cut.contains n
/-- What a function's text is to be. -/
noncomputable def run (k : Nat) (x : F.A.Arg) (Φ : List PV → PV → Prop) : Prop :=
  exec P (Cn k F.es) io False F.cuts (Dp F.keep k F.ps) F.b 0 (finE P False F.fs F.fn (F.A.build x) Φ) (initSt (F.A.build x) F.fn.ntmps)
/-- What a piece's text is to be. -/
noncomputable def step (p : Pc) (k : Nat) (x : p.S.sl.Arg × p.S.ob.Arg) (K : Exit → St → Prop) : Prop :=
  stepS P (Cn k F.es) io F.cuts F.keepX (Dp F.keep k F.ps) p.i K (p.S.build x) (pieceAt F.b 0 p.i)
structure PcOk (p : Pc) : Prop where
  zero : ∀ x K, ¬ p.go 0 x K
  tie : ∀ k x K, p.go (k + 1) x K = F.step P io p k x K
def chk : Bool := F.fn.body.isSome && !(F.fn.name == "runtime.NumGoroutine") && Nat.blt F.f 1000000
end Fd
theorem Dp_some {keep : Nat → List Nat} {k i : Nat} {K : Exit → St → Prop} {σ : St} : (ps : List Pc) → Dp keep k ps i K σ → ∃ p x, p ∈ ps ∧ p.i = i ∧ p.S.parse (σ.canon (keep i)) = some x ∧ p.go k x K
  | [], h => h.elim
  | p :: ps, h => by
    simp only [Dp] at h
    split at h
    · rename_i hi
      split at h
      · rename_i x hx
        exact ⟨p, x, by simp, hi, hx, h⟩
      · obtain ⟨q, x, h1, h2⟩ := Dp_some ps h
        exact ⟨q, x, by simp [h1], h2⟩
    · obtain ⟨q, x, h1, h2⟩ := Dp_some ps h
      exact ⟨q, x, by simp [h1], h2⟩
namespace Fd
variable {F : Fd} {P : Program} {io : FuncId → List Bool}
/-- Pieces are sound at a count if functions are below it. -/
theorem lam (hm : P.follows .mixedOrders = true) {T : List Nat} (hT : noDst T F.b = true) (hp : ∀ p, p ∈ F.ps → F.PcOk P io p) : ∀ k, (∀ j, j < k → ∀ e, e ∈ F.es → EnOk P j e) → LamOk P T F.b 0 (Dp F.keep k F.ps)
  | 0, _ => by
    intro i pc K σ _ h
    obtain ⟨p, x, h1, _, _, h4⟩ := Dp_some _ h
    exact ((hp p h1).zero x K h4).elim
  | k + 1, hC => by
    have ih := lam hm hT hp k fun j hj => hC j (by omega)
    refine disp1 (io := io) (cut := F.cuts) hm (Cn_ok F.es (hC k (by omega))) hT ih (keep := F.keep) (keepX := F.keepX) fun i pc K σ hpc h => ?_
    obtain ⟨p, x, h1, h2, h3, h4⟩ := Dp_some _ h
    rw [(hp p h1).tie k x K] at h4
    subst h2
    simp only [Fd.step, hpc] at h4
    rw [← p.S.ok _ x h3] at h4
    cases pc <;> exact h4
theorem ok (hm : P.follows .mixedOrders = true) (hf : P.funcs[F.f]? = some F.fn) (hc : F.chk = true) (hn : ∀ x, (F.A.build x).length ≤ F.fn.ntmps) (hT : ∀ x, noDst (ioIdx (F.A.build x) 0) F.b = true)
    (hp : ∀ p, p ∈ F.ps → F.PcOk P io p) (ht : ∀ k x Φ, F.go k x Φ = F.run P io k x Φ) (k : Nat) (he : ∀ j, j ≤ k → ∀ e, e ∈ F.es → EnOk P j e) : EnOk P k F.en := by
  intro x Φ h
  have h : F.run P io k x Φ := (ht k x Φ).mp h
  simp only [chk, Bool.and_eq_true, Bool.not_eq_true'] at hc
  have hb : F.fn.body = some F.b := by
    unfold b
    cases hb : F.fn.body with
    | none => rw [hb] at hc; cases hc.1.1
    | some c => rfl
  exact fn_ok hm (Cn_ok F.es (he k (Nat.le_refl _))) hf hc.2 hc.1.2 hb (hn x) (hT x) (lam hm (hT x) hp k fun j hj => he j (by omega)) h
/-- One that doesn't call itself. -/
theorem okS (hm : P.follows .mixedOrders = true) (hf : P.funcs[F.f]? = some F.fn) (hc : F.chk = true) (hn : ∀ x, (F.A.build x).length ≤ F.fn.ntmps) (hT : ∀ x, noDst (ioIdx (F.A.build x) 0) F.b = true)
    (hp : ∀ p, p ∈ F.ps → F.PcOk P io p) (h0 : ∀ x Φ, ¬ F.go 0 x Φ) (ht : ∀ k x Φ, F.go (k + 1) x Φ = F.run P io k x Φ) (he : ∀ j, ∀ e, e ∈ F.es → EnOk P j e) (k : Nat) : EnOk P k F.en := by
  cases k with
  | zero => exact fun x Φ h => (h0 x Φ h).elim
  | succ k =>
    intro x Φ h
    have h : F.run P io k x Φ := (ht k x Φ).mp h
    simp only [chk, Bool.and_eq_true, Bool.not_eq_true'] at hc
    have hb : F.fn.body = some F.b := by
      unfold b
      cases hb : F.fn.body with
      | none => rw [hb] at hc; cases hc.1.1
      | some c => rfl
    exact fn_ok hm (Cn_ok F.es (he k)) hf hc.2 hc.1.2 hb (hn x) (hT x) (lam hm (hT x) hp k fun j _ => he j) h
/-- One that calls itself. -/
theorem okRec (hm : P.follows .mixedOrders = true) (hf : P.funcs[F.f]? = some F.fn) (hc : F.chk = true) (hn : ∀ x, (F.A.build x).length ≤ F.fn.ntmps) (hT : ∀ x, noDst (ioIdx (F.A.build x) 0) F.b = true)
    (hp : ∀ p, p ∈ F.ps → F.PcOk P io p) (h0 : ∀ x Φ, ¬ F.go 0 x Φ) (ht : ∀ k x Φ, F.go (k + 1) x Φ = F.run P io k x Φ) (he : ∀ k, EnOk P k F.en → ∀ e, e ∈ F.es → EnOk P k e) : ∀ k, (∀ j, j ≤ k → EnOk P j F.en)
  | 0 => fun j hj x Φ h => by
    have : j = 0 := by omega
    subst this
    exact (h0 x Φ h).elim
  | k + 1 => by
    have ih := okRec hm hf hc hn hT hp h0 ht he k
    intro j hj
    by_cases hjk : j ≤ k
    · exact ih j hjk
    · have : j = k + 1 := by omega
      subst this
      intro x Φ h
      have h : F.run P io k x Φ := (ht k x Φ).mp h
      simp only [chk, Bool.and_eq_true, Bool.not_eq_true'] at hc
      have hb : F.fn.body = some F.b := by
        unfold b
        cases hb : F.fn.body with
        | none => rw [hb] at hc; cases hc.1.1
        | some c => rfl
      exact fn_ok hm (Cn_ok F.es (he k (ih k (Nat.le_refl _)))) hf hc.2 hc.1.2 hb (hn x) (hT x) (lam hm (hT x) hp k fun j hj => he j (ih j (by omega))) h
end Fd
theorem nilAll {α : Type _} {Q : α → Prop} : ∀ a, a ∈ ([] : List α) → Q a := fun _ h => nomatch h
theorem consAll {α : Type _} {Q : α → Prop} {b : α} {l : List α} (h : Q b) (t : ∀ a, a ∈ l → Q a) : ∀ a, a ∈ b :: l → Q a := fun a ha => (List.mem_cons.1 ha).elim (fun e => e ▸ h) (t a)
end Go.Proofs.Ytlpooghphoohcaa.R
/- A copy of a row: nil or not, what it holds. -/
namespace Go.Proofs.Ytlpooghphoohcaa.R
open Go.RowKit
set_option linter.unusedVariables false
section
variable {P : Program}
/-- Whether a shared row is nil can't be told; what follows has to hold both ways. -/
theorem eqNil_ok {o : Oper} {ts e' l : TypeId} {y : Operand} {t : Ty} {xs : List t.El} (ho : o.op = .binOp .eql ts y (.const (.slice none 0 0)) l) (hts : P.underlying ts = some (.slice e')) {σ : St} (hy : σ.eval y = .val (.sl t) xs)
    {X W0 : Foot} {w0 : World} {D : Nat → Prop} {a : Act} {w : World} {K : Act → World → Prop} {Q : Exit → Act → World → Prop} (hR : R X W0 w0 D σ a w)
    (hk : ∀ b, (b = true → xs = []) → ∀ a' w', R X W0 w0 D (σ.apply (put o (.val .bool b))) a' w' → K a' w') : o.wp P a w K Q := by
  obtain ⟨env, F, hR⟩ := hR
  have he := hR.ev y
  rw [hy] at he
  simp only [PR] at he
  obtain ⟨ad, c, us, hv, hr, hm, hc⟩ := RV_sl.1 he
  have hrun := Go.Lib.run_eql_slice_nil (P := P) w ts e' ad xs.length c 0 0 hts
  have hex : (execOp a.eval o).run P w = .ok (.value (.bool ad.isNone)) w := by
    simp only [execOp, ho]
    rw [hv]
    simp [Act.eval, eqGuard, hrun]
  refine wp_value hex (hk ad.isNone (fun hn => ?_) _ _ ⟨env, F, hR.puto o (by simp only [PR, RV])⟩)
  cases ad with
  | some _ => cases hn
  | none =>
    have hu : us = [] := Classical.byContradiction fun hne => by
      obtain ⟨_, _, h, _⟩ := hm hne
      cases h
    have := hr.1
    rw [hu] at this
    have hp := t.sz_pos
    cases xs with
    | nil => rfl
    | cons x xs =>
      simp only [List.length_nil, List.length_cons] at this
      have := Nat.mul_pos (show 0 < xs.length + 1 by omega) hp
      omega
theorem clone_fn (hm : P.follows .mixedOrders = true) {f : FuncId} (hlt : Nat.blt f 1000000 = true) {fn : Func} {e e' ts l : TypeId} {t : Ty} {r0 cnd rest : Code} {id : Nat} {o1 o2 : Oper} {fs : List (List Fm)} (hf : P.funcs[f]? = some fn) (hname : (fn.name == "runtime.NumGoroutine") = false)
    (hb : fn.body = some (.seq r0 (.seq (.seq (.region id #[o1, o2] false) cnd) rest))) (ho1 : o1.op = .move (.tmp 0)) (hd1 : o1.dst = some 3) (hg1 : o1.guard = none)
    (ho2 : o2.op = .binOp .eql ts (.tmp 3) (.const (.slice none 0 0)) l) (hd2 : o2.dst = some 4) (hg2 : o2.guard = none) (hts : P.underlying ts = some (.slice e')) (hn : 1 ≤ fn.ntmps) {xs : List t.El} {σ1 : St}
    (h0 : exec P (fun _ _ _ => False) (fun _ => []) False (fun _ => false) (fun _ _ _ => False) r0 0 (fun ex σ => ex = .normal ∧ σ = σ1) (initSt [.val (.sl t) xs] fn.ntmps))
    (h1 : σ1.get 0 = .val (.sl t) xs) (h1l : 3 < σ1.sl.length)
    (h2 : ∀ b, (b = true → xs = []) → exec P (fun _ _ _ => False) (fun _ => []) False (fun _ => false) (fun _ _ _ => False) (.seq cnd rest) 0 (finE P False fs fn [.val (.sl t) xs] fun outs res => outs = [] ∧ res = .row e t xs) { (σ1.upd (.sl 3 (.val (.sl t) xs))).upd (.sl 4 (.val .bool b)) with nx := σ1.nx + 64 }) :
    FnRel P f [.val (.sl t) xs] [] (.row e t xs) := by
  have hC : HdOk P (fun _ _ _ => False) := fun _ _ _ h => h.elim
  have nd : ∀ c : Code, noDst [] c = true := by
    intro c
    induction c with
    | region _ ops _ =>
      simp only [noDst, List.all_eq_true]
      intro o _
      cases o.dst <;> rfl
    | seq a b iha ihb => simp only [noDst, iha, ihb, Bool.and_self]
    | cond _ a b iha ihb => simp only [noDst, iha, ihb, Bool.and_self]
    | block _ a iha => simpa only [noDst] using iha
    | loop a iha => simpa only [noDst] using iha
    | _ => rfl
  have hΛ : ∀ c, LamOk P [] c 0 (fun _ _ _ => False) := fun c i pc K σ _ h => h.elim
  obtain ⟨ex, σ', ⟨rfl, rfl⟩, c0⟩ := exec_ok hm hC r0 0 (nd r0) (hΛ r0) _ _ h0
  refine FnRel0.up ⟨fun as w => by
    have h1 : fn.name ≠ "runtime.NumGoroutine" := by simpa using hname
    simp [callFunc, hf, h1, hb], fun X w vals Fs pre => ?_⟩ hlt
  refine calls_of_wp hf hb ?_
  refine wp_seq (c0 (fun t => vals.getD t undef) X (Un Fs) w _ _ w ⟨init_ok pre hn, fun t ht => nomatch ht⟩ fun a1 w1 hR1 => ?_)
  refine wp_seq (wp_seq (wp_region ?_))
  obtain ⟨hR1, _⟩ := hR1
  show wpOps P #[o1, o2] _ [0, 1] a1 w1
  rw [wpOps_cons]
  unfold wpOp
  have w1' : Region.wanted o1 (yielded #[o1, o2] a1.tmps) = true := by simp [Region.wanted, hg1]
  simp only [List.getElem?_toArray, List.getElem?_cons_zero, w1', if_true]
  refine .inl ?_
  have hev : σ'.eval (.tmp 0) = .val (.sl t) xs := h1
  have hmv := ok_move (P := P) (nm := σ'.nx) (o := o1) (σ := σ') (x := .tmp 0) (.inl ho1)
  refine hmv X (Un Fs) w _ a1 w1 _ _ (fun M h1 _ h3 => by omega) hR1 fun a2 w2 hR2 => ?_
  rw [hev, put, hd1] at hR2
  have hR2 : R X (Un Fs) w (Fresh (fun M => M < σ'.nx) σ'.nx) (σ'.upd (.sl 3 (.val (.sl t) xs))) a2 w2 := hR2
  show wpOps P #[o1, o2] _ [1] a2 w2
  rw [wpOps_cons]
  unfold wpOp
  have w2' : Region.wanted o2 (yielded #[o1, o2] a2.tmps) = true := by simp [Region.wanted, hg2]
  have e2 : (#[o1, o2] : Array Oper)[1]? = some o2 := rfl
  simp only [e2, w2', if_true]
  refine .inl ?_
  have hy : (σ'.upd (.sl 3 (.val (.sl t) xs))).eval (.tmp 3) = .val (.sl t) xs := by
    simp [St.eval, St.get, St.upd, List.getD_eq_getElem?_getD, h1l]
  refine eqNil_ok ho2 hts hy hR2 fun b hb a3 w3 hR3 => ?_
  rw [put, hd2] at hR3
  have hR3 : R X (Un Fs) w (Fresh (fun M => M < σ'.nx) σ'.nx) ((σ'.upd (.sl 3 (.val (.sl t) xs))).upd (.sl 4 (.val .bool b))) a3 w3 := hR3
  show Exit.then _ _ .normal a3 w3
  have hx := h2 b hb
  simp only [exec] at hx
  have hR4 := R.grow (D' := fun M => M < σ'.nx + 64) hR3 fun M hM => by rcases hM with hM | ⟨_, hM⟩ <;> omega
  obtain ⟨e4, σ4, hk4, c4⟩ := exec_ok hm hC cnd _ (nd cnd) (fun i pc K σ _ h => h.elim) _ _ hx
  have fin_ : ∀ ex σ5 a5 w5, finE P False fs fn [.val (.sl t) xs] (fun outs res => outs = [] ∧ res = .row e t xs) ex σ5 → RS [] (fun t => vals.getD t undef) X (Un Fs) w σ5 a5 w5 → bodyPost P fn (fun e_1 w' => ∃ v H, e_1 = Ending.returned v ∧ FnPost X w w' [.val (.sl t) xs] [] vals Fs (.row e t xs) v H) ex a5 w5 := by
    intro ex σ5 a5 w5 hk hR5
    have hk' : fin P False fs fn.results.toList [.val (.sl t) xs] (fun outs res => outs = [] ∧ res = .row e t xs) (settleR fn.results.toList σ5) ∧ (ex = .normal ∨ ex = .ret) := by
      cases ex <;> first | exact ⟨hk, .inl rfl⟩ | exact ⟨hk, .inr rfl⟩ | exact hk.elim
    obtain ⟨os, res, ⟨rfl, rfl⟩, hpost⟩ := post_ok hk'.1
    obtain ⟨hR0, _⟩ := hR5
    obtain ⟨env, F, hRl⟩ := hR0.settle [] (nub ((resNms σ5 fn.results.toList).flatMap fun N => (look σ5.ob N).nms) (nub (resNms σ5 fn.results.toList) []))
    obtain ⟨v, H, hr, hp⟩ := hpost X w vals Fs _ a5 w5 env F pre hRl (fun t ht => nomatch ht)
    rcases hk'.2 with rfl | rfl
    · exact ⟨hRl.df, v, hr, v, H, rfl, hp⟩
    · exact ⟨hRl.df, v, hr, v, H, rfl, hp⟩
  refine c4 (fun t => vals.getD t undef) X (Un Fs) w _ _ w3 (RS.re rfl hR4 fun t ht => nomatch ht) fun a4 w4 hR5 => ?_
  cases e4 with
  | normal =>
    simp only [Bool.false_eq_true, if_false] at hk4
    obtain ⟨ex, σ5, hk, c5⟩ := exec_ok hm hC rest _ (nd rest) (fun i pc K σ _ h => h.elim) _ _ hk4
    exact c5 (fun t => vals.getD t undef) X (Un Fs) w _ _ w4 hR5 fun a5 w5 hR6 => fin_ ex σ5 a5 w5 hk hR6
  | ret => exact fin_ .ret σ4 a4 w4 hk4 hR5
  | _ => exact hk4.elim
def clA : Code → Code
  | .seq a _ => a
  | _ => .skip
def clB : Code → Code
  | .seq _ b => b
  | _ => .skip
def clO (i : Nat) : Code → Oper
  | .region _ ops _ => ops[i]!
  | _ => default
def clI : Code → Nat
  | .region i _ _ => i
  | _ => 0
theorem apI_of {n b : Nat} {p : Prop} (h : apI False n b p) : n * b ≤ 140737488355328 ∧ p := by
  unfold apI at h
  split at h
  · exact ⟨by assumption, h⟩
  · exact h.elim
/-- The like, as what a printed function tells. -/
theorem clone_ok (hm : P.follows .mixedOrders = true) {f : FuncId} {fn : Func} {e e' : TypeId} (ts : TypeId) {t : Ty} {fs : List (List Fm)} {k : Nat} {σ1 : List t.El → St} (hf : P.funcs[f]? = some fn) (hname : (fn.name == "runtime.NumGoroutine") = false)
    (hb : fn.body = some (.seq (clA (fn.body.getD .skip)) (.seq (.seq (.region (clI (clA (clA (clB (fn.body.getD .skip))))) #[clO 0 (clA (clA (clB (fn.body.getD .skip)))), clO 1 (clA (clA (clB (fn.body.getD .skip))))] false) (clB (clA (clB (fn.body.getD .skip))))) (clB (clB (fn.body.getD .skip)))))) (ho1 : (clO 0 (clA (clA (clB (fn.body.getD .skip))))).op = .move (.tmp 0)) (hd1 : (clO 0 (clA (clA (clB (fn.body.getD .skip))))).dst = some 3) (hg1 : (clO 0 (clA (clA (clB (fn.body.getD .skip))))).guard = none)
    (ho2 : (clO 1 (clA (clA (clB (fn.body.getD .skip))))).op = .binOp .eql ts (.tmp 3) (.const (.slice none 0 0)) ts) (hd2 : (clO 1 (clA (clA (clB (fn.body.getD .skip))))).dst = some 4) (hg2 : (clO 1 (clA (clA (clB (fn.body.getD .skip))))).guard = none) (hts : P.underlying ts = some (.slice e')) (hn : 1 ≤ fn.ntmps)
    (h0 : ∀ xs K, exec P (fun _ _ _ => False) (fun _ => []) False (fun _ => false) (fun _ _ _ => False) (clA (fn.body.getD .skip)) 0 K (initSt [.val (.sl t) xs] fn.ntmps) = K .normal (σ1 xs))
    (h1 : ∀ xs, (σ1 xs).get 0 = .val (.sl t) xs) (h1l : ∀ xs, 3 < (σ1 xs).sl.length)
    (h2 : ∀ Φ, exec P (fun _ _ _ => False) (fun _ => []) False (fun _ => false) (fun _ _ _ => False) (.seq (clB (clA (clB (fn.body.getD .skip)))) (clB (clB (fn.body.getD .skip)))) 0 (finE P False fs fn [.val (.sl t) []] Φ) { ((σ1 []).upd (.sl 3 (.val (.sl t) []))).upd (.sl 4 (.val .bool true)) with nx := (σ1 []).nx + 64 } = Φ [] (.row e t []))
    (h3 : ∀ (xs : List t.El) Φ, exec P (fun _ _ _ => False) (fun _ => []) False (fun _ => false) (fun _ _ _ => False) (.seq (clB (clA (clB (fn.body.getD .skip)))) (clB (clB (fn.body.getD .skip)))) 0 (finE P False fs fn [.val (.sl t) xs] Φ) { ((σ1 xs).upd (.sl 3 (.val (.sl t) xs))).upd (.sl 4 (.val .bool false)) with nx := (σ1 xs).nx + 64 } = (if (0 + xs.length) * byOf P e ≤ 140737488355328 then Φ [] (.row e t ([] ++ xs)) else False))
    (by_ : Nat) (hby : byOf P e = by_) {go : Nat → (Shs.cons (.val (.sl t)) .nil).Arg → (List PV → PV → Prop) → Prop}
    (hgo : ∀ k x Φ, go k x Φ → List.length (α := t.El) x.1 * by_ ≤ 140737488355328 ∧ Φ [] (.row e t x.1)) (hlt : Nat.blt f 1000000 = true := by rfl) : EnOk P k ⟨f, .cons (.val (.sl t)) .nil, go⟩ := by
  subst hby
  intro x Φ h
  obtain ⟨hl, hΦ⟩ := hgo k x Φ h
  obtain ⟨xs, u⟩ := x
  refine ⟨[], .row e t xs, hΦ, ?_⟩
  have hl : xs.length * byOf P e ≤ 140737488355328 := hl
  refine clone_fn hm hlt hf hname hb ho1 hd1 hg1 ho2 hd2 hg2 hts hn (fs := fs) ((h0 xs _).mpr ⟨rfl, rfl⟩) (h1 xs) (h1l xs) fun b hb => ?_
  cases b with
  | true =>
    have := hb rfl
    subst this
    exact (h2 _).mpr ⟨rfl, rfl⟩
  | false =>
    refine (h3 xs _).mpr ?_
    rw [if_pos (by rw [Nat.zero_add]; exact hl)]
    exact ⟨rfl, rfl⟩
end
end Go.Proofs.Ytlpooghphoohcaa.R
/- A law over bytes: from what its text tells to a call. -/
namespace Go.Proofs.Ytlpooghphoohcaa.R
open Go.RowKit
set_option linter.unusedVariables false
def IsRow (k : IntKind) (w : World) (a : Option Addr) (len cap : Nat) (zs : List Int) : Prop :=
  (a = none ∧ len = 0 ∧ cap = 0 ∧ zs = []) ∨
  ∃ x, a = some x ∧ len ≤ cap ∧ cap ≤ maxLen ∧ zs.length = cap ∧ (∀ i, i < zs.length → w.cell? (x.add i) = some (.int k (zs.getD i 0))) ∧ ∀ n ∈ zs, (Lit.int k n).wf = true
theorem IsRow.rv {k : IntKind} {w : World} {a : Option Addr} {len cap : Nat} {zs : List Int} (h : IsRow k w a len cap zs) : RV w (fun _ _ => False) (.sl (.int k)) (zs.take len) [.slice a len cap] := by
  rcases h with ⟨rfl, rfl, rfl, rfl⟩ | ⟨x, rfl, h1, h2, h3, h4, h5⟩
  · exact RV_sl.2 ⟨none, 0, [], rfl, ⟨rfl, fun i hi => absurd hi (Nat.not_lt_zero _)⟩, fun h => absurd rfl h, Nat.le_refl _⟩
  · have hlen : (zs.take len).length = len := by rw [List.length_take]; omega
    have hml : ((zs.take len).map (Value.int k)).length = len := by rw [List.length_map, hlen]
    refine RV_sl.2 ⟨some x, cap, (zs.take len).map (Value.int k), ?_, ⟨?_, fun i hi => ?_⟩, fun hne => ?_, ?_⟩
    · show Value.slice (some x) len cap = Value.slice (some x) (List.length (α := Int) (zs.take len)) cap
      rw [hlen]
    · show _ = List.length (α := Int) (zs.take len) * 1
      rw [hml, hlen, Nat.mul_one]
    · have hi : i < List.length (α := Int) (zs.take len) := hi
      show List.take 1 (List.drop (i * 1) ((zs.take len).map (Value.int k))) = [Value.int k (List.get (α := Int) (zs.take len) ⟨i, hi⟩)]
      have hi' : i < ((zs.take len).map (Value.int k)).length := by rw [List.length_map]; exact hi
      rw [Nat.mul_one, List.drop_eq_getElem_cons hi', List.take_succ_cons, List.take_zero, List.getElem_map, List.get_eq_getElem]
    · have hpos : 0 < len := by
        rcases Nat.eq_zero_or_pos len with e | e
        · subst e; simp at hne
        · exact e
      obtain ⟨b, o, s⟩ := x
      have h0 := h4 0 (by omega)
      simp only [Addr.add, if_true] at h0
      have hs := World.cell?_spot h0
      simp only at hs
      subst hs
      refine ⟨b, o, rfl, fun j u hj => ?_⟩
      rw [List.getElem?_map] at hj
      obtain ⟨n, hn, rfl⟩ := Option.map_eq_some_iff.1 hj
      rw [List.getElem?_take] at hn
      split at hn
      · rename_i hjl
        have hjz : j < zs.length := by omega
        have := h4 j hjz
        have he : zs.getD j 0 = n := by rw [List.getD_eq_getElem?_getD, hn]; rfl
        rw [he] at this
        refine ⟨?_, id⟩
        simp only [cl]
        rw [← this]
        unfold Addr.add
        split
        · rename_i e; subst e; rfl
        · rfl
      · cases hn
    · show List.length (α := Int) (zs.take len) ≤ cap
      rw [hlen]; exact h1
/-- A call with one row of bytes that answers true. -/
theorem bytes_calls {P : Program} {k : Nat} {f : FuncId} (hlt : Nat.blt f 1000000 = true) {go : Nat → (Shs.cons (.val (.sl (.int .u8))) .nil).Arg → (List PV → PV → Prop) → Prop} (hE : EnOk P k ⟨f, .cons (.val (.sl (.int .u8))) .nil, go⟩) {a : Option Addr} {len cap : Nat} {zs : List Int} {w : World} (h : IsRow .u8 w a len cap zs)
    (hgo : go k (zs.take len, ()) fun outs res => outs = [] ∧ res = .val .bool true) :
    Calls P f #[.slice a len cap] w fun e w' => e = .returned (.bool true) ∧ Below w.heap.size w w' := by
  obtain ⟨outs, res, ⟨rfl, rfl⟩, hrel⟩ := hE _ _ hgo
  have pre : FnPre (fun _ _ => False) w ((Shs.cons (Sh.val (.sl (.int .u8))) .nil).build (zs.take len, ())) [.slice a len cap] (fun _ _ _ => False) := by
    refine ⟨⟨rfl, fun i p u hp hu => ?_, fun _ _ => rfl, fun _ _ _ _ _ h => h.elim⟩, fun _ _ _ h => h.elim, fun _ _ _ h => h.elim, fun _ _ h => h.elim⟩
    cases i with
    | zero =>
      have hp : some (PV.val (.sl (.int .u8)) (zs.take len)) = some p := hp
      injection hp with hp
      simp at hu
      subst hp hu
      refine (OB_plain rfl).2 ⟨?_, rfl⟩
      simp only [PR]
      exact RV.mono (fun b o u h1 h2 => ⟨h1, fun h3 => h3.elim id fun ⟨_, h4⟩ => h4⟩) _ h.rv
    | succ i =>
      have hp : ([] : List PV)[i]? = some p := hp
      simp at hp
  refine Calls.mono ((hrel.lt hlt).2 _ w _ _ pre) fun e w' he => ?_
  obtain ⟨v, H, rfl, post⟩ := he
  have hr := post.res
  simp only [CR3, CR2, PV.cells] at hr
  obtain ⟨⟨us, Fs, ⟨h1, h2, _⟩, _, _, h5⟩, _⟩ := hr
  have hu := h5 (fun _ h => by cases h)
  subst hu
  have hb := ((OB_plain rfl).1 (h2 0 _ _ rfl rfl)).1
  simp only [PR, RV, List.cons.injEq, and_true] at hb
  subst hb
  have e0 : Un (fun _ _ _ => False) = fun _ _ => False := by
    funext b o
    exact propext ⟨fun ⟨_, h⟩ => h, fun h => h.elim⟩
  have hk := post.kp
  rw [e0] at hk
  exact ⟨rfl, hk.below⟩
end Go.Proofs.Ytlpooghphoohcaa.R
/- A function whose first argument is a struct of which a row is written. -/
namespace Go.Proofs.Ytlpooghphoohcaa.R
open Go.RowKit
set_option linter.unusedVariables false
set_option linter.unusedSimpArgs false
attribute [local irreducible] FnRel
section
variable {P : Program}
/-- The state as one sees it whose first slots are the struct's two cells and the argument behind. -/
def unM (σ : St) : St := { σ with sl := σ.sl.set 1 (match σ.get 0 with
  | .agg [_, p] => p
  | _ => .dead) }
def finM (P : Program) (z : Prop) (fs : List (List Fm)) (fn : Func) (args : List PV) (Φ : List PV → PV → Prop) : Exit → St → Prop := fun e σ => match e with
  | .normal => fin P z fs fn.results.toList args Φ (unM σ)
  | .ret => fin P z fs fn.results.toList args Φ (unM σ)
  | _ => z
def initM (p : PV) (e : TypeId) (t : Ty) (xs : List t.El) (q : PV) (n : Nat) : St := { sl := .agg [p, .ref 1] :: q :: List.replicate (n - 2) .dead, ob := [(1, .row e t xs)], nx := 3 }
theorem mark_ok {C : Hd Prop} {io : FuncId → List Bool} (hm : P.follows .mixedOrders = true) (hC : HdOk P C) {f : FuncId} {fn : Func} {c0 : Code} (hf : P.funcs[f]? = some fn) (hname : (fn.name == "runtime.NumGoroutine") = false) (hb : fn.body = some c0)
    (hn : 3 ≤ fn.ntmps) (hT : noDst [0] c0 = true) {t0 t1 t : Ty} {x0 : t0.El} {e : TypeId} {xs : List t.El} {x1 : t1.El} {Φ : List PV → PV → Prop} {fs : List (List Fm)} {r : Nat} (hr : fn.results.toList = [.tmp r]) (hr1 : r ≠ 1)
    (h : exec P C io False (fun _ => false) (fun _ _ _ => False) c0 0 (finM P False fs fn [.val t0 x0, .row e t xs, .val t1 x1] Φ) (initM (.val t0 x0) e t xs (.val t1 x1) fn.ntmps)) :
    ∃ outs res, Φ outs res ∧ FnRel P (pk f) [.val t0 x0, .row e t xs, .val t1 x1] outs res := by
  obtain ⟨e', σ', hk, h1⟩ := exec_ok hm hC c0 0 hT (fun i pc K σ _ h => h.elim) _ _ h
  have hk' : fin P False fs fn.results.toList [.val t0 x0, .row e t xs, .val t1 x1] Φ (unM σ') ∧ (e' = .normal ∨ e' = .ret) := by
    cases e' <;> first | exact ⟨hk, .inl rfl⟩ | exact ⟨hk, .inr rfl⟩ | exact hk.elim
  obtain ⟨os, res, hΦ, hpost⟩ := post_ok hk'.1
  refine ⟨os, res, hΦ, (FnRel.packed (P := P) (f := f)).2 ?_⟩
  refine ⟨fun as w => by
    have h1 : fn.name ≠ "runtime.NumGoroutine" := by simpa using hname
    simp [callFunc, hf, h1, hb], fun X w us u Fs pre => ?_⟩
  obtain ⟨u0, u1, rfl⟩ : ∃ u0 u1, us = [u0, u1] := by
    have := pre.arg.1
    simp at this
    match us, this with
    | [a, b], _ => exact ⟨a, b, rfl⟩
  refine calls_of_wp hf hb ?_
  have hi := init_ok pre (n := fn.ntmps) hn
  obtain ⟨env, F, hi⟩ := hi
  have g0 := hi.sl 0
  have g1 := hi.sl 1
  have g2 := hi.sl 2
  have e0 : (initSt [PV.val t0 x0, .row e t xs, .val t1 x1] fn.ntmps).get 0 = .val t0 x0 := rfl
  have e1 : (initSt [PV.val t0 x0, .row e t xs, .val t1 x1] fn.ntmps).get 1 = .ref 1 := rfl
  have e2 : (initSt [PV.val t0 x0, .row e t xs, .val t1 x1] fn.ntmps).get 2 = .val t1 x1 := rfl
  rw [e0] at g0
  rw [e1] at g1
  rw [e2] at g2
  have v0 : (([u0, u1] ++ [u]).toArray ++ Array.replicate (fn.ntmps - ([u0, u1] ++ [u]).toArray.size) undef).getD 0 undef = u0 := by simp [Array.getD_eq_getD_getElem?, Array.getElem?_append]
  have v1 : (([u0, u1] ++ [u]).toArray ++ Array.replicate (fn.ntmps - ([u0, u1] ++ [u]).toArray.size) undef).getD 1 undef = u1 := by simp [Array.getD_eq_getD_getElem?, Array.getElem?_append]
  have v2 : (([u0, u1] ++ [u]).toArray ++ Array.replicate (fn.ntmps - ([u0, u1] ++ [u]).toArray.size) undef).getD 2 undef = u := by simp [Array.getD_eq_getD_getElem?, Array.getElem?_append]
  rw [v0] at g0
  rw [v1] at g1
  rw [v2] at g2
  refine h1 (fun t => if t = 0 then .agg #[u0, u1] else undef) X (Un Fs) w _ _ w ⟨⟨env, F, ?_⟩, fun t ht => ?_⟩ fun a' w' hR' => ?_
  · refine ⟨?_, rfl, fun j => ?_, hi.ob, hi.dj, hi.xf, hi.lt, hi.xl, hi.own, hi.kp, hi.dm, hi.hd⟩
    · simp [initM]
      omega
    · match j with
      | 0 =>
        show PR env _ w (Ow X F) (.agg [.val t0 x0, .ref 1]) _
        have : (#[Value.agg [u0, u1].toArray, u] ++ Array.replicate (fn.ntmps - #[Value.agg [u0, u1].toArray, u].size) undef).getD 0 undef = .agg [u0, u1].toArray := by simp [Array.getD_eq_getD_getElem?, Array.getElem?_append]
        rw [this]
        simp only [PR, PRs] at g0 g1 ⊢
        exact ⟨_, rfl, u0, _, rfl, g0, u1, [], rfl, g1, rfl⟩
      | 1 =>
        show PR env _ w (Ow X F) (.val t1 x1) _
        have : (#[Value.agg [u0, u1].toArray, u] ++ Array.replicate (fn.ntmps - #[Value.agg [u0, u1].toArray, u].size) undef).getD 1 undef = u := by simp [Array.getD_eq_getD_getElem?, Array.getElem?_append]
        rw [this]
        exact g2
      | j + 2 =>
        have : (initM (.val t0 x0) e t xs (.val t1 x1) fn.ntmps).get (j + 2) = .dead := by
          simp only [initM, St.get, List.getD_eq_getElem?_getD, List.getElem?_cons_succ, List.getElem?_replicate]
          split <;> rfl
        rw [this]
        simp only [PR]
  · simp only [List.mem_singleton] at ht
    subst ht
    simp [Array.getD_eq_getD_getElem?, Array.getElem?_append]
  · obtain ⟨⟨env, F, hRl⟩, hV⟩ := hR'
    have hV0 := hV 0 (by simp)
    simp only [if_true] at hV0
    have k0 := hRl.sl 0
    rw [hV0] at k0
    -- the state as the callee's end is told of
    have hlen : (1 : Nat) < a'.tmps.size ∨ a'.tmps.size ≤ 1 := by omega
    have hRl2 : Rl X (Un Fs) w (fun M => M < σ'.nx) (unM σ') { a' with tmps := a'.tmps.set! 1 u1 } w' env F := by
      refine ⟨by simpa [unM] using hRl.tm, hRl.df, fun t => ?_, hRl.ob, hRl.dj, hRl.xf, hRl.lt, hRl.xl, hRl.own, hRl.kp, hRl.dm, hRl.hd⟩
      have ht := hRl.sl t
      have htm := hRl.tm
      by_cases hone : t = 1
      · subst hone
        by_cases hsz : 1 < σ'.sl.length
        · have a1 : (unM σ').get 1 = (match σ'.get 0 with | .agg [_, p] => p | _ => .dead) := by
            simp [unM, St.get, List.getD_eq_getElem?_getD, hsz]
          have a2 : (a'.tmps.set! 1 u1).getD 1 undef = u1 := by
            simp [Array.getD_eq_getD_getElem?, Array.getElem?_setIfInBounds, show 1 < a'.tmps.size by omega]
          rw [a1]
          show PR env _ w' (Ow X F) _ ((a'.tmps.set! 1 u1).getD 1 undef)
          rw [a2]
          split
          · rename_i p0 p1 hp
            rw [hp] at k0
            simp only [PR, PRs] at k0
            obtain ⟨us, hus, v, vs, rfl, _, v', vs', rfl, k1, rfl⟩ := k0
            simp at hus
            rw [hus.2]
            exact k1
          · simp only [PR]
        · have a1 : (unM σ').get 1 = .dead := by
            simp [unM, St.get, List.getD_eq_getElem?_getD, hsz]
          rw [a1]
          simp only [PR]
      · have a1 : (unM σ').get t = σ'.get t := by
          simp [unM, St.get, List.getD_eq_getElem?_getD, List.getElem?_set, Ne.symm hone]
        have a2 : (a'.tmps.set! 1 u1).getD t undef = a'.tmps.getD t undef := by
          simp [Array.getD_eq_getD_getElem?, Array.getElem?_setIfInBounds, Ne.symm hone]
        rw [a1]
        show PR env _ w' (Ow X F) _ ((a'.tmps.set! 1 u1).getD t undef)
        rw [a2]
        exact ht
    have hsz1 : 1 < a'.tmps.size := by
      rw [hRl.tm]
      refine Classical.byContradiction fun hlt => ?_
      have a1 : (unM σ').get 1 = .dead := by
        simp [unM, St.get, List.getD_eq_getElem?_getD, hlt]
      have a3 : outsOf (look (unM σ').ob) (unM σ') [PV.val t0 x0, .row e t xs, .val t1 x1] 0 = none := by
        simp [outsOf, isIo, a1]
      have hk1 := hk'.1
      unfold fin at hk1
      rw [a3] at hk1
      split at hk1
      · rename_i h2
        cases h2
      · exact hk1
    obtain ⟨v, H, hrun, hp⟩ := hpost X w ([u0, u1] ++ [u]) Fs _ _ w' env F pre hRl2 (fun t ht => by
      simp only [ioIdx, isIo, Bool.false_eq_true, if_false, if_true, List.mem_singleton] at ht
      subst ht
      simp [Array.getD_eq_getD_getElem?, Array.getElem?_setIfInBounds, hsz1])
    have hres : (results fn a'.tmps).run P w' = (results fn (a'.tmps.set! 1 u1)).run P w' := by
      have e1 : fn.results = #[.tmp r] := Array.ext' hr
      unfold results
      rw [e1]
      simp [Array.getD_eq_getD_getElem?, Array.getElem?_setIfInBounds, Ne.symm hr1]
    rcases hk'.2 with rfl | rfl
    · exact ⟨hRl.df, v, hres.trans hrun, v, H, rfl, hp⟩
    · exact ⟨hRl.df, v, hres.trans hrun, v, H, rfl, hp⟩
/-- The like, as what a printed function tells. -/
theorem mark_en {io : FuncId → List Bool} (hm : P.follows .mixedOrders = true) {es : List En} (he : ∀ k, ∀ e, e ∈ es → EnOk P k e) {f : FuncId} {fn : Func} (hf : P.funcs[f]? = some fn) (hc : (fn.body.isSome && !(fn.name == "runtime.NumGoroutine")) = true)
    (hn : 3 ≤ fn.ntmps) (hT : noDst [0] (fn.body.getD .skip) = true) {e : TypeId} {r : Nat} (hr : fn.results.toList = [.tmp r]) (hr1 : r ≠ 1) {go : Nat → (Shs.cons (.val (.int .i64)) (.cons (.row e (.int .i64)) (.cons (.val (.int .i64)) .nil))).Arg → (List PV → PV → Prop) → Prop}
    (h0 : ∀ x Φ, ¬ go 0 x Φ) (ht : ∀ k (a : Int) (xs : List Int) (b : Int) Φ, go (k + 1) (a, xs, b, ()) Φ = exec P (Cn k es) io False (fun _ => false) (fun _ _ _ => False) (fn.body.getD .skip) 0 (finM P False [[.any]] fn [.val (.int .i64) a, .row e (.int .i64) xs, .val (.int .i64) b] Φ) (initM (.val (.int .i64) a) e (.int .i64) xs (.val (.int .i64) b) fn.ntmps))
    (k : Nat) : EnOk P k ⟨pk f, .cons (.val (.int .i64)) (.cons (.row e (.int .i64)) (.cons (.val (.int .i64)) .nil)), go⟩ := by
  cases k with
  | zero => exact fun x Φ h => (h0 x Φ h).elim
  | succ k =>
    intro x Φ h
    obtain ⟨a, xs, b, u⟩ := x
    have h := (ht k a xs b Φ).mp h
    simp only [Bool.and_eq_true, Bool.not_eq_true'] at hc
    have hb : fn.body = some (fn.body.getD .skip) := by
      cases hb : fn.body with
      | none => rw [hb] at hc; cases hc.1
      | some c => rfl
    exact mark_ok hm (Cn_ok es (he k)) hf hc.2 hb hn hT hr hr1 h
end
end Go.Proofs.Ytlpooghphoohcaa.R
/- A law over values that are only read: from what its text tells to a call. -/
namespace Go.Proofs.Ytlpooghphoohcaa.R
open Go.RowKit
set_option linter.unusedVariables false
/-- A call that answers true. -/
theorem plain_calls {P : Program} {k : Nat} {f : FuncId} (hlt : Nat.blt f 1000000 = true) {A : Shs} {go : Nat → A.Arg → (List PV → PV → Prop) → Prop} (hE : EnOk P k ⟨f, A, go⟩) {x : A.Arg} {vals : List Value} {w : World} (hp : ∀ p, p ∈ A.build x → p.plain = true)
    (hx : PRs env0 D0 w (fun _ _ => False) (A.build x) vals) (hgo : go k x fun outs res => outs = [] ∧ res = .val .bool true) :
    Calls P f vals.toArray w fun e w' => e = .returned (.bool true) ∧ Below w.heap.size w w' := by
  obtain ⟨outs, res, ⟨rfl, rfl⟩, hrel⟩ := hE _ _ hgo
  have pre : FnPre (fun _ _ => False) w (A.build x) vals (fun _ _ _ => False) := by
    obtain ⟨hl, hi⟩ := (PRs_iff _ _).1 hx
    refine ⟨⟨hl, fun i p u hq hu => ?_, fun _ _ => rfl, fun _ _ _ _ _ h => h.elim⟩, fun _ _ _ h => h.elim, fun _ _ _ h => h.elim, fun _ _ h => h.elim⟩
    refine (OB_plain (hp p (List.mem_of_getElem? hq))).2 ⟨?_, rfl⟩
    exact PR.mono (fun b o u h1 h2 => ⟨h1, fun h3 => h3.elim id fun ⟨_, h4⟩ => h4⟩) (fun _ h => h.elim) (fun _ h => h.elim) _ _ (hi i p u hq hu)
  refine Calls.mono ((hrel.lt hlt).2 _ w _ _ pre) fun e w' he => ?_
  obtain ⟨v, H, rfl, post⟩ := he
  have hr := post.res
  simp only [CR3, CR2, PV.cells] at hr
  obtain ⟨⟨us, Fs, ⟨h1, h2, _⟩, _, _, h5⟩, _⟩ := hr
  have hu := h5 (fun _ h => by cases h)
  subst hu
  have hb := ((OB_plain rfl).1 (h2 0 _ _ rfl rfl)).1
  simp only [PR, RV, List.cons.injEq, and_true] at hb
  subst hb
  have e0 : Un (fun _ _ _ => False) = fun _ _ => False := by
    funext b o
    exact propext ⟨fun ⟨_, h⟩ => h, fun h => h.elim⟩
  have hk := post.kp
  rw [e0] at hk
  exact ⟨rfl, hk.below⟩
section
variable {w : World}
theorem int_pr {k : IntKind} {n : Int} : PR env0 D0 w (fun _ _ => False) (.val (.int k) n) (.int k n) := by simp only [PR, RV]
theorem bool_pr {b : Bool} : PR env0 D0 w (fun _ _ => False) (.val .bool b) (.bool b) := by simp only [PR, RV]
theorem str_pr {b : ByteArray} : PR env0 D0 w (fun _ _ => False) (.val .str b) (.string b) := by simp only [PR, RV]
theorem row_pr {k : IntKind} {a : Option Addr} {len cap : Nat} {zs : List Int} (h : IsRow k w a len cap zs) : PR env0 D0 w (fun _ _ => False) (.val (.sl (.int k)) (zs.take len)) (.slice a len cap) := by
  simp only [PR]
  exact h.rv
theorem agg_pr {cs : List PV} {us : List Value} (h : PRs env0 D0 w (fun _ _ => False) cs us) : PR env0 D0 w (fun _ _ => False) (.agg cs) (.agg us.toArray) := by
  simp only [PR]
  exact ⟨us, rfl, h⟩
theorem PRs_nil : PRs env0 D0 w (fun _ _ => False) [] [] := by simp only [PRs]
theorem PRs_cons {p : PV} {u : Value} {ps : List PV} {us : List Value} (h : PR env0 D0 w (fun _ _ => False) p u) (k : PRs env0 D0 w (fun _ _ => False) ps us) : PRs env0 D0 w (fun _ _ => False) (p :: ps) (u :: us) := by
  simp only [PRs]
  exact ⟨u, us, rfl, h, k⟩
theorem row_len {k : IntKind} {a : Option Addr} {len cap : Nat} {zs : List Int} (h : IsRow k w a len cap zs) : (zs.take len).length ≤ 9223372036854775807 := by
  rcases h with ⟨rfl, rfl, rfl, rfl⟩ | ⟨_, rfl, h1, h2, h3, _⟩
  · simp
  · rw [List.length_take]
    have : maxLen ≤ 9223372036854775807 := by decide
    omega
end
theorem int_in {n : Int} (h : (Lit.int .i64 n).wf = true) : -9223372036854775808 ≤ n ∧ n ≤ 9223372036854775807 := by
  simp only [Lit.wf, Bool.and_eq_true, decide_eq_true_eq] at h
  have h0 : IntKind.i64.min = -9223372036854775808 := by decide
  have h1 : IntKind.i64.max = 9223372036854775807 := by decide
  rw [h0, h1] at h
  exact h
theorem row_in {w : World} {a : Option Addr} {len cap : Nat} {zs : List Int} (h : IsRow .i64 w a len cap zs) : ∀ x ∈ zs.take len, -9223372036854775808 ≤ x ∧ x ≤ 9223372036854775807 := by
  intro x hx
  rcases h with ⟨_, _, _, rfl⟩ | ⟨_, _, _, _, _, _, h5⟩
  · simp at hx
  · exact int_in (h5 x (List.mem_of_mem_take hx))
theorem byte_in {n : Int} (h : (Lit.int .u8 n).wf = true) : 0 ≤ n ∧ n ≤ 255 := by
  simp only [Lit.wf, Bool.and_eq_true, decide_eq_true_eq] at h
  have h0 : IntKind.u8.min = 0 := by decide
  have h1 : IntKind.u8.max = 255 := by decide
  rw [h0, h1] at h
  exact h
theorem row_bytes {w : World} {a : Option Addr} {len cap : Nat} {zs : List Int} (h : IsRow .u8 w a len cap zs) : ∀ x ∈ zs.take len, 0 ≤ x ∧ x ≤ 255 := by
  intro x hx
  rcases h with ⟨_, _, _, rfl⟩ | ⟨_, _, _, _, _, _, h5⟩
  · simp at hx
  · exact byte_in (h5 x (List.mem_of_mem_take hx))
/-! what a struct that came in by value says of its cells -/
section
open Go.ChangeShapes Go.WideShapes Go.Deep Go.Joins
variable {H : Type} {enc : TypeId × Value → H} {P : Program} {w : World} {held : Bool}
theorem row_cell {t e : TypeId} {k : IntKind} {fuel : Nat} {c : Value} {y : DataW H × List MemPlace} (ht : P.underlying t = some (.slice e)) (he : P.underlying e = some (.int k)) (hc : P.cellsOf e = 1)
    (h : DataW.trod enc P w 0 (fun _ => true) held fuel t [c] = some y) : ∃ a len cap zs, c = .slice a len cap ∧ IsRow k w a len cap zs := by
  rcases open_ints ht he hc h with ⟨hcs, _⟩ | ⟨x, l, cp, zs, hcs, _, hl, hm, hz, _, hcell, hwz⟩
  · simp at hcs
    exact ⟨none, 0, 0, [], hcs, .inl ⟨rfl, rfl, rfl, rfl⟩⟩
  · simp at hcs
    exact ⟨some x, l, cp, zs, hcs, .inr ⟨x, rfl, hl, hm, by simpa using hz, hcell, hwz⟩⟩
theorem int_cell {t : TypeId} {k : IntKind} {fuel : Nat} {c : Value} {y : DataW H × List MemPlace} (ht : P.underlying t = some (.int k))
    (h : DataW.trod enc P w 0 (fun _ => true) held fuel t [c] = some y) : ∃ n, c = .int k n ∧ (Lit.int k n).wf = true := by
  obtain ⟨n, hc, _, hw⟩ := DataW.trod_int ht h
  exact ⟨n, by simpa using hc, hw⟩
end
end Go.Proofs.Ytlpooghphoohcaa.R
