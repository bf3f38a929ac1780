/- Cyclotomic numbers as lists: the powers of a root of unity, and what reducing, an image and a product come to. Plain facts. -/
import Derived.Test.YtdnpkbhapdkikaaZPlSums
set_option linter.unusedVariables false
set_option linter.unusedSimpArgs false
namespace Go.Proofs.Ytdnpkbhapdkikaa.Plain
open Go.RowKit Go.Proofs.YtdnpkbhapdkikaaW.PrintWords Go.Proofs.YtdnpkbhapdkikaaW.PrintMore

/-- The n-th cyclotomic polynomial, n from 1 to 16. -/
def cycF : Nat → List Int
  | 1 => [-1, 1] | 2 => [1, 1] | 3 => [1, 1, 1] | 4 => [1, 0, 1] | 5 => [1, 1, 1, 1, 1] | 6 => [1, -1, 1] | 7 => [1, 1, 1, 1, 1, 1, 1] | 8 => [1, 0, 0, 0, 1]
  | 9 => [1, 0, 0, 1, 0, 0, 1] | 10 => [1, -1, 1, -1, 1] | 11 => [1, 1, 1, 1, 1, 1, 1, 1, 1, 1, 1] | 12 => [1, 0, -1, 0, 1] | 13 => [1, 1, 1, 1, 1, 1, 1, 1, 1, 1, 1, 1, 1]
  | 14 => [1, -1, 1, -1, 1, -1, 1] | 15 => [1, -1, 0, 1, -1, 1, 0, -1, 1] | 16 => [1, 0, 0, 0, 0, 0, 0, 0, 1] | _ => []
def cycD (n : Nat) : Nat := (cycF n).length - 1
def cycNext (f v : List Int) : List Int := List.zipWith (fun a b => a - v.getLastD 0 * b) (0 :: v.dropLast) f
def cycRows (f : List Int) : Nat → List Int → List (List Int)
  | 0, _ => []
  | d + 1, v => v :: cycRows f d (cycNext f v)
/-- The powers of the root: n rows. -/
def cycP (n : Nat) : List (List Int) := cycRows (cycF n) n (1 :: List.replicate ((cycF n).length - 2) 0)
/-- The m-th part of the j-th power. -/
def cycW (n m j : Nat) : Int := ((cycP n).getD (j % n) []).getD m 0
def cycOk (n : Nat) : Bool :=
  ((cycF n).length == cycD n + 1) && ((unitsL (n : Int)).length == cycD n) && (decide (1 ≤ cycD n ∧ cycD n ≤ 12 ∧ cycD n ≤ n)) && (rd (cycF n) (cycD n : Nat) == 1) &&
  ((cycP n).length == n) && ((cycP n).all fun r => r.length == cycD n && r.all fun x => decide (-1 ≤ x ∧ x ≤ 1)) &&
  ((List.range n).all fun s => (List.range (cycD n)).all fun m => sumF 0 (cycD n + 1) (fun i => rd (cycF n) i * cycW n m (s + i)) == 0) &&
  ((List.range (cycD n)).all fun j => (List.range (cycD n)).all fun m => cycW n m j == if m = j then 1 else 0)
theorem cyc_all : ((List.range 16).all fun q => cycOk (q + 1)) = true := by decide +kernel
theorem cyc_ok {n : Nat} (h1 : 1 ≤ n) (h2 : n ≤ 16) : cycOk n = true := by
  have h := List.all_eq_true.1 cyc_all (n - 1) (List.mem_range.2 (by omega))
  have e : n - 1 + 1 = n := by omega
  rwa [e] at h
structure CycFacts (n : Nat) : Prop where
  lenF : (cycF n).length = cycD n + 1
  units : (unitsL (n : Int)).length = cycD n
  pos : 1 ≤ cycD n
  le12 : cycD n ≤ 12
  leN : cycD n ≤ n
  lead : rd (cycF n) (cycD n : Nat) = 1
  lenP : (cycP n).length = n
  row : ∀ r ∈ cycP n, r.length = cycD n ∧ ∀ x ∈ r, -1 ≤ x ∧ x ≤ 1
  kill : ∀ s, s < n → ∀ m, m < cycD n → sumF 0 (cycD n + 1) (fun i => rd (cycF n) i * cycW n m (s + i)) = 0
  unit : ∀ j, j < cycD n → ∀ m, m < cycD n → cycW n m j = if m = j then 1 else 0
theorem cyc_facts {n : Nat} (h1 : 1 ≤ n) (h2 : n ≤ 16) : CycFacts n := by
  have h := cyc_ok h1 h2
  unfold cycOk at h
  simp only [Bool.and_eq_true, beq_iff_eq, decide_eq_true_eq, List.all_eq_true, List.mem_range] at h
  obtain ⟨⟨⟨⟨⟨⟨⟨a, b⟩, c⟩, d⟩, e⟩, f⟩, g⟩, i⟩ := h
  exact ⟨a, b, c.1, c.2.1, c.2.2, d, e, f, g, i⟩
theorem cycW_mod (n m j : Nat) : cycW n m (j % n) = cycW n m j := by unfold cycW; rw [Nat.mod_mod]
theorem cyc_kill {n : Nat} (C : CycFacts n) (hn : 1 ≤ n) (s m : Nat) (hm : m < cycD n) : sumF 0 (cycD n + 1) (fun i => rd (cycF n) i * cycW n m (s + i)) = 0 := by
  rw [← C.kill (s % n) (Nat.mod_lt _ hn) m hm]
  refine sumF_congr _ 0 (fun i _ _ => ?_)
  rw [← cycW_mod n m (s + i), ← cycW_mod n m (s % n + i), Nat.mod_add_mod]
theorem cycW_small {n : Nat} (C : CycFacts n) (hn : 1 ≤ n) (m j : Nat) : -1 ≤ cycW n m j ∧ cycW n m j ≤ 1 := by
  unfold cycW
  have hl : j % n < (cycP n).length := by rw [C.lenP]; exact Nat.mod_lt _ hn
  rw [List.getD_eq_getElem?_getD (l := cycP n), List.getElem?_eq_getElem hl, Option.getD_some]
  have hr := C.row _ (List.getElem_mem hl)
  generalize (cycP n)[j % n] = r at hr
  rw [List.getD_eq_getElem?_getD]
  by_cases h : m < r.length
  · rw [List.getElem?_eq_getElem h, Option.getD_some]; exact hr.2 _ (List.getElem_mem h)
  · rw [List.getElem?_eq_none (by omega), Option.getD_none]; omega

/-! ### A list against weights -/
def dot (L : List Int) (w : Nat → Int) : Int := sumF 0 L.length (fun j => rd L j * w j)
def Wrapped (L : List Int) : Prop := ∀ j : Nat, j < L.length → wrap64 (rd L j) = rd L j
theorem Wrapped.set {L : List Int} (h : Wrapped L) (q : Nat) (v : Int) : Wrapped (L.set q (wrap64 v)) := by
  intro j hj
  rw [List.length_set] at hj
  rw [rd_set L q j _ hj]
  by_cases c : q = j
  · rw [if_pos c]; exact wrap_wrap _
  · rw [if_neg c]; exact h j hj
theorem wrap_zero : wrap64 0 = 0 := wrap_id (by omega) (by omega)
theorem wrapped_zeros (d : Nat) : Wrapped (List.replicate d 0) := by
  intro j hj
  rw [rd_nat _ _ hj, List.getElem_replicate]; exact wrap_zero
theorem rd_out (L : List Int) (j : Nat) (h : L.length ≤ j) : rd L j = 0 := by
  unfold rd
  rw [Int.toNat_natCast, List.getD_eq_getElem?_getD, List.getElem?_eq_none h]; rfl
theorem dot_zeros (d : Nat) (w : Nat → Int) : dot (List.replicate d 0) w = 0 := by
  unfold dot
  refine (sumF_congr _ 0 (fun j _ hj => ?_)).trans (sumF_zero _ 0)
  rw [rd_nat _ _ (by omega), List.getElem_replicate, Int.zero_mul]
theorem dot_set (L : List Int) (q : Nat) (v : Int) (w : Nat → Int) (hq : q < L.length) : dot (L.set q v) w = dot L w + (v - rd L q) * w q := by
  unfold dot
  rw [List.length_set]
  have e : sumF 0 L.length (fun j => rd (L.set q v) j * w j) = sumF 0 L.length (fun j => rd L j * w j + (if q = j then (v - rd L j) * w j else 0)) := sumF_congr _ 0 (fun j _ hj => by
    rw [rd_set L q j v (by omega)]
    by_cases c : q = j
    · rw [if_pos c, if_pos c, Int.sub_mul]; omega
    · rw [if_neg c, if_neg c, Int.add_zero])
  rw [e, sumF_add, sumF_hit q (fun j => (v - rd L j) * w j) _ 0 (Nat.zero_le _) (by omega)]
/-- One number put, told up to 2^64. -/
theorem dot_put (L : List Int) (q : Nat) (v : Int) (w : Nat → Int) (hq : q < L.length) : Cg (dot (L.set q (wrap64 (rd L q + v))) w) (dot L w + v * w q) := by
  rw [dot_set L q _ w hq]
  refine Cg.add (Cg.refl _) (Cg.mul ?_ (Cg.refl _))
  exact (Cg.sub (Cg.wrap _) (Cg.refl _)).trans (Cg.of (by omega))
theorem cg_wrap {a b : Int} (h : Cg a b) : Cg (wrap64 a) b := (Cg.wrap a).trans h

/-! ### Reducing -/
def redIn (F : List Int) (v : Int) (p : Nat) : Nat → Nat → List Int → List Int
  | 0, _, L => L
  | d + 1, c, L => redIn F v p d (c + 1) (L.set (p + c) (wrap64 (rd L (p + c : Nat) - wrap64 (v * rd F c))))
theorem redIn_facts (F : List Int) (v : Int) (p : Nat) : ∀ (d c : Nat) (L : List Int), p + c + d ≤ L.length → Wrapped L →
    (redIn F v p d c L).length = L.length ∧ Wrapped (redIn F v p d c L) ∧ (∀ w : Nat → Int, Cg (dot (redIn F v p d c L) w) (dot L w - v * sumF c d (fun i => rd F i * w (p + i)))) ∧
      (∀ j : Nat, j < L.length → j < p + c ∨ p + c + d ≤ j → rd (redIn F v p d c L) j = rd L j) ∧ (∀ i, c ≤ i → i < c + d → rd (redIn F v p d c L) (p + i : Nat) = wrap64 (rd L (p + i : Nat) - wrap64 (v * rd F i)))
  | 0, c, L, _, hw => ⟨rfl, hw, fun w => Cg.of (by show dot L w = dot L w - v * 0; omega), fun _ _ _ => rfl, fun i h1 h2 => by omega⟩
  | d + 1, c, L, hl, hw => by
    obtain ⟨a1, a2, a3, a4, a5⟩ := redIn_facts F v p d (c + 1) (L.set (p + c) (wrap64 (rd L (p + c : Nat) - wrap64 (v * rd F c)))) (by rw [List.length_set]; omega) (hw.set _ _)
    rw [List.length_set] at a1 a4
    unfold redIn
    refine ⟨a1, a2, fun w => ?_, fun j hj hc => ?_, fun i h1 h2 => ?_⟩
    · refine (a3 w).trans ?_
      have e : sumF c (d + 1) (fun i => rd F i * w (p + i)) = rd F c * w (p + c) + sumF (c + 1) d (fun i => rd F i * w (p + i)) := rfl
      rw [e, Int.mul_add, ← Int.mul_assoc]
      have h := dot_put L (p + c) (- wrap64 (v * rd F c)) w (by omega)
      rw [← Int.sub_eq_add_neg] at h
      have h2 : Cg (- wrap64 (v * rd F c)) (-(v * rd F c)) := by obtain ⟨t, ht⟩ := Cg.wrap (v * rd F c); exact ⟨-t, by omega⟩
      have h3 := Cg.sub (h.trans (Cg.add (Cg.refl (dot L w)) (Cg.mul h2 (Cg.refl (w (p + c)))))) (Cg.refl (v * sumF (c + 1) d (fun i => rd F i * w (p + i))))
      rw [Int.neg_mul] at h3
      exact h3.trans (Cg.of (by omega))
    · rw [a4 j hj (by omega), rd_set _ _ _ _ hj, if_neg (by omega)]
    · by_cases hi : i = c
      · subst hi
        rw [a4 (p + i) (by omega) (by omega), rd_set _ _ _ _ (by omega), if_pos rfl]
      · rw [a5 i (by omega) (by omega), rd_set _ _ _ _ (by omega), if_neg (by omega)]
/-- From index x - 1 down. -/
def redOut (F : List Int) (D : Nat) : Nat → List Int → List Int
  | 0, L => L
  | x + 1, L => if D ≤ x then redOut F D x (redIn F (rd L x) (x - D) (D + 1) 0 L) else L
theorem redOut_facts {n : Nat} (C : CycFacts n) (hn : 1 ≤ n) : ∀ (x : Nat) (L : List Int), x ≤ L.length → Wrapped L → (∀ j : Nat, x ≤ j → j < L.length → cycD n ≤ j → rd L j = 0) →
    (redOut (cycF n) (cycD n) x L).length = L.length ∧ Wrapped (redOut (cycF n) (cycD n) x L) ∧ (∀ m, m < cycD n → Cg (dot (redOut (cycF n) (cycD n) x L) (cycW n m)) (dot L (cycW n m))) ∧
      (∀ j : Nat, j < L.length → cycD n ≤ j → rd (redOut (cycF n) (cycD n) x L) j = 0)
  | 0, L, _, hw, hz => ⟨rfl, hw, fun m _ => Cg.refl _, fun j h1 h2 => hz j (Nat.zero_le _) h1 h2⟩
  | x + 1, L, hx, hw, hz => by
    unfold redOut
    by_cases hD : cycD n ≤ x
    · rw [if_pos hD]
      obtain ⟨a1, a2, a3, a4, a5⟩ := redIn_facts (cycF n) (rd L x) (x - cycD n) (cycD n + 1) 0 L (by omega) hw
      obtain ⟨b1, b2, b3, b4⟩ := redOut_facts C hn x (redIn (cycF n) (rd L x) (x - cycD n) (cycD n + 1) 0 L) (by rw [a1]; omega) a2 (by
        intro j h1 h2 h3
        rw [a1] at h2
        by_cases hj : j = x
        · have h := a5 (cycD n) (Nat.zero_le _) (by omega)
          have e : x - cycD n + cycD n = x := by omega
          rw [e, C.lead, Int.mul_one, hw x (by omega), Int.sub_self] at h
          rw [hj, h]; exact wrap_zero
        · rw [a4 j h2 (by omega)]
          exact hz j (by omega) h2 h3)
      rw [a1] at b1 b4
      refine ⟨b1, b2, fun m hm => (b3 m hm).trans ((a3 _).trans (Cg.of ?_)), b4⟩
      rw [cyc_kill C hn (x - cycD n) m hm]; omega
    · rw [if_neg hD]
      exact ⟨rfl, hw, fun m _ => Cg.refl _, fun j h1 h2 => hz j (by omega) h1 h2⟩
theorem redL_rd {n : Nat} (C : CycFacts n) (hn : 1 ≤ n) (L : List Int) (hw : Wrapped L) (m : Nat) (hm : m < cycD n) :
    rd (redOut (cycF n) (cycD n) L.length L) m = wrap64 (dot L (cycW n m)) := by
  obtain ⟨a1, a2, a3, a4⟩ := redOut_facts C hn L.length L (Nat.le_refl _) hw (fun j h1 h2 _ => by omega)
  rw [← (a3 m hm).eq]
  generalize redOut (cycF n) (cycD n) L.length L = R at a1 a2 a4
  have e : dot R (cycW n m) = sumF 0 L.length (fun j => if m = j then rd R j else 0) := by
    unfold dot
    rw [a1]
    refine sumF_congr _ 0 (fun j _ hj => ?_)
    by_cases hD : j < cycD n
    · rw [C.unit j hD m hm]
      by_cases c : m = j
      · rw [if_pos c, if_pos c, Int.mul_one]
      · rw [if_neg c, if_neg c, Int.mul_zero]
    · rw [a4 j (by omega) (by omega), Int.zero_mul]
      by_cases c : m = j
      · rw [if_pos c]
      · rw [if_neg c]
  rw [e]
  by_cases hl : m < L.length
  · rw [sumF_hit m (fun j => rd R j) _ 0 (Nat.zero_le _) (by omega)]
    exact (a2 m (by omega)).symm
  · rw [sumF_miss m (fun j => rd R j) _ 0 (by omega), rd_out R m (by omega)]; exact wrap_zero.symm
/-- The list of g 0, .., g (d - 1). -/
def tab (d : Nat) (g : Nat → Int) : List Int := (List.range d).map g
theorem tab_length (d : Nat) (g : Nat → Int) : (tab d g).length = d := by simp [tab]
theorem tab_rd (d : Nat) (g : Nat → Int) (m : Nat) (hm : m < d) : rd (tab d g) m = g m := by rw [rd_nat _ _ (by rw [tab_length]; exact hm)]; simp [tab]
theorem tab_ext {d : Nat} {g : Nat → Int} {L : List Int} (hl : L.length = d) (h : ∀ m : Nat, m < d → rd L m = g m) : L = tab d g :=
  list_ext_rd (by rw [hl, tab_length]) (fun p hp => by rw [h p (by omega), tab_rd _ _ _ (by omega)])
theorem tab_congr {d : Nat} {f g : Nat → Int} (h : ∀ m, m < d → f m = g m) : tab d f = tab d g :=
  tab_ext (tab_length _ _) (fun m hm => by rw [tab_rd _ _ _ hm, h m hm])
theorem tab_zero (d : Nat) : List.replicate d 0 = tab d (fun _ => 0) := tab_ext (by simp) (fun m hm => by rw [rd_nat _ _ (by simpa using hm), List.getElem_replicate])
theorem tab_set (d : Nat) (g : Nat → Int) (q : Nat) (v : Int) : (tab d g).set q v = tab d (fun m => if q = m then v else g m) :=
  tab_ext (by rw [List.length_set, tab_length]) (fun m hm => by rw [rd_set _ _ _ _ (by rw [tab_length]; exact hm), tab_rd _ _ _ hm])

/-! ### Adding a multiple, products and images -/
def addIn (y : List Int) (v : Int) (p : Nat) : Nat → Nat → List Int → List Int
  | 0, _, L => L
  | d + 1, c, L => addIn y v p d (c + 1) (L.set (p + c) (wrap64 (rd L (p + c : Nat) + wrap64 (v * rd y c))))
theorem addIn_facts (y : List Int) (v : Int) (p : Nat) : ∀ (d c : Nat) (L : List Int), p + c + d ≤ L.length → Wrapped L →
    (addIn y v p d c L).length = L.length ∧ Wrapped (addIn y v p d c L) ∧ (∀ w : Nat → Int, Cg (dot (addIn y v p d c L) w) (dot L w + v * sumF c d (fun i => rd y i * w (p + i))))
  | 0, c, L, _, hw => ⟨rfl, hw, fun w => Cg.of (by show dot L w = dot L w + v * 0; omega)⟩
  | d + 1, c, L, hl, hw => by
    obtain ⟨a1, a2, a3⟩ := addIn_facts y v p d (c + 1) (L.set (p + c) (wrap64 (rd L (p + c : Nat) + wrap64 (v * rd y c)))) (by rw [List.length_set]; omega) (hw.set _ _)
    rw [List.length_set] at a1
    unfold addIn
    refine ⟨a1, a2, fun w => ?_⟩
    refine (a3 w).trans ?_
    have e : sumF c (d + 1) (fun i => rd y i * w (p + i)) = rd y c * w (p + c) + sumF (c + 1) d (fun i => rd y i * w (p + i)) := rfl
    rw [e, Int.mul_add, ← Int.mul_assoc]
    have h := dot_put L (p + c) (wrap64 (v * rd y c)) w (by omega)
    have h3 := Cg.add (h.trans (Cg.add (Cg.refl (dot L w)) (Cg.mul (Cg.wrap (v * rd y c)) (Cg.refl (w (p + c)))))) (Cg.refl (v * sumF (c + 1) d (fun i => rd y i * w (p + i))))
    exact h3.trans (Cg.of (by omega))
def addOut (x y : List Int) : Nat → Nat → List Int → List Int
  | 0, _, L => L
  | d + 1, i, L => addOut x y d (i + 1) (addIn y (rd x i) i y.length 0 L)
theorem addOut_facts (x y : List Int) : ∀ (d i : Nat) (L : List Int), (1 ≤ d → i + d + y.length ≤ L.length + 1) → Wrapped L →
    (addOut x y d i L).length = L.length ∧ Wrapped (addOut x y d i L) ∧ (∀ w : Nat → Int, Cg (dot (addOut x y d i L) w) (dot L w + sumF i d (fun i => rd x i * sumF 0 y.length (fun k => rd y k * w (i + k)))))
  | 0, i, L, _, hw => ⟨rfl, hw, fun w => Cg.of (by show dot L w = dot L w + 0; omega)⟩
  | d + 1, i, L, hl, hw => by
    obtain ⟨b1, b2, b3⟩ := addIn_facts y (rd x i) i y.length 0 L (by omega) hw
    obtain ⟨a1, a2, a3⟩ := addOut_facts x y d (i + 1) (addIn y (rd x i) i y.length 0 L) (by rw [b1]; omega) b2
    unfold addOut
    refine ⟨a1.trans b1, a2, fun w => ?_⟩
    refine (a3 w).trans ((Cg.add (b3 w) (Cg.refl _)).trans (Cg.of ?_))
    have e : sumF i (d + 1) (fun i => rd x i * sumF 0 y.length (fun k => rd y k * w (i + k))) = rd x i * sumF 0 y.length (fun k => rd y k * w (i + k)) + sumF (i + 1) d (fun i => rd x i * sumF 0 y.length (fun k => rd y k * w (i + k))) := rfl
    rw [e]; omega
/-- The m-th part of the product. -/
def bil (n : Nat) (x y : List Int) (m : Nat) : Int := sumF 0 x.length (fun i => rd x i * sumF 0 y.length (fun k => rd y k * cycW n m (i + k)))
/-- The m-th part of the image under the root's a-th power. -/
def gal (n : Nat) (x : List Int) (a : Int) (m : Nat) : Int := sumF 0 x.length (fun i => rd x i * cycW n m (((i : Int) * a) % n).toNat)
def galIn (n : Nat) (x : List Int) (a : Int) : Nat → Nat → List Int → List Int
  | 0, _, L => L
  | d + 1, i, L => galIn n x a d (i + 1) (L.set (((i : Int) * a) % n).toNat (wrap64 (rd L ((((i : Int) * a) % n).toNat : Nat) + rd x i)))
theorem galIn_facts (n : Nat) (hn : 1 ≤ n) (x : List Int) (a : Int) : ∀ (d i : Nat) (L : List Int), L.length = n → Wrapped L →
    (galIn n x a d i L).length = n ∧ Wrapped (galIn n x a d i L) ∧ (∀ w : Nat → Int, Cg (dot (galIn n x a d i L) w) (dot L w + sumF i d (fun i => rd x i * w (((i : Int) * a) % n).toNat)))
  | 0, i, L, hl, hw => ⟨hl, hw, fun w => Cg.of (by show dot L w = dot L w + 0; omega)⟩
  | d + 1, i, L, hl, hw => by
    have hq : (((i : Int) * a) % n).toNat < L.length := by
      have h1 := Int.emod_nonneg ((i : Int) * a) (b := n) (by omega)
      have h2 := Int.emod_lt_of_pos ((i : Int) * a) (b := n) (by omega)
      omega
    obtain ⟨a1, a2, a3⟩ := galIn_facts n hn x a d (i + 1) (L.set (((i : Int) * a) % n).toNat (wrap64 (rd L ((((i : Int) * a) % n).toNat : Nat) + rd x i))) (by rw [List.length_set]; exact hl) (hw.set _ _)
    unfold galIn
    refine ⟨a1, a2, fun w => ?_⟩
    refine (a3 w).trans ((Cg.add (dot_put L _ (rd x i) w hq) (Cg.refl _)).trans (Cg.of ?_))
    have e : sumF i (d + 1) (fun i => rd x i * w (((i : Int) * a) % n).toNat) = rd x i * w (((i : Int) * a) % n).toNat + sumF (i + 1) d (fun i => rd x i * w (((i : Int) * a) % n).toNat) := rfl
    rw [e]; omega
def within (B : Int) (L : List Int) : Prop := ∀ j : Nat, j < L.length → -B ≤ rd L j ∧ rd L j ≤ B
theorem dot_one (L : List Int) (m : Nat) (hm : m < L.length) : dot L (fun j => if m = j then 1 else 0) = rd L m := by
  unfold dot
  rw [← sumF_hit m (fun j => rd L j) L.length 0 (Nat.zero_le _) (by omega)]
  refine sumF_congr _ 0 (fun j _ _ => ?_)
  dsimp only
  by_cases c : m = j
  · rw [if_pos c, if_pos c, Int.mul_one]
  · rw [if_neg c, if_neg c, Int.mul_zero]
/-- The q-th power's row. -/
def cycRow (n q : Nat) : List Int := (cycP n).getD q []
theorem cycRow_facts {n : Nat} (C : CycFacts n) (hn : 1 ≤ n) {q : Nat} (hq : q < n) : (cycRow n q).length = cycD n ∧ (∀ x ∈ cycRow n q, -1 ≤ x ∧ x ≤ 1) ∧ ∀ m, rd (cycRow n q) (m : Nat) = cycW n m q := by
  have hl : q < (cycP n).length := by rw [C.lenP]; exact hq
  have e : cycRow n q = (cycP n)[q] := by unfold cycRow; rw [List.getD_eq_getElem?_getD, List.getElem?_eq_getElem hl, Option.getD_some]
  have h := C.row _ (List.getElem_mem hl)
  rw [← e] at h
  refine ⟨h.1, h.2, fun m => ?_⟩
  unfold cycW rd
  rw [Nat.mod_eq_of_lt hq, Int.toNat_natCast]; rfl
/-- Each part times the power q of its place, added up. -/
def imIn (n : Nat) (x : List Int) (q : Nat → Nat) : Nat → Nat → List Int → List Int
  | 0, _, o => o
  | d + 1, i, o => imIn n x q d (i + 1) (addIn (cycRow n (q i)) (rd x i) 0 (cycD n) 0 o)
theorem imIn_facts {n : Nat} (C : CycFacts n) (hn : 1 ≤ n) (x : List Int) (q : Nat → Nat) : ∀ (d i : Nat) (o : List Int), (∀ j, i ≤ j → j < i + d → q j < n) → o.length = cycD n → Wrapped o →
    (imIn n x q d i o).length = cycD n ∧ Wrapped (imIn n x q d i o) ∧ ∀ m : Nat, m < cycD n → Cg (rd (imIn n x q d i o) m) (rd o m + sumF i d (fun i => rd x i * cycW n m (q i)))
  | 0, i, o, hq, hl, hw => ⟨hl, hw, fun m _ => Cg.of (by show rd o m = rd o m + 0; omega)⟩
  | d + 1, i, o, hq, hl, hw => by
    obtain ⟨r1, r2, r3⟩ := cycRow_facts C hn (hq i (Nat.le_refl _) (by omega))
    obtain ⟨b1, b2, b3⟩ := addIn_facts (cycRow n (q i)) (rd x i) 0 (cycD n) 0 o (by omega) hw
    obtain ⟨a1, a2, a3⟩ := imIn_facts C hn x q d (i + 1) _ (fun j h1 h2 => hq j (by omega) (by omega)) (b1.trans hl) b2
    unfold imIn
    refine ⟨a1, a2, fun m hm => (a3 m hm).trans ?_⟩
    have h := b3 (fun j => if m = j then 1 else 0)
    rw [dot_one _ _ (by rw [b1]; omega), dot_one _ _ (by omega)] at h
    have e0 : sumF 0 (cycD n) (fun i_1 => rd (cycRow n (q i)) i_1 * (if m = 0 + i_1 then 1 else 0)) = cycW n m (q i) := by
      have := dot_one (cycRow n (q i)) m (by rw [r1]; exact hm)
      rw [r3] at this
      rw [← this]
      unfold dot
      rw [r1]
      exact sumF_congr _ 0 (fun j _ _ => by rw [Nat.zero_add])
    rw [e0] at h
    have e : sumF i (d + 1) (fun i => rd x i * cycW n m (q i)) = rd x i * cycW n m (q i) + sumF (i + 1) d (fun i => rd x i * cycW n m (q i)) := rfl
    rw [e]
    exact (Cg.add h (Cg.refl _)).trans (Cg.of (by omega))
def galQ (n : Nat) (x : List Int) (q : Nat → Nat) (m : Nat) : Int := sumF 0 x.length (fun i => rd x i * cycW n m (q i))
theorem imIn_tab {n : Nat} (C : CycFacts n) (hn : 1 ≤ n) (x : List Int) (q : Nat → Nat) (hq : ∀ j, j < x.length → q j < n) :
    imIn n x q x.length 0 (List.replicate (cycD n) 0) = tab (cycD n) fun m => wrap64 (galQ n x q m) := by
  obtain ⟨a1, a2, a3⟩ := imIn_facts C hn x q x.length 0 (List.replicate (cycD n) 0) (fun j _ h => hq j (by omega)) (by simp) (wrapped_zeros _)
  refine tab_ext a1 (fun m hm => ?_)
  rw [← a2 m (by omega)]
  refine ((a3 m hm).trans (Cg.of ?_)).eq
  rw [rd_nat _ _ (by simpa using hm), List.getElem_replicate, Int.zero_add]; rfl
/-- The low and the high digits of a number. -/
def lo5 (v : Int) : Int := Int.tmod v 100000
def hi5 (v : Int) : Int := wrap64 (Int.tdiv v 100000)
theorem lohi {v : Int} (h : -16000000000 ≤ v ∧ v ≤ 16000000000) : v = 100000 * hi5 v + lo5 v ∧ (-100000 ≤ lo5 v ∧ lo5 v ≤ 100000) ∧ (-160000 ≤ hi5 v ∧ hi5 v ≤ 160000) := by
  have h1 : Int.tmod v 100000 = v - 100000 * Int.tdiv v 100000 := Int.tmod_def v 100000
  have h2 := Int.tmod_lt_of_pos v (b := 100000) (by omega)
  have h3 := Int.lt_tmod_of_pos v (b := 100000) (by omega)
  have e : hi5 v = Int.tdiv v 100000 := wrap_id (by omega) (by omega)
  rw [e]
  unfold lo5
  omega
theorem rd_map (f : Int → Int) (L : List Int) (j : Nat) (hj : j < L.length) : rd (L.map f) j = f (rd L j) := by
  rw [rd_nat _ _ (by rw [List.length_map]; exact hj), rd_nat _ _ hj, List.getElem_map]
theorem bil_split (n : Nat) (x y : List Int) (hy : ∀ k : Nat, k < y.length → -16000000000 ≤ rd y k ∧ rd y k ≤ 16000000000) (m : Nat) : bil n x y m = 100000 * bil n x (y.map hi5) m + bil n x (y.map lo5) m := by
  unfold bil
  rw [List.length_map, List.length_map, ← sumF_left, ← sumF_add]
  refine sumF_congr _ 0 (fun i _ hi => ?_)
  have e : sumF 0 y.length (fun k => rd y k * cycW n m (i + k)) = 100000 * sumF 0 y.length (fun k => rd (y.map hi5) k * cycW n m (i + k)) + sumF 0 y.length (fun k => rd (y.map lo5) k * cycW n m (i + k)) := by
    rw [← sumF_left, ← sumF_add]
    refine sumF_congr _ 0 (fun k _ hk => ?_)
    rw [rd_map _ _ _ (by omega), rd_map _ _ _ (by omega)]
    have h := (lohi (hy k (by omega))).1
    rw [← Int.mul_assoc, ← Int.add_mul, ← h]
  rw [e, Int.mul_add, ← Int.mul_assoc, ← Int.mul_assoc, Int.mul_comm (rd x i) 100000]
/-- The product fits. -/
def okB (n : Nat) (x y : List Int) : Bool := smallL (tab (cycD n) (bil n x y))
theorem smallL_tab {d : Nat} {g : Nat → Int} : smallL (tab d g) = true ↔ ∀ m, m < d → -1000000000 ≤ g m ∧ g m ≤ 1000000000 := by
  unfold smallL tab
  simp only [List.all_map, List.all_eq_true, List.mem_range, Function.comp, decide_eq_true_eq]
theorem smallL_within {L : List Int} : smallL L = true ↔ within 1000000000 L := by
  unfold smallL within
  rw [List.all_eq_true]
  constructor
  · intro h j hj
    have := h (rd L j) (by rw [rd_nat _ _ hj]; exact List.getElem_mem hj)
    simpa using this
  · intro h x hx
    obtain ⟨j, hj, rfl⟩ := List.mem_iff_getElem.1 hx
    have := h j hj
    rw [rd_nat _ _ hj] at this
    simpa using this
theorem addIn_length (y : List Int) (v : Int) (p : Nat) : ∀ (d c : Nat) (L : List Int), (addIn y v p d c L).length = L.length
  | 0, c, L => rfl
  | d + 1, c, L => by unfold addIn; rw [addIn_length y v p d, List.length_set]
/-- A product that fits, or none. -/
def mulO (n : Nat) (x y : List Int) : Option (List Int) := if okB n x y = true then some (tab (cycD n) (bil n x y)) else none
/-- A list of n's length whose parts are small. -/
def GoodZ (n : Nat) (z : List Int) : Prop := z.length = cycD n ∧ within 1000000000 z
def FairZ (n : Nat) (z : List Int) : Prop := z.length = cycD n ∧ within 16000000000 z
theorem good_small {n : Nat} {z : List Int} (h : GoodZ n z) : smallL z = true := smallL_within.2 h.2
theorem mulO_good {n : Nat} {x y z : List Int} (h : mulO n x y = some z) : GoodZ n z := by
  unfold mulO at h
  by_cases c : okB n x y = true
  · rw [if_pos c] at h
    cases h
    exact ⟨tab_length _ _, smallL_within.1 c⟩
  · rw [if_neg c] at h; cases h
/-- The products of a list's numbers, one after the other, as long as they fit. -/
def runO (n : Nat) : List (List Int) → List Int → Option (List Int)
  | [], z => some z
  | y :: t, z => (mulO n z y).bind (runO n t)
theorem runO_good {n : Nat} : ∀ (ys : List (List Int)) (z R : List Int), GoodZ n z → runO n ys z = some R → GoodZ n R
  | [], z, R, hz, h => by unfold runO at h; cases h; exact hz
  | y :: t, z, R, hz, h => by
    unfold runO at h
    obtain ⟨z', h1, h2⟩ := Option.bind_eq_some_iff.1 h
    exact runO_good t z' R (mulO_good h1) h2
def oneT (n : Nat) : List Int := tab (cycD n) fun m => if m = 0 then 1 else 0
theorem oneT_good (n : Nat) : GoodZ n (oneT n) := by
  refine ⟨tab_length _ _, fun j hj => ?_⟩
  rw [oneT, tab_length] at hj
  rw [oneT, tab_rd _ _ _ hj]
  by_cases c : j = 0
  · rw [if_pos c]; omega
  · rw [if_neg c]; omega
def imT (n : Nat) (x : List Int) (a : Int) : List Int := tab (cycD n) fun m => wrap64 (gal n x a m)
/-- The images, each as often as the ring's part says. -/
def imgs (n : Nat) (x U r : List Int) : Nat → Nat → List (List Int)
  | 0, _ => []
  | d + 1, i => List.replicate (rd r i).toNat (imT n x (rd U i)) ++ imgs n x U r d (i + 1)
/-! ### Bounds -/
theorem sumF_le {f : Nat → Int} {B : Int} : ∀ (d k : Nat), (∀ i, k ≤ i → i < k + d → -B ≤ f i ∧ f i ≤ B) → -((d : Int) * B) ≤ sumF k d f ∧ sumF k d f ≤ (d : Int) * B
  | 0, k, _ => by unfold sumF; omega
  | d + 1, k, h => by
    have h1 := h k (Nat.le_refl _) (by omega)
    have h2 := sumF_le d (k + 1) (fun i h1 h2 => h i (by omega) (by omega))
    have e : ((d + 1 : Nat) : Int) * B = (d : Int) * B + B := by rw [Int.natCast_add, Int.add_mul]; omega
    rw [e]
    unfold sumF
    omega
theorem mul_le {a b A B : Int} (h1 : -A ≤ a ∧ a ≤ A) (h2 : -B ≤ b ∧ b ≤ B) : -(A * B) ≤ a * b ∧ a * b ≤ A * B := by
  have ha : a.natAbs ≤ A.natAbs := by omega
  have hb : b.natAbs ≤ B.natAbs := by omega
  have h := Nat.mul_le_mul ha hb
  rw [← Int.natAbs_mul, ← Int.natAbs_mul] at h
  have hA : 0 ≤ A := by omega
  have hB : 0 ≤ B := by omega
  have hAB := Int.mul_nonneg hA hB
  omega
theorem gal_le {n : Nat} (C : CycFacts n) (hn : 1 ≤ n) {x : List Int} {B : Int} (hB : 0 ≤ B) (hx : within B x) (hl : x.length ≤ 12) (a : Int) (m : Nat) : -(12 * B) ≤ gal n x a m ∧ gal n x a m ≤ 12 * B := by
  have h := sumF_le (B := B) (f := fun i => rd x i * cycW n m (((i : Int) * a) % n).toNat) x.length 0 (fun i _ hi => by
    have := mul_le (hx i (by omega)) (cycW_small C hn m (((i : Int) * a) % n).toNat)
    rwa [Int.mul_one] at this)
  have h2 : (x.length : Int) * B ≤ 12 * B := Int.mul_le_mul_of_nonneg_right (by omega) hB
  unfold gal
  omega
theorem imT_fair {n : Nat} (C : CycFacts n) (hn : 1 ≤ n) {x : List Int} (hx : GoodZ n x) (a : Int) : FairZ n (imT n x a) := by
  refine ⟨tab_length _ _, fun j hj => ?_⟩
  rw [imT, tab_length] at hj
  have := C.le12
  have h := gal_le C hn (B := 1000000000) (by omega) hx.2 (by rw [hx.1]; omega) a j
  rw [imT, tab_rd _ _ _ hj, wrap_id (by omega) (by omega)]
  omega
theorem imgs_fair {n : Nat} (C : CycFacts n) (hn : 1 ≤ n) {x : List Int} (hx : GoodZ n x) (U r : List Int) : ∀ (d i : Nat), ∀ y ∈ imgs n x U r d i, FairZ n y
  | 0, _, y, h => by cases h
  | d + 1, i, y, h => by
    unfold imgs at h
    rcases List.mem_append.1 h with h | h
    · rw [(List.mem_replicate.1 h).2]; exact imT_fair C hn hx _
    · exact imgs_fair C hn hx U r d (i + 1) y h
theorem bil_le {n : Nat} (C : CycFacts n) (hn : 1 ≤ n) {x y : List Int} {A B : Int} (hA : 0 ≤ A) (hB : 0 ≤ B) (hx : within A x) (hy : within B y) (hl : x.length ≤ 12) (hl2 : y.length ≤ 12) (m : Nat) : -(144 * (A * B)) ≤ bil n x y m ∧ bil n x y m ≤ 144 * (A * B) := by
  have hAB := Int.mul_nonneg hA hB
  have h := sumF_le (B := 12 * (A * B)) (f := fun i => rd x i * sumF 0 y.length (fun k => rd y k * cycW n m (i + k))) x.length 0 (fun i _ hi => by
    have h1 := sumF_le (B := B) (f := fun k => rd y k * cycW n m (i + k)) y.length 0 (fun k _ hk => by
      have := mul_le (hy k (by omega)) (cycW_small C hn m (i + k))
      rwa [Int.mul_one] at this)
    have h2 : (y.length : Int) * B ≤ 12 * B := Int.mul_le_mul_of_nonneg_right (by omega) hB
    have h3 := mul_le (hx i (by omega)) (b := sumF 0 y.length (fun k => rd y k * cycW n m (i + k))) (B := 12 * B) (by omega)
    have e : A * (12 * B) = 12 * (A * B) := by rw [← Int.mul_assoc, Int.mul_comm A 12, Int.mul_assoc]
    rwa [e] at h3)
  have h2 : (x.length : Int) * (12 * (A * B)) ≤ 12 * (12 * (A * B)) := Int.mul_le_mul_of_nonneg_right (by omega) (by omega)
  unfold bil
  omega
end Go.Proofs.Ytdnpkbhapdkikaa.Plain
