/- What the functions tell, printed by a program of this repo. -/
import Derived.Test.YtefdcoeidpbcjaaZR5
/- x -/
namespace Go.Proofs.Ytefdcoeidpbcjaa.R
set_option linter.unusedVariables false
def laws_big {A : Type} (z : A) : Nat → List Int → (Bool → A) → A := step (fun _ _ => z) fun k a0 Φ =>
  Φ (decide (4096 < (a0.length : Int)))
def spec_l01From.g4 {A : Type} (z : A) : Nat → List Int → Int → Int → (Int → A) → A
 | 0, _, _, _, _ => z
 | k + 1, x0, x1, x4, K0 =>
  if x1 < (x0.length : Int) then
   if x1 < 4096 then
    inI z x1 (x0.length) fun j1 =>
    spec_l01From.g4 z k x0 (w64 (x1 + 1)) (wu64 ((wu64 ((wu64 (x4 * 1099511628211)) + (wu64 (x0.getD j1 0)))) + 131)) K0
   else
    K0 x4
  else
   K0 x4
def spec_l01From {A : Type} (z : A) : Nat → List Int → (List Int → Int → Int → A) → A := step (fun _ _ => z) fun k a0 Φ =>
  spec_l01From.g4 z k a0 0 (wu64 (13131 + (wu64 (a0.length : Int)))) (fun v2 =>
   Φ a0 0 v2)
def spec_l01Next {A : Type} (z : A) : Nat → List Int → Int → Int → Int → (List Int → Int → Int → Int → A) → A := step (fun _ _ _ _ _ => z) fun k a0 a1 a2 a3 Φ =>
  if a3 < 1 then
   Φ a0 a1 a2 0
  else
   let y1 := wu64 (a2 * 6364136223846793005)
   let y2 := wu64 (y1 + 1442695040888963407)
   let y3 := y2.fdiv (2 ^ (31))
   let y4 := wu64 ((BitVec.ofInt 64 y3 &&& BitVec.ofInt 64 1073741823).toNat : Int)
   if a1 < (a0.length : Int) then
    inI z a1 (a0.length) fun j1 =>
    gd z (a3 ≠ 0) <|
    Φ a0 (w64 (a1 + 1)) y2 ((w64 ((w64 y4) + (w64 (a0.getD j1 0)))).tmod a3)
   else
    gd z (a3 ≠ 0) <|
    Φ a0 a1 y2 ((w64 y4).tmod a3)
def spec_DrawBernoulliOf {A : Type} (z : A) : Nat → List Int → (Int → A) → A := step (fun _ _ => z) fun k a0 Φ =>
  spec_l01From z k a0 fun v1 v2 v3 =>
  spec_l01Next z k v1 v2 v3 22 fun v4 v5 v6 v7 =>
  Φ v7
def impl_within {A : Type} (z : A) : Nat → Int → Int → Int → (Bool → A) → A := step (fun _ _ _ _ => z) fun k a0 a1 a2 Φ =>
  if a1 ≤ a0 then
   Φ (decide (a0 ≤ a2))
  else
   Φ false
def impl_row.g4 {A : Type} (z : A) : Nat → Int → Int → Int → List Int → (List Int → A) → A
 | 0, _, _, _, _, _ => z
 | k + 1, x0, x1, x2, x3, K0 =>
  if x2 < x1 then
   inI z x2 (x3.length) fun j1 =>
   gd z ((w64 (x2 + 1)) ≠ 0) <|
   apI z ((x3.length) + 1) 8 <|
   impl_row.g4 z k x0 x1 (w64 (x2 + 1)) (x3 ++ [(w64 ((w64 ((x3.getD j1 0) * (w64 (x0 - x2)))).tdiv (w64 (x2 + 1))))]) K0
  else
   K0 x3
def impl_row {A : Type} (z : A) : Nat → Int → (List Int → A) → A := step (fun _ _ => z) fun k a0 Φ =>
  impl_row.g4 z k a0 a0 0 [1] Φ
def impl_size {A : Type} (z : A) : Nat → Int → (Int → A) → A := step (fun _ _ => z) fun k a0 Φ =>
  Φ (maxI a0 (w64 (0 - a0)))
def impl_gcd.g3 {A : Type} (z : A) : Nat → Int → Int → (Int → A) → A
 | 0, _, _, _ => z
 | k + 1, x0, x1, K0 =>
  if 0 < x1 then
   gd z (x1 ≠ 0) <|
   impl_gcd.g3 z k x1 (x0.tmod x1) K0
  else
   K0 x0
def impl_gcd {A : Type} (z : A) : Nat → Int → Int → (Int → A) → A := step (fun _ _ _ => z) fun k a0 a1 Φ =>
  impl_size z k a0 fun v1 =>
  impl_size z k a1 fun v2 =>
  impl_gcd.g3 z k v1 v2 Φ
def impl_fractionOf {A : Type} (z : A) : Nat → Int → Int → (Int → Int → A) → A := step (fun _ _ _ => z) fun k a0 a1 Φ =>
  if a1 < 0 then
   impl_gcd z k (w64 (0 - a0)) (w64 (0 - a1)) fun v1 =>
   gd z (v1 ≠ 0) <|
   gd z (v1 ≠ 0) <|
   Φ (w64 ((w64 (0 - a0)).tdiv v1)) (w64 ((w64 (0 - a1)).tdiv v1))
  else
   impl_gcd z k a0 a1 fun v2 =>
   gd z (v2 ≠ 0) <|
   gd z (v2 ≠ 0) <|
   Φ (w64 (a0.tdiv v2)) (w64 (a1.tdiv v2))
def impl_fraction_and {A : Type} (z : A) : Nat → Int → Int → Int → Int → (Int → Int → A) → A := step (fun _ _ _ _ _ => z) fun k a0 a1 a2 a3 Φ =>
  impl_gcd z k a1 a3 fun v1 =>
  gd z (v1 ≠ 0) <|
  gd z (v1 ≠ 0) <|
  gd z (v1 ≠ 0) <|
  impl_fractionOf z k (w64 ((w64 (a0 * (w64 (a3.tdiv v1)))) + (w64 (a2 * (w64 (a1.tdiv v1)))))) (w64 ((w64 (a1.tdiv v1)) * a3)) Φ
def impl_BernoulliOf.g14 {A : Type} (z : A) : Nat → Int → Int → List (Int × Int) → List Int → Int → Int → (Int → Int → A) → A
 | 0, _, _, _, _, _, _, _ => z
 | k + 1, x2, x3, x4, x5, x6, x7, K0 =>
  if x3 < x2 then
   inI z x3 (x4.length) fun j3 =>
   inI z x3 (x5.length) fun j4 =>
   impl_fractionOf z k (w64 ((x5.getD j4 0) * ((x4.getD j3 (0, 0)).1))) ((x4.getD j3 (0, 0)).2) fun v5 v6 =>
   impl_fraction_and z k x6 x7 v5 v6 fun v7 v8 =>
   impl_BernoulliOf.g14 z k x2 (w64 (x3 + 1)) x4 x5 v7 v8 K0
  else
   K0 x6 x7
def impl_BernoulliOf.g7 {A : Type} (z : A) : Nat → Int → Int → List (Int × Int) → (List (Int × Int) → A) → A
 | 0, _, _, _, _ => z
 | k + 1, x0, x1, x2, K0 =>
  if x1 ≤ x0 then
   impl_row z k (w64 (x1 + 1)) fun v2 =>
   impl_BernoulliOf.g14 z k (x2.length : Int) 0 x2 v2 0 1 (fun v9 v10 =>
    impl_fractionOf z k (w64 (0 - v9)) (w64 (v10 * (w64 (x1 + 1)))) fun v11 v12 =>
    apI z ((x2.length) + 1) 16 <|
    impl_BernoulliOf.g7 z k x0 (w64 (x1 + 1)) (x2 ++ [(v11, v12)]) K0)
  else
   K0 x2
def impl_BernoulliOf {A : Type} (z : A) : Nat → Int → (Int → Int → Int → A) → A := step (fun _ _ => z) fun k a0 Φ =>
  impl_within z k a0 0 20 fun v1 =>
  bif !v1 then
   Φ 0 0 2
  else
   impl_BernoulliOf.g7 z k a0 1 [(1, 1)] (fun v13 =>
    inI z a0 (v13.length) fun j14 =>
    inI z a0 (v13.length) fun j15 =>
    Φ ((v13.getD j14 (0, 0)).1) ((v13.getD j15 (0, 0)).2) 0)
def spec_l01In {A : Type} (z : A) : Nat → Int → Int → Int → (Bool → A) → A := step (fun _ _ _ _ => z) fun k a0 a1 a2 Φ =>
  if a1 ≤ a0 then
   Φ (decide (a0 ≤ a2))
  else
   Φ false
def spec_l10Choose.g4 {A : Type} (z : A) : Nat → Int → Int → Int → Int → (Int → A) → A
 | 0, _, _, _, _, _ => z
 | k + 1, x0, x1, x2, x3, K0 =>
  if x3 < x1 then
   gd z ((w64 (x3 + 1)) ≠ 0) <|
   spec_l10Choose.g4 z k x0 x1 (w64 ((w64 (x2 * (w64 (x0 - x3)))).tdiv (w64 (x3 + 1)))) (w64 (x3 + 1)) K0
  else
   K0 x2
def spec_l10Choose {A : Type} (z : A) : Nat → Int → Int → (Int → A) → A := step (fun _ _ _ => z) fun k a0 a1 Φ =>
  spec_l10Choose.g4 z k a0 a1 1 0 Φ
def spec_l01Gcd.g2 {A : Type} (z : A) : Nat → Int → Int → (Int → A) → A
 | 0, _, _, _ => z
 | k + 1, x0, x1, K0 =>
  if x1 ≠ 0 then
   gd z (x1 ≠ 0) <|
   spec_l01Gcd.g2 z k x1 (x0.tmod x1) K0
  else
   K0 x0
def spec_l01Gcd {A : Type} (z : A) : Nat → Int → Int → (Int → A) → A := step (fun _ _ _ => z) fun k a0 a1 Φ =>
  spec_l01Gcd.g2 z k a0 a1 (fun v1 =>
   Φ (maxI v1 (w64 (0 - v1))))
def spec_BernoulliOf.g14 {A : Type} (z : A) : Nat → Int → Int → Int → Int → List Int → List Int → (Int → Int → A) → A
 | 0, _, _, _, _, _, _, _ => z
 | k + 1, x1, x2, x3, x4, x5, x6, K0 =>
  if x4 < x1 then
   spec_l10Choose z k (w64 (x1 + 1)) x4 fun v2 =>
   inI z x4 (x6.length) fun j3 =>
   spec_l01Gcd z k x3 (x6.getD j3 0) fun v4 =>
   inI z x4 (x6.length) fun j5 =>
   gd z (v4 ≠ 0) <|
   let y1 := w64 ((x6.getD j5 0).tdiv v4)
   let y2 := w64 (x2 * y1)
   inI z x4 (x5.length) fun j6 =>
   let y3 := w64 (v2 * (x5.getD j6 0))
   gd z (v4 ≠ 0) <|
   let y4 := w64 (y3 * (w64 (x3.tdiv v4)))
   let y5 := w64 (y2 + y4)
   gd z (v4 ≠ 0) <|
   inI z x4 (x6.length) fun j7 =>
   let y6 := w64 ((w64 (x3.tdiv v4)) * (x6.getD j7 0))
   spec_l01Gcd z k (maxI y5 (w64 (0 - y5))) y6 fun v8 =>
   gd z (v8 ≠ 0) <|
   gd z (v8 ≠ 0) <|
   spec_BernoulliOf.g14 z k x1 (w64 (y5.tdiv v8)) (w64 (y6.tdiv v8)) (w64 (x4 + 1)) x5 x6 K0
  else
   K0 x2 x3
def spec_BernoulliOf.g7 {A : Type} (z : A) : Nat → Int → Int → List Int → List Int → (List Int → List Int → A) → A
 | 0, _, _, _, _, _ => z
 | k + 1, x0, x1, x2, x3, K0 =>
  if x1 ≤ x0 then
   spec_BernoulliOf.g14 z k x1 0 1 0 x2 x3 (fun v9 v10 =>
    let y1 := w64 (v10 * (w64 (x1 + 1)))
    spec_l01Gcd z k (maxI v9 (w64 (0 - v9))) y1 fun v11 =>
    gd z (v11 ≠ 0) <|
    apI z ((x2.length) + 1) 8 <|
    gd z (v11 ≠ 0) <|
    apI z ((x3.length) + 1) 8 <|
    spec_BernoulliOf.g7 z k x0 (w64 (x1 + 1)) (x2 ++ [(w64 ((w64 (0 - v9)).tdiv v11))]) (x3 ++ [(w64 (y1.tdiv v11))]) K0)
  else
   K0 x2 x3
def spec_BernoulliOf {A : Type} (z : A) : Nat → Int → (Int → Int → Int → A) → A := step (fun _ _ => z) fun k a0 Φ =>
  spec_l01In z k a0 0 20 fun v1 =>
  bif !v1 then
   Φ 0 0 2
  else
   spec_BernoulliOf.g7 z k a0 1 [1] [1] (fun v12 v13 =>
    inI z a0 (v12.length) fun j14 =>
    inI z a0 (v13.length) fun j15 =>
    Φ (v12.getD j14 0) (v13.getD j15 0) 0)
def spec_l06Primes {A : Type} (z : A) : Nat → (List Int → A) → A := step (fun _ => z) fun k Φ =>
  Φ [3, 5, 7, 11, 13, 17, 19, 23, 29, 31, 37, 41, 43, 47, 53, 59, 61]
def spec_l01Pick {A : Type} (z : A) : Nat → List Int → Int → Int → List Int → (List Int → Int → Int → Int → A) → A := step (fun _ _ _ _ _ => z) fun k a0 a1 a2 a3 Φ =>
  spec_l01Next z k a0 a1 a2 (a3.length : Int) fun v1 v2 v3 v4 =>
  inI z v4 (a3.length) fun j5 =>
  Φ v1 v2 v3 (a3.getD j5 0)
def spec_l08Prime {A : Type} (z : A) : Nat → List Int → Int → Int → (List Int → Int → Int → Int → A) → A := step (fun _ _ _ _ => z) fun k a0 a1 a2 Φ =>
  spec_l06Primes z k fun v1 =>
  spec_l01Next z k a0 a1 a2 30 fun v2 v3 v4 v5 =>
  if v5 = 0 then
   spec_l01Pick z k v2 v3 v4 [2, 15, 67] Φ
  else
   spec_l01Pick z k v2 v3 v4 [6, 17] fun v10 v11 v12 v13 =>
   spec_l01Next z k v10 v11 v12 v13 fun v14 v15 v16 v17 =>
   inI z v17 (v1.length) fun j18 =>
   Φ v14 v15 v16 (v1.getD j18 0)
def spec_DrawBernoulliModulo {A : Type} (z : A) : Nat → List Int → (Int → Int → A) → A := step (fun _ _ => z) fun k a0 Φ =>
  spec_l01From z k a0 fun v1 v2 v3 =>
  spec_l08Prime z k v1 v2 v3 fun v4 v5 v6 v7 =>
  spec_l01Next z k v4 v5 v6 (maxI (w64 (v7.tdiv 2)) 1) fun v8 v9 v10 v11 =>
  spec_l01Next z k v8 v9 v10 12 fun v12 v13 v14 v15 =>
  Φ v7 (w64 ((w64 (2 * v11)) + (w64 (v15.tdiv 11))))
def impl_isPrime.g3 {A : Type} (z : A) : Nat → Int → Int → (Bool → A) → A → A
 | 0, _, _, _, _ => z
 | k + 1, x0, x1, K0, K1 =>
  if (w64 (x1 * x1)) ≤ x0 then
   gd z (x1 ≠ 0) <|
   if (x0.tmod x1) = 0 then
    K0 false
   else
    impl_isPrime.g3 z k x0 (w64 (x1 + 1)) K0 K1
  else
   K1
def impl_isPrime {A : Type} (z : A) : Nat → Int → (Bool → A) → A := step (fun _ _ => z) fun k a0 Φ =>
  impl_isPrime.g3 z k a0 2 Φ (impl_within z k a0 3 61 Φ)
def impl_around {A : Type} (z : A) : Nat → Int → Int → (Int → A) → A := step (fun _ _ _ => z) fun k a0 a1 Φ =>
  gd z (a1 ≠ 0) <|
  gd z (a1 ≠ 0) <|
  Φ ((w64 ((a0.tmod a1) + a1)).tmod a1)
def impl_power.g4 {A : Type} (z : A) : Nat → Int → Int → Int → Int → (Int → A) → A
 | 0, _, _, _, _, _ => z
 | k + 1, x0, x1, x2, x3, K0 =>
  if 0 < x1 then
   if (x1.tmod 2) = 1 then
    gd z (x2 ≠ 0) <|
    gd z (x2 ≠ 0) <|
    impl_power.g4 z k ((w64 (x0 * x0)).tmod x2) (w64 (x1.tdiv 2)) x2 ((w64 (x3 * x0)).tmod x2) K0
   else
    gd z (x2 ≠ 0) <|
    impl_power.g4 z k ((w64 (x0 * x0)).tmod x2) (w64 (x1.tdiv 2)) x2 x3 K0
  else
   K0 x3
def impl_power {A : Type} (z : A) : Nat → Int → Int → Int → (Int → A) → A := step (fun _ _ _ _ => z) fun k a0 a1 a2 Φ =>
  gd z (a2 ≠ 0) <|
  impl_around z k a0 a2 fun v1 =>
  impl_power.g4 z k v1 a1 a2 (Int.tmod 1 a2) Φ
def impl_bernoulliBy.g12 {A : Type} (z : A) : Nat → Int → Int → List Int → List Int → (List Int → A) → A
 | 0, _, _, _, _, _ => z
 | k + 1, x0, x3, x5, x6, K0 =>
  if x3 < (x5.length : Int) then
   inI z (w64 (x3 - 1)) (x5.length) fun j1 =>
   inI z x3 (x5.length) fun j2 =>
   gd z (x0 ≠ 0) <|
   apI z ((x6.length) + 1) 8 <|
   impl_bernoulliBy.g12 z k x0 (w64 (x3 + 1)) x5 (x6 ++ [((w64 ((x5.getD j1 0) + (x5.getD j2 0))).tmod x0)]) K0
  else
   K0 x6
def impl_bernoulliBy.g20 {A : Type} (z : A) : Nat → Int → Int → Int → List Int → List Int → (Int → A) → A
 | 0, _, _, _, _, _, _ => z
 | k + 1, x3, x4, x5, x6, x7, K0 =>
  if x5 < x4 then
   inI z x5 (x6.length) fun j4 =>
   inI z x5 (x7.length) fun j5 =>
   impl_bernoulliBy.g20 z k (w64 (x3 + (w64 ((x7.getD j5 0) * (x6.getD j4 0))))) x4 (w64 (x5 + 1)) x6 x7 K0
  else
   K0 x3
def impl_bernoulliBy.g5 {A : Type} (z : A) : Nat → Int → Int → Int → List Int → List Int → (List Int → A) → A
 | 0, _, _, _, _, _, _ => z
 | k + 1, x0, x1, x2, x3, x4, K0 =>
  if x2 ≤ x1 then
   impl_bernoulliBy.g12 z k x0 1 x4 [1] (fun v3 =>
    apI z ((v3.length) + 1) 8 <|
    impl_bernoulliBy.g20 z k 0 (x3.length : Int) 0 x3 (v3 ++ [1]) (fun v6 =>
     impl_around z k (w64 (0 - v6)) x0 fun v7 =>
     impl_power z k (w64 (x2 + 1)) (w64 (x0 - 2)) x0 fun v8 =>
     gd z (x0 ≠ 0) <|
     apI z ((x3.length) + 1) 8 <|
     impl_bernoulliBy.g5 z k x0 x1 (w64 (x2 + 1)) (x3 ++ [((w64 (v7 * v8)).tmod x0)]) (v3 ++ [1]) K0))
  else
   K0 x3
def impl_bernoulliBy {A : Type} (z : A) : Nat → Int → Int → (List Int → A) → A := step (fun _ _ _ => z) fun k a0 a1 Φ =>
  impl_bernoulliBy.g5 z k a0 a1 1 [1] [1, 1] Φ
def impl_BernoulliModulo {A : Type} (z : A) : Nat → Int → Int → (Int → Int → A) → A := step (fun _ _ _ => z) fun k a0 a1 Φ =>
  impl_isPrime z k a0 fun v1 =>
  bif !v1 then
   Φ 0 2
  else
   impl_within z k a1 2 (w64 (a0 - 3)) fun v2 =>
   bif !v2 then
    Φ 0 2
   else if (a1.tmod 2) ≠ 0 then
    Φ 0 2
   else
    impl_bernoulliBy z k a0 a1 fun v3 =>
    inI z a1 (v3.length) fun j4 =>
    Φ (v3.getD j4 0) 0
def spec_l06Prime.g6 {A : Type} (z : A) : Nat → Int → Int → (Bool → A) → A → A
 | 0, _, _, _, _ => z
 | k + 1, x0, x1, K0, K1 =>
  if (w64 (x1 * x1)) ≤ x0 then
   gd z (x1 ≠ 0) <|
   if (x0.tmod x1) = 0 then
    K0 false
   else
    spec_l06Prime.g6 z k x0 (w64 (x1 + 1)) K0 K1
  else
   K1
def spec_l06Prime {A : Type} (z : A) : Nat → Int → (Bool → A) → A := step (fun _ _ => z) fun k a0 Φ =>
  spec_l01In z k a0 3 61 fun v1 =>
  bif !v1 then
   Φ false
  else
   spec_l06Prime.g6 z k a0 2 Φ (Φ true)
def spec_l08Power.g3 {A : Type} (z : A) : Nat → Int → Int → Int → Int → (Int → A) → A
 | 0, _, _, _, _, _ => z
 | k + 1, x0, x1, x2, x3, K0 =>
  if 0 < x2 then
   gd z (x0 ≠ 0) <|
   spec_l08Power.g3 z k x0 x1 (w64 (x2 - 1)) ((w64 (x3 * x1)).tmod x0) K0
  else
   K0 x3
def spec_l08Power {A : Type} (z : A) : Nat → Int → Int → Int → (Int → A) → A := step (fun _ _ _ _ => z) fun k a0 a1 a2 Φ =>
  spec_l08Power.g3 z k a0 a1 a2 1 Φ
def spec_l10Bernoulli.g11 {A : Type} (z : A) : Nat → Int → Int → Int → Int → Int → List Int → (Int → A) → A
 | 0, _, _, _, _, _, _, _ => z
 | k + 1, x0, x1, x2, x3, x4, x5, K0 =>
  if x4 < x1 then
   inI z x4 (x5.length) fun j1 =>
   gd z (x0 ≠ 0) <|
   gd z (x0 ≠ 0) <|
   gd z (x0 ≠ 0) <|
   spec_l08Power z k x0 (w64 (x4 + 1)) (w64 (x0 - 2)) fun v2 =>
   gd z (x0 ≠ 0) <|
   spec_l10Bernoulli.g11 z k x0 x1 ((w64 (x2 + (w64 (x3 * (x5.getD j1 0))))).tmod x0) ((w64 (((w64 (x3 * ((w64 ((w64 (x1 + 1)) - x4)).tmod x0))).tmod x0) * v2)).tmod x0) (w64 (x4 + 1)) x5 K0
  else
   K0 x2
def spec_l10Bernoulli.g4 {A : Type} (z : A) : Nat → Int → Int → List Int → (List Int → A) → A
 | 0, _, _, _, _ => z
 | k + 1, x0, x1, x2, K0 =>
  if x1 ≤ (w64 (x0 - 3)) then
   spec_l10Bernoulli.g11 z k x0 x1 0 1 0 x2 (fun v3 =>
    gd z (x0 ≠ 0) <|
    spec_l08Power z k x0 (w64 (x1 + 1)) (w64 (x0 - 2)) fun v4 =>
    gd z (x0 ≠ 0) <|
    apI z ((x2.length) + 1) 8 <|
    spec_l10Bernoulli.g4 z k x0 (w64 (x1 + 1)) (x2 ++ [((w64 (((w64 (x0 - v3)).tmod x0) * v4)).tmod x0)]) K0)
  else
   K0 x2
def spec_l10Bernoulli {A : Type} (z : A) : Nat → Int → (List Int → A) → A := step (fun _ _ => z) fun k a0 Φ =>
  spec_l10Bernoulli.g4 z k a0 1 [1] Φ
def spec_BernoulliModulo {A : Type} (z : A) : Nat → Int → Int → (Int → Int → A) → A := step (fun _ _ _ => z) fun k a0 a1 Φ =>
  spec_l06Prime z k a0 fun v1 =>
  bif !v1 then
   Φ 0 2
  else
   spec_l01In z k a1 2 (w64 (a0 - 3)) fun v2 =>
   bif !v2 then
    Φ 0 2
   else if (a1.tmod 2) = 1 then
    Φ 0 2
   else
    spec_l10Bernoulli z k a0 fun v3 =>
    inI z a1 (v3.length) fun j4 =>
    Φ (v3.getD j4 0) 0
def spec_DrawIrregularOf {A : Type} (z : A) : Nat → List Int → (Int → A) → A := step (fun _ _ => z) fun k a0 Φ =>
  spec_l01From z k a0 fun v1 v2 v3 =>
  spec_l08Prime z k v1 v2 v3 fun v4 v5 v6 v7 =>
  spec_l08Prime z k v4 v5 v6 fun v8 v9 v10 v11 =>
  spec_l01Pick z k v8 v9 v10 [37, 59, v7, v11] fun v12 v13 v14 v15 =>
  Φ v15
def impl_IrregularOf.g7 {A : Type} (z : A) : Nat → Int → Int → List Int → List Int → (List Int → A) → A
 | 0, _, _, _, _, _ => z
 | k + 1, x0, x1, x2, x3, K0 =>
  if x1 < x0 then
   inI z x1 (x3.length) fun j3 =>
   if 2 ≤ x1 then
    if (x1.tmod 2) = 0 then
     if (x3.getD j3 0) = 0 then
      apI z ((x2.length) + 1) 8 <|
      impl_IrregularOf.g7 z k x0 (w64 (x1 + 1)) (x2 ++ [x1]) x3 K0
     else
      impl_IrregularOf.g7 z k x0 (w64 (x1 + 1)) x2 x3 K0
    else
     impl_IrregularOf.g7 z k x0 (w64 (x1 + 1)) x2 x3 K0
   else
    impl_IrregularOf.g7 z k x0 (w64 (x1 + 1)) x2 x3 K0
  else
   K0 x2
def impl_IrregularOf {A : Type} (z : A) : Nat → Int → (List Int → Int → A) → A := step (fun _ _ => z) fun k a0 Φ =>
  impl_isPrime z k a0 fun v1 =>
  bif !v1 then
   Φ [] 2
  else
   impl_bernoulliBy z k a0 (w64 (a0 - 3)) fun v2 =>
   impl_IrregularOf.g7 z k (v2.length : Int) 0 [] v2 (fun v4 =>
    Φ v4 0)
def spec_IrregularOf.g7 {A : Type} (z : A) : Nat → Int → Int → List Int → List Int → (List Int → A) → A
 | 0, _, _, _, _, _ => z
 | k + 1, x0, x1, x2, x3, K0 =>
  if x1 ≤ (w64 (x0 - 3)) then
   inI z x1 (x2.length) fun j3 =>
   if (x2.getD j3 0) = 0 then
    apI z ((x3.length) + 1) 8 <|
    spec_IrregularOf.g7 z k x0 (w64 (x1 + 2)) x2 (x3 ++ [x1]) K0
   else
    spec_IrregularOf.g7 z k x0 (w64 (x1 + 2)) x2 x3 K0
  else
   K0 x3
def spec_IrregularOf {A : Type} (z : A) : Nat → Int → (List Int → Int → A) → A := step (fun _ _ => z) fun k a0 Φ =>
  spec_l06Prime z k a0 fun v1 =>
  bif !v1 then
   Φ [] 2
  else
   spec_l10Bernoulli z k a0 fun v2 =>
   spec_IrregularOf.g7 z k a0 2 v2 [] (fun v4 =>
    Φ v4 0)
def laws_likeInts.g6 {A : Type} (z : A) : Nat → List Int → List Int → Int → (Bool → A) → A → A
 | 0, _, _, _, _, _ => z
 | k + 1, x0, x1, x2, K0, K1 =>
  if x2 < (x0.length : Int) then
   inI z x2 (x0.length) fun j1 =>
   inI z x2 (x1.length) fun j2 =>
   if (x0.getD j1 0) ≠ (x1.getD j2 0) then
    K0 false
   else
    laws_likeInts.g6 z k x0 x1 (w64 (x2 + 1)) K0 K1
  else
   K1
def laws_likeInts {A : Type} (z : A) : Nat → List Int → List Int → (Bool → A) → A := step (fun _ _ _ => z) fun k a0 a1 Φ =>
  if (a0.length : Int) ≠ (a1.length : Int) then
   Φ false
  else
   laws_likeInts.g6 z k a0 a1 0 Φ (Φ true)
def spec_l01DrawOrder {A : Type} (z : A) : Nat → List Int → Int → Int → (List Int → Int → Int → Int → A) → A := step (fun _ _ _ _ => z) fun k a0 a1 a2 Φ =>
  spec_l01Next z k a0 a1 a2 16 fun v1 v2 v3 v4 =>
  spec_l01Pick z k v1 v2 v3 [1, 2, 3, 3, 4, 4, 5, 5, 6, 7, 8, 9, 10, 12, (w64 (1 + v4))] Φ
def spec_DrawCyclotomicUnit {A : Type} (z : A) : Nat → List Int → (Int → Int → A) → A := step (fun _ _ => z) fun k a0 Φ =>
  spec_l01From z k a0 fun v1 v2 v3 =>
  spec_l01DrawOrder z k v1 v2 v3 fun v4 v5 v6 v7 =>
  spec_l01Next z k v4 v5 v6 40 fun v8 v9 v10 v11 =>
  let y1 := w64 ((w64 (v11.tdiv 39)) * 20)
  let y2 := w64 (v7 + y1)
  spec_l01Next z k v8 v9 v10 (w64 (y2 + 2)) fun v12 v13 v14 v15 =>
  Φ y2 v15
def impl_isPrimeTo {A : Type} (z : A) : Nat → Int → Int → (Bool → A) → A := step (fun _ _ _ => z) fun k a0 a1 Φ =>
  impl_within z k a0 1 a1 fun v1 =>
  bif v1 then
   impl_gcd z k a0 a1 fun v2 =>
   Φ (decide (v2 = 1))
  else
   Φ false
def math_bits_Mul64 {A : Type} (z : A) : Nat → Int → Int → (Int → Int → A) → A := step (fun _ _ _ => z) fun k a0 a1 Φ =>
  let y1 := wu64 ((BitVec.ofInt 64 a0 &&& BitVec.ofInt 64 4294967295).toNat : Int)
  let y2 := wu64 ((BitVec.ofInt 64 a1 &&& BitVec.ofInt 64 4294967295).toNat : Int)
  let y3 := wu64 (y1 * y2)
  let y4 := wu64 ((a0.fdiv (2 ^ (32))) * y2)
  let y5 := y3.fdiv (2 ^ (32))
  let y6 := wu64 (y4 + y5)
  Φ (wu64 ((wu64 ((wu64 ((a0.fdiv (2 ^ (32))) * (a1.fdiv (2 ^ (32))))) + (y6.fdiv (2 ^ (32))))) + ((wu64 ((wu64 ((BitVec.ofInt 64 y6 &&& BitVec.ofInt 64 4294967295).toNat : Int)) + (wu64 (y1 * (a1.fdiv (2 ^ (32))))))).fdiv (2 ^ (32))))) (wu64 (a0 * a1))
def math_bits_Mul {A : Type} (z : A) : Nat → Int → Int → (Int → Int → A) → A := step (fun _ _ _ => z) fun k a0 a1 Φ =>
  math_bits_Mul64 z k a0 a1 Φ
def slices_Repeat_Sint64_int64.g9 {A : Type} (z : A) : Nat → Int → List Int → (List Int → A) → A
 | 0, _, _, _ => z
 | k + 1, x0, x1, K0 =>
  if x0 < (x1.length : Int) then
   toI z x0 (x1.length) fun j4 =>
   toI z x0 (x1.length) fun j5 =>
   slices_Repeat_Sint64_int64.g9 z k (w64 (x0 + (((min (((x1.drop 0).take j5).length) ((x1.length) - j4)) : Nat) : Int))) (x1.take j4 ++ ((x1.drop 0).take j5).take ((x1.length) - j4) ++ x1.drop (j4 + (min (((x1.drop 0).take j5).length) ((x1.length) - j4)))) K0
  else
   K0 x1
def slices_Repeat_Sint64_int64.g4 {A : Type} (z : A) : Nat → List Int → Int → (List Int → A) → A
 | 0, _, _, _ => z
 | k + 1, x0, x1, K0 =>
  mkI z 8 (w64 x1) fun m3 =>
  slices_Repeat_Sint64_int64.g9 z k (((min (x0.length) ((List.replicate m3 (0 : Int)).length)) : Nat) : Int) ((List.replicate m3 (0 : Int)).take 0 ++ x0.take ((List.replicate m3 (0 : Int)).length) ++ (List.replicate m3 (0 : Int)).drop (0 + (min (x0.length) ((List.replicate m3 (0 : Int)).length)))) K0
def slices_Repeat_Sint64_int64.g1 {A : Type} (z : A) : Nat → List Int → Int → (List Int → A) → A
 | 0, _, _, _ => z
 | k + 1, x0, x1, K0 =>
  math_bits_Mul z k (wu64 (x0.length : Int)) (wu64 x1) fun v1 v2 =>
  if 0 < v1 then
   z
  else if 9223372036854775807 < v2 then
   z
  else
   slices_Repeat_Sint64_int64.g4 z k x0 v2 K0
def slices_Repeat_Sint64_int64 {A : Type} (z : A) : Nat → List Int → Int → (List Int → A) → A := step (fun _ _ _ => z) fun k a0 a1 Φ =>
  if a1 < 0 then
   z
  else
   slices_Repeat_Sint64_int64.g1 z k a0 a1 Φ
def impl_ones {A : Type} (z : A) : Nat → Int → (List Int → A) → A := step (fun _ _ => z) fun k a0 Φ =>
  slices_Repeat_Sint64_int64 z k [1] a0 Φ
def impl_isOrder {A : Type} (z : A) : Nat → Int → (Bool → A) → A := step (fun _ _ => z) fun k a0 Φ =>
  impl_within z k a0 1 16 Φ
def impl_areSmall_1 {A : Type} (z : A) : Nat → Int → Int → (Bool → A) → A := step (fun _ _ _ => z) fun k a0 a1 Φ =>
  impl_within z k a0 (w64 (0 - a1)) a1 fun v1 =>
  Φ (!v1)
def slices_IndexFunc_Sint64_int64_c95.g3 {A : Type} (z : A) : Nat → List Int → Int → Int → Int → (Int → A) → A → A
 | 0, _, _, _, _, _, _ => z
 | k + 1, x0, x1, x2, x3, K0, K1 =>
  if x3 < x2 then
   inI z x3 (x0.length) fun j1 =>
   impl_areSmall_1 z k (x0.getD j1 0) x1 fun v2 =>
   bif v2 then
    K0 x3
   else
    slices_IndexFunc_Sint64_int64_c95.g3 z k x0 x1 x2 (w64 (x3 + 1)) K0 K1
  else
   K1
def slices_IndexFunc_Sint64_int64_c95 {A : Type} (z : A) : Nat → List Int → Int → (Int → A) → A := step (fun _ _ _ => z) fun k a0 a1 Φ =>
  slices_IndexFunc_Sint64_int64_c95.g3 z k a0 a1 (a0.length : Int) 0 Φ (Φ (-1))
def slices_ContainsFunc_Sint64_int64_c95 {A : Type} (z : A) : Nat → List Int → Int → (Bool → A) → A := step (fun _ _ _ => z) fun k a0 a1 Φ =>
  slices_IndexFunc_Sint64_int64_c95 z k a0 a1 fun v1 =>
  Φ (decide (0 ≤ v1))
def impl_areSmall {A : Type} (z : A) : Nat → List Int → Int → (Bool → A) → A := step (fun _ _ _ => z) fun k a0 a1 Φ =>
  slices_ContainsFunc_Sint64_int64_c95 z k a0 a1 fun v1 =>
  Φ (!v1)
def slices_Clone_Sint64_int64 {A : Type} (z : A) : Nat → List Int → (List Int → A) → A := step (fun _ _ => z) fun _ a0 Φ =>
  apI z a0.length 8 <| Φ a0
def impl_quotient.g11 {A : Type} (z : A) : Nat → Int → List Int → Int → Int → List Int → List Int → (List Int → A) → A
 | 0, _, _, _, _, _, _, _ => z
 | k + 1, x1, x2, x3, x4, x5, x6, K0 =>
  if x4 < x3 then
   inI z x4 (x2.length) fun j5 =>
   inI z (w64 (x1 + x4)) (x5.length) fun j6 =>
   inI z x1 (x6.length) fun j7 =>
   inI z (w64 (x1 + x4)) (x5.length) fun j8 =>
   impl_quotient.g11 z k x1 x2 x3 (w64 (x4 + 1)) (x5.set j8 (w64 ((x5.getD j6 0) - (w64 ((x6.getD j7 0) * (x2.getD j5 0)))))) x6 K0
  else
   K0 x5
def impl_quotient.g5 {A : Type} (z : A) : Nat → List Int → Int → List Int → List Int → (List Int → A) → A
 | 0, _, _, _, _, _ => z
 | k + 1, x0, x1, x2, x3, K0 =>
  if 0 ≤ x1 then
   inI z (w64 ((w64 (x1 + (x0.length : Int))) - 1)) (x2.length) fun j3 =>
   inI z x1 (x3.length) fun j4 =>
   impl_quotient.g11 z k x1 x0 (x0.length : Int) 0 x2 (x3.set j4 (x2.getD j3 0)) (fun v9 =>
    impl_quotient.g5 z k x0 (w64 (x1 - 1)) v9 (x3.set j4 (x2.getD j3 0)) K0)
  else
   K0 x3
def impl_quotient {A : Type} (z : A) : Nat → List Int → List Int → (List Int → A) → A := step (fun _ _ _ => z) fun k a0 a1 Φ =>
  slices_Clone_Sint64_int64 z k a0 fun v1 =>
  mkI z 8 (w64 ((w64 ((v1.length : Int) - (a1.length : Int))) + 1)) fun m2 =>
  impl_quotient.g5 z k a1 (w64 (((List.replicate m2 (0 : Int)).length : Int) - 1)) v1 (List.replicate m2 (0 : Int)) Φ
mutual
def impl_cyclotomic.g5 {A : Type} (z : A) : Nat → Int → Int → List Int → (List Int → A) → A
 | 0, _, _, _, _ => z
 | k + 1, x0, x1, x2, K0 =>
  if x1 < x0 then
   gd z (x1 ≠ 0) <|
   if (x0.tmod x1) = 0 then
    impl_cyclotomic z k x1 fun v4 =>
    impl_quotient z k x2 v4 fun v5 =>
    impl_cyclotomic.g5 z k x0 (w64 (x1 + 1)) v5 K0
   else
    impl_cyclotomic.g5 z k x0 (w64 (x1 + 1)) x2 K0
  else
   K0 x2
def impl_cyclotomic {A : Type} (z : A) : Nat → Int → (List Int → A) → A
 | 0, _, _ => z
 | k + 1, a0, Φ =>
  mkI z 8 (w64 (a0 + 1)) fun m1 =>
  inI z 0 ((List.replicate m1 (0 : Int)).length) fun j2 =>
  inI z a0 (((List.replicate m1 (0 : Int)).set j2 (-1)).length) fun j3 =>
  impl_cyclotomic.g5 z k a0 1 (((List.replicate m1 (0 : Int)).set j2 (-1)).set j3 1) Φ
end
def impl_powers.g20 {A : Type} (z : A) : Nat → Int → Int → Int → List Int → List Int → (List Int → A) → A
 | 0, _, _, _, _, _, _ => z
 | k + 1, x1, x4, x5, x6, x7, K0 =>
  if x5 < x4 then
   inI z x5 (x7.length) fun j9 =>
   inI z x5 (x6.length) fun j10 =>
   inI z x5 (x7.length) fun j11 =>
   impl_powers.g20 z k x1 x4 (w64 (x5 + 1)) x6 (x7.set j11 (w64 ((x7.getD j9 0) - (w64 (x1 * (x6.getD j10 0)))))) K0
  else
   K0 x7
def impl_powers.g11 {A : Type} (z : A) : Nat → Int → Int → Int → List Int → List Int → List (List Int) → (List (List Int) → A) → A
 | 0, _, _, _, _, _, _, _ => z
 | k + 1, x0, x1, x2, x3, x4, x5, K0 =>
  if x2 < x1 then
   slices_Clone_Sint64_int64 z k x4 fun v4 =>
   apI z ((x5.length) + 1) 24 <|
   inI z (w64 (x0 - 1)) (x4.length) fun j5 =>
   toI z 1 (x4.length) fun j6 =>
   toI z (w64 (x0 - 1)) (x4.length) fun j7 =>
   inI z 0 ((x4.take j6 ++ ((x4.drop 0).take j7).take ((x4.length) - j6) ++ x4.drop (j6 + (min (((x4.drop 0).take j7).length) ((x4.length) - j6)))).length) fun j8 =>
   impl_powers.g20 z k (x4.getD j5 0) (((x4.take j6 ++ ((x4.drop 0).take j7).take ((x4.length) - j6) ++ x4.drop (j6 + (min (((x4.drop 0).take j7).length) ((x4.length) - j6)))).set j8 0).length : Int) 0 x3 ((x4.take j6 ++ ((x4.drop 0).take j7).take ((x4.length) - j6) ++ x4.drop (j6 + (min (((x4.drop 0).take j7).length) ((x4.length) - j6)))).set j8 0) (fun v12 =>
    impl_powers.g11 z k x0 x1 (w64 (x2 + 1)) x3 v12 (x5 ++ [v4]) K0)
  else
   K0 x5
def impl_powers {A : Type} (z : A) : Nat → Int → (List (List Int) → A) → A := step (fun _ _ => z) fun k a0 Φ =>
  impl_cyclotomic z k a0 fun v1 =>
  let y1 := w64 ((v1.length : Int) - 1)
  mkI z 8 y1 fun m2 =>
  inI z 0 ((List.replicate m2 (0 : Int)).length) fun j3 =>
  if a0 = 1 then
   Φ [((List.replicate m2 (0 : Int)).set j3 1)]
  else
   impl_powers.g11 z k y1 a0 0 v1 ((List.replicate m2 (0 : Int)).set j3 1) [] Φ
def impl_fieldOf {A : Type} (z : A) : Nat → Int → (Int → Int → List (List Int) → A) → A := step (fun _ _ => z) fun k a0 Φ =>
  impl_powers z k a0 fun v1 =>
  inI z 0 (v1.length) fun j2 =>
  Φ a0 ((v1.getD j2 []).length : Int) v1
def impl_CycloOf_1 {A : Type} (z : A) : Nat → Int → (Int → A) → A := step (fun _ _ => z) fun k a0 Φ =>
  Φ a0
def impl_field_with_c56.g10 {A : Type} (z : A) : Nat → Int → List Int → Int → Int → List Int → (List Int → A) → A
 | 0, _, _, _, _, _, _ => z
 | k + 1, x3, x7, x8, x9, x10, K0 =>
  if x9 < x8 then
   inI z x9 (x7.length) fun j6 =>
   inI z x9 (x10.length) fun j7 =>
   inI z x9 (x10.length) fun j8 =>
   impl_field_with_c56.g10 z k x3 x7 x8 (w64 (x9 + 1)) (x10.set j8 (w64 ((x10.getD j7 0) + (w64 (x3 * (x7.getD j6 0)))))) K0
  else
   K0 x10
def impl_field_with_c56.g4 {A : Type} (z : A) : Nat → Int → List (List Int) → List Int → Int → Int → List Int → (List Int → A) → A
 | 0, _, _, _, _, _, _, _ => z
 | k + 1, x0, x2, x3, x4, x5, x6, K0 =>
  if x5 < x4 then
   inI z x5 (x3.length) fun j2 =>
   impl_CycloOf_1 z k x5 fun v3 =>
   impl_around z k v3 x0 fun v4 =>
   inI z v4 (x2.length) fun j5 =>
   impl_field_with_c56.g10 z k (x3.getD j2 0) (x2.getD j5 []) ((x2.getD j5 []).length : Int) 0 x6 (fun v9 =>
    impl_field_with_c56.g4 z k x0 x2 x3 x4 (w64 (x5 + 1)) v9 K0)
  else
   K0 x6
def impl_field_with_c56 {A : Type} (z : A) : Nat → Int → Int → List (List Int) → List Int → (List Int → A) → A := step (fun _ _ _ _ _ => z) fun k a0 a1 a2 a3 Φ =>
  mkI z 8 a1 fun m1 =>
  impl_field_with_c56.g4 z k a0 a2 a3 (a3.length : Int) 0 (List.replicate m1 (0 : Int)) Φ
def impl_cycloOf {A : Type} (z : A) : Nat → Int → List Int → (Int → List Int → Int → A) → A := step (fun _ _ _ => z) fun k a0 a1 Φ =>
  impl_areSmall z k a1 1000000000 fun v1 =>
  bif !v1 then
   Φ 0 [] 3
  else
   Φ a0 a1 0
def impl_CycloOf {A : Type} (z : A) : Nat → Int → List Int → (Int → List Int → Int → A) → A := step (fun _ _ _ => z) fun k a0 a1 Φ =>
  impl_isOrder z k a0 fun v1 =>
  bif !v1 then
   Φ 0 [] 2
  else if a0 < (a1.length : Int) then
   Φ 0 [] 2
  else
   impl_areSmall z k a1 1000000000 fun v2 =>
   bif !v2 then
    Φ 0 [] 2
   else
    impl_fieldOf z k a0 fun v3 v4 v5 =>
    impl_field_with_c56 z k v3 v4 v5 a1 fun v6 =>
    impl_cycloOf z k a0 v6 Φ
def impl_CyclotomicUnit {A : Type} (z : A) : Nat → Int → Int → (Int → List Int → Int → A) → A := step (fun _ _ _ => z) fun k a0 a1 Φ =>
  impl_within z k a0 2 16 fun v1 =>
  bif !v1 then
   Φ 0 [] 2
  else
   impl_isPrimeTo z k a1 a0 fun v2 =>
   bif !v2 then
    Φ 0 [] 2
   else
    impl_ones z k a1 fun v3 =>
    impl_CycloOf z k a0 v3 Φ
def spec_l01Phi.g4 {A : Type} (z : A) : Nat → Int → Int → Int → (Int → A) → A
 | 0, _, _, _, _ => z
 | k + 1, x0, x1, x2, K0 =>
  if x2 ≤ x0 then
   spec_l01Gcd z k x2 x0 fun v1 =>
   if v1 = 1 then
    spec_l01Phi.g4 z k x0 (w64 (x1 + 1)) (w64 (x2 + 1)) K0
   else
    spec_l01Phi.g4 z k x0 x1 (w64 (x2 + 1)) K0
  else
   K0 x1
def spec_l01Phi {A : Type} (z : A) : Nat → Int → (Int → A) → A := step (fun _ _ => z) fun k a0 Φ =>
  spec_l01Phi.g4 z k a0 0 1 Φ
def spec_l01Zero {A : Type} (z : A) : Nat → Int → (Int → List Int → A) → A := step (fun _ _ => z) fun k a0 Φ =>
  spec_l01Phi z k a0 fun v1 =>
  mkI z 8 v1 fun m2 =>
  Φ a0 (List.replicate m2 (0 : Int))
def spec_l01Own {A : Type} (z : A) : Nat → List Int → (List Int → A) → A := step (fun _ _ => z) fun k a0 Φ =>
  apI z (0 + (a0.length)) 8 <|
  Φ ([] ++ a0)
def spec_l01Quotient.g11 {A : Type} (z : A) : Nat → List Int → Int → Int → List Int → List Int → (List Int → A) → A
 | 0, _, _, _, _, _, _ => z
 | k + 1, x0, x1, x2, x3, x4, K0 =>
  if x2 < (x0.length : Int) then
   inI z (w64 (x1 + x2)) (x3.length) fun j5 =>
   inI z x1 (x4.length) fun j6 =>
   inI z x2 (x0.length) fun j7 =>
   inI z (w64 (x1 + x2)) (x3.length) fun j8 =>
   spec_l01Quotient.g11 z k x0 x1 (w64 (x2 + 1)) (x3.set j8 (w64 ((x3.getD j5 0) - (w64 ((x4.getD j6 0) * (x0.getD j7 0)))))) x4 K0
  else
   K0 x3
def spec_l01Quotient.g5 {A : Type} (z : A) : Nat → List Int → Int → List Int → List Int → (List Int → A) → A
 | 0, _, _, _, _, _ => z
 | k + 1, x0, x1, x2, x3, K0 =>
  if 0 ≤ x1 then
   inI z (w64 ((w64 (x1 + (x0.length : Int))) - 1)) (x2.length) fun j3 =>
   inI z x1 (x3.length) fun j4 =>
   spec_l01Quotient.g11 z k x0 x1 0 x2 (x3.set j4 (x2.getD j3 0)) (fun v9 =>
    spec_l01Quotient.g5 z k x0 (w64 (x1 - 1)) v9 (x3.set j4 (x2.getD j3 0)) K0)
  else
   K0 x3
def spec_l01Quotient {A : Type} (z : A) : Nat → List Int → List Int → (List Int → A) → A := step (fun _ _ _ => z) fun k a0 a1 Φ =>
  spec_l01Own z k a0 fun v1 =>
  let y1 := w64 ((a0.length : Int) - (a1.length : Int))
  mkI z 8 (w64 (y1 + 1)) fun m2 =>
  spec_l01Quotient.g5 z k a1 y1 v1 (List.replicate m2 (0 : Int)) Φ
mutual
def spec_l01Cyclotomic.g6 {A : Type} (z : A) : Nat → Int → Int → List Int → (List Int → A) → A
 | 0, _, _, _, _ => z
 | k + 1, x0, x1, x2, K0 =>
  if x1 < x0 then
   gd z (x1 ≠ 0) <|
   if (x0.tmod x1) = 0 then
    spec_l01Cyclotomic z k x1 fun v4 =>
    spec_l01Quotient z k x2 v4 fun v5 =>
    spec_l01Cyclotomic.g6 z k x0 (w64 (x1 + 1)) v5 K0
   else
    spec_l01Cyclotomic.g6 z k x0 (w64 (x1 + 1)) x2 K0
  else
   K0 x2
def spec_l01Cyclotomic {A : Type} (z : A) : Nat → Int → (List Int → A) → A
 | 0, _, _ => z
 | k + 1, a0, Φ =>
  mkI z 8 (w64 (a0 + 1)) fun m1 =>
  inI z 0 ((List.replicate m1 (0 : Int)).length) fun j2 =>
  inI z a0 (((List.replicate m1 (0 : Int)).set j2 (-1)).length) fun j3 =>
  spec_l01Cyclotomic.g6 z k a0 1 (((List.replicate m1 (0 : Int)).set j2 (-1)).set j3 1) Φ
end
def spec_l01Reduce.g11 {A : Type} (z : A) : Nat → Int → Int → Int → Int → List Int → List Int → (List Int → A) → A
 | 0, _, _, _, _, _, _, _ => z
 | k + 1, x1, x2, x3, x4, x6, x7, K0 =>
  if x4 ≤ x1 then
   inI z (w64 ((w64 (x2 - x1)) + x4)) (x7.length) fun j4 =>
   inI z x4 (x6.length) fun j5 =>
   inI z (w64 ((w64 (x2 - x1)) + x4)) (x7.length) fun j6 =>
   spec_l01Reduce.g11 z k x1 x2 x3 (w64 (x4 + 1)) x6 (x7.set j6 (w64 ((x7.getD j4 0) - (w64 (x3 * (x6.getD j5 0)))))) K0
  else
   K0 x7
def spec_l01Reduce.g5 {A : Type} (z : A) : Nat → Int → Int → List Int → List Int → (List Int → A) → A
 | 0, _, _, _, _, _ => z
 | k + 1, x1, x2, x4, x5, K0 =>
  if x1 ≤ x2 then
   inI z x2 (x5.length) fun j3 =>
   spec_l01Reduce.g11 z k x1 x2 (x5.getD j3 0) 0 x4 x5 (fun v7 =>
    spec_l01Reduce.g5 z k x1 (w64 (x2 - 1)) x4 v7 K0)
  else
   K0 x5
def spec_l01Reduce.g18 {A : Type} (z : A) : Nat → Int → Int → List Int → List Int → (List Int → A) → A
 | 0, _, _, _, _, _ => z
 | k + 1, x0, x1, x3, x6, K0 =>
  if x1 < x0 then
   if x1 < (x3.length : Int) then
    inI z x1 (x3.length) fun j11 =>
    inI z x1 (x6.length) fun j12 =>
    spec_l01Reduce.g18 z k x0 (w64 (x1 + 1)) x3 (x6.set j12 (x3.getD j11 0)) K0
   else
    K0 x6
  else
   K0 x6
def spec_l01Reduce {A : Type} (z : A) : Nat → Int → List Int → (Int → List Int → A) → A := step (fun _ _ _ => z) fun k a0 a1 Φ =>
  spec_l01Cyclotomic z k a0 fun v1 =>
  spec_l01Own z k a1 fun v2 =>
  let y1 := w64 ((v1.length : Int) - 1)
  spec_l01Reduce.g5 z k y1 (w64 ((v2.length : Int) - 1)) v1 v2 (fun v8 =>
   spec_l01Zero z k a0 fun v9 v10 =>
   spec_l01Reduce.g18 z k y1 0 v8 v10 (fun v13 =>
    Φ v9 v13))
def spec_l01Unit {A : Type} (z : A) : Nat → Int → Int → (Int → List Int → A) → A := step (fun _ _ _ => z) fun k a0 a1 Φ =>
  gd z (a0 ≠ 0) <|
  let y1 := w64 ((a1.tmod a0) + a0)
  gd z (a0 ≠ 0) <|
  let y2 := y1.tmod a0
  mkI z 8 (w64 (y2 + 1)) fun m1 =>
  inI z y2 ((List.replicate m1 (0 : Int)).length) fun j2 =>
  spec_l01Reduce z k a0 ((List.replicate m1 (0 : Int)).set j2 1) Φ
def spec_l01Plus.g4 {A : Type} (z : A) : Nat → Int → Int → List Int → List Int → (List Int → A) → A
 | 0, _, _, _, _, _ => z
 | k + 1, x0, x1, x3, x7, K0 =>
  if x1 < (x3.length : Int) then
   inI z x1 (x7.length) fun j2 =>
   inI z x1 (x3.length) fun j3 =>
   inI z x1 (x7.length) fun j4 =>
   spec_l01Plus.g4 z k x0 (w64 (x1 + 1)) x3 (x7.set j4 (w64 ((x7.getD j2 0) + (w64 (x0 * (x3.getD j3 0)))))) K0
  else
   K0 x7
def spec_l01Plus {A : Type} (z : A) : Nat → Int → List Int → Int → List Int → Int → (Int → List Int → A) → A := step (fun _ _ _ _ _ _ => z) fun k a0 a1 a2 a3 a4 Φ =>
  spec_l01Own z k a1 fun v1 =>
  spec_l01Plus.g4 z k a4 0 a3 v1 (fun v5 =>
   Φ a0 v5)
def spec_CyclotomicUnit.g7 {A : Type} (z : A) : Nat → Int → Int → Int → Int → List Int → (Int → List Int → A) → A
 | 0, _, _, _, _, _, _ => z
 | k + 1, x0, x1, x2, x4, x6, K0 =>
  if x2 < x1 then
   spec_l01Unit z k x0 x2 fun v6 v7 =>
   spec_l01Plus z k x4 x6 v6 v7 1 fun v8 v9 =>
   spec_CyclotomicUnit.g7 z k x0 x1 (w64 (x2 + 1)) v8 v9 K0
  else
   K0 x4 x6
def spec_CyclotomicUnit {A : Type} (z : A) : Nat → Int → Int → (Int → List Int → Int → A) → A := step (fun _ _ _ => z) fun k a0 a1 Φ =>
  spec_l01In z k a0 2 16 fun v1 =>
  bif !v1 then
   Φ 0 [] 2
  else
   spec_l01In z k a1 1 a0 fun v2 =>
   bif !v2 then
    Φ 0 [] 2
   else
    spec_l01Gcd z k a1 a0 fun v3 =>
    if v3 ≠ 1 then
     Φ 0 [] 2
    else
     spec_l01Zero z k a0 fun v4 v5 =>
     spec_CyclotomicUnit.g7 z k a0 a1 0 v4 v5 (fun v10 v11 =>
      Φ v10 v11 0)
def laws_cyclo9 {A : Type} (z : A) : Nat → Int → List Int → Int → List Int → (Bool → A) → A := step (fun _ _ _ _ _ => z) fun k a0 a1 a2 a3 Φ =>
  if a0 = a2 then
   laws_likeInts z k a1 a3 Φ
  else
   Φ false
def impl_totient.g4 {A : Type} (z : A) : Nat → Int → Int → Int → (Int → A) → A
 | 0, _, _, _, _ => z
 | k + 1, x0, x1, x2, K0 =>
  if x2 ≤ x0 then
   impl_gcd z k x2 x0 fun v1 =>
   if v1 = 1 then
    impl_totient.g4 z k x0 (w64 (x1 + 1)) (w64 (x2 + 1)) K0
   else
    impl_totient.g4 z k x0 x1 (w64 (x2 + 1)) K0
  else
   K0 x1
def impl_totient {A : Type} (z : A) : Nat → Int → (Int → A) → A := step (fun _ _ => z) fun k a0 Φ =>
  impl_totient.g4 z k a0 0 1 Φ
def impl_IsCyclo {A : Type} (z : A) : Nat → Int → List Int → (Bool → A) → A := step (fun _ _ _ => z) fun k a0 a1 Φ =>
  impl_isOrder z k a0 fun v1 =>
  bif v1 then
   impl_totient z k a0 fun v2 =>
   if (a1.length : Int) = v2 then
    impl_areSmall z k a1 1000000000 Φ
   else
    Φ false
  else
   Φ false
def impl_unitsOf.g4 {A : Type} (z : A) : Nat → Int → Int → List Int → (List Int → A) → A
 | 0, _, _, _, _ => z
 | k + 1, x0, x1, x2, K0 =>
  if x1 ≤ x0 then
   impl_isPrimeTo z k x1 x0 fun v1 =>
   bif v1 then
    apI z ((x2.length) + 1) 8 <|
    impl_unitsOf.g4 z k x0 (w64 (x1 + 1)) (x2 ++ [x1]) K0
   else
    impl_unitsOf.g4 z k x0 (w64 (x1 + 1)) x2 K0
  else
   K0 x2
def impl_unitsOf {A : Type} (z : A) : Nat → Int → (List Int → A) → A := step (fun _ _ => z) fun k a0 Φ =>
  impl_unitsOf.g4 z k a0 1 [] Φ
def impl_field_image_1 {A : Type} (z : A) : Nat → Int → Int → (Int → A) → A := step (fun _ _ _ => z) fun k a0 a1 Φ =>
  Φ (w64 (a1 * a0))
def impl_field_with_c97.g10 {A : Type} (z : A) : Nat → Int → List Int → Int → Int → List Int → (List Int → A) → A
 | 0, _, _, _, _, _, _ => z
 | k + 1, x4, x8, x9, x10, x11, K0 =>
  if x10 < x9 then
   inI z x10 (x8.length) fun j6 =>
   inI z x10 (x11.length) fun j7 =>
   inI z x10 (x11.length) fun j8 =>
   impl_field_with_c97.g10 z k x4 x8 x9 (w64 (x10 + 1)) (x11.set j8 (w64 ((x11.getD j7 0) + (w64 (x4 * (x8.getD j6 0)))))) K0
  else
   K0 x11
def impl_field_with_c97.g4 {A : Type} (z : A) : Nat → Int → List (List Int) → Int → List Int → Int → Int → List Int → (List Int → A) → A
 | 0, _, _, _, _, _, _, _, _ => z
 | k + 1, x0, x2, x3, x4, x5, x6, x7, K0 =>
  if x6 < x5 then
   inI z x6 (x4.length) fun j2 =>
   impl_field_image_1 z k x6 x3 fun v3 =>
   impl_around z k v3 x0 fun v4 =>
   inI z v4 (x2.length) fun j5 =>
   impl_field_with_c97.g10 z k (x4.getD j2 0) (x2.getD j5 []) ((x2.getD j5 []).length : Int) 0 x7 (fun v9 =>
    impl_field_with_c97.g4 z k x0 x2 x3 x4 x5 (w64 (x6 + 1)) v9 K0)
  else
   K0 x7
def impl_field_with_c97 {A : Type} (z : A) : Nat → Int → Int → List (List Int) → List Int → Int → (List Int → A) → A := step (fun _ _ _ _ _ _ => z) fun k a0 a1 a2 a3 a4 Φ =>
  mkI z 8 a1 fun m1 =>
  impl_field_with_c97.g4 z k a0 a2 a4 a3 (a3.length : Int) 0 (List.replicate m1 (0 : Int)) Φ
def impl_field_image {A : Type} (z : A) : Nat → Int → Int → List (List Int) → List Int → Int → (List Int → A) → A := step (fun _ _ _ _ _ _ => z) fun k a0 a1 a2 a3 a4 Φ =>
  impl_field_with_c97 z k a0 a1 a2 a3 a4 Φ
def impl_field_images.g4 {A : Type} (z : A) : Nat → Int → Int → List (List Int) → List Int → Int → Int → List (List Int) → List Int → (List (List Int) → A) → A
 | 0, _, _, _, _, _, _, _, _, _ => z
 | k + 1, x0, x1, x2, x3, x4, x5, x6, x7, K0 =>
  if x5 < x4 then
   inI z x5 (x7.length) fun j2 =>
   impl_field_image z k x0 x1 x2 x3 (x7.getD j2 0) fun v3 =>
   apI z ((x6.length) + 1) 24 <|
   impl_field_images.g4 z k x0 x1 x2 x3 x4 (w64 (x5 + 1)) (x6 ++ [v3]) x7 K0
  else
   K0 x6
def impl_field_images {A : Type} (z : A) : Nat → Int → Int → List (List Int) → List Int → (List (List Int) → A) → A := step (fun _ _ _ _ _ => z) fun k a0 a1 a2 a3 Φ =>
  impl_unitsOf z k a0 fun v1 =>
  impl_field_images.g4 z k a0 a1 a2 a3 (v1.length : Int) 0 [] v1 Φ
def impl_field_whole {A : Type} (z : A) : Nat → Int → Int → List (List Int) → Int → (List Int → A) → A := step (fun _ _ _ _ _ => z) fun k a0 a1 a2 a3 Φ =>
  mkI z 8 a1 fun m1 =>
  inI z 0 ((List.replicate m1 (0 : Int)).length) fun j2 =>
  Φ ((List.replicate m1 (0 : Int)).set j2 a3)
def impl_sum_add {A : Type} (z : A) : Nat → Int → Nat → Int → Int → (Int → Nat → A) → A := step (fun _ _ _ _ _ => z) fun k a0 a1 a2 a3 Φ =>
  optN z ((FloatKind.format .f64).mul (FloatKind.nearest .f64 a2) (FloatKind.nearest .f64 a3)) fun f1 =>
  optN z ((FloatKind.format .f64).add a1 f1) fun f2 =>
  Φ (w64 (a0 + (w64 (a2 * a3)))) f2
def impl_field_product.g15 {A : Type} (z : A) : Nat → Int → Int → List Int → Int → Int → List (Int × Nat) → (List (Int × Nat) → A) → A
 | 0, _, _, _, _, _, _, _ => z
 | k + 1, x5, x6, x13, x14, x15, x16, K0 =>
  if x15 < x14 then
   inI z x15 (x13.length) fun j4 =>
   if (x13.getD j4 0) ≠ 0 then
    inI z x15 (x16.length) fun j5 =>
    impl_sum_add z k ((x16.getD j5 (0, 0)).1) ((x16.getD j5 (0, 0)).2) (w64 ((x13.getD j4 0) * x5)) x6 fun v6 v7 =>
    impl_field_product.g15 z k x5 x6 x13 x14 (w64 (x15 + 1)) (x16.set j5 (v6, v7)) K0
   else
    impl_field_product.g15 z k x5 x6 x13 x14 (w64 (x15 + 1)) x16 K0
  else
   K0 x16
def impl_field_product.g7 {A : Type} (z : A) : Nat → Int → List (List Int) → Int → Int → List Int → Int → Int → List (Int × Nat) → (List (Int × Nat) → A) → A
 | 0, _, _, _, _, _, _, _, _, _ => z
 | k + 1, x0, x2, x4, x5, x9, x10, x11, x12, K0 =>
  if x11 < x10 then
   inI z x11 (x9.length) fun j2 =>
   if x5 = 0 then
    impl_field_product.g7 z k x0 x2 x4 x5 x9 x10 (w64 (x11 + 1)) x12 K0
   else if (x9.getD j2 0) = 0 then
    impl_field_product.g7 z k x0 x2 x4 x5 x9 x10 (w64 (x11 + 1)) x12 K0
   else
    gd z (x0 ≠ 0) <|
    inI z ((w64 (x4 + x11)).tmod x0) (x2.length) fun j3 =>
    impl_field_product.g15 z k x5 (x9.getD j2 0) (x2.getD j3 []) ((x2.getD j3 []).length : Int) 0 x12 (fun v8 =>
     impl_field_product.g7 z k x0 x2 x4 x5 x9 x10 (w64 (x11 + 1)) v8 K0)
  else
   K0 x12
def impl_field_product.g1 {A : Type} (z : A) : Nat → Int → List (List Int) → List Int → List Int → Int → Int → List (Int × Nat) → (List (Int × Nat) → A) → A
 | 0, _, _, _, _, _, _, _, _ => z
 | k + 1, x0, x2, x3, x4, x5, x6, x7, K0 =>
  if x6 < x5 then
   inI z x6 (x4.length) fun j1 =>
   impl_field_product.g7 z k x0 x2 x6 (x4.getD j1 0) x3 (x3.length : Int) 0 x7 (fun v9 =>
    impl_field_product.g1 z k x0 x2 x3 x4 x5 (w64 (x6 + 1)) v9 K0)
  else
   K0 x7
def impl_field_product {A : Type} (z : A) : Nat → Int → Int → List (List Int) → List (Int × Nat) → List Int → List Int → (List (Int × Nat) → A) → A := step (fun _ _ _ _ _ _ _ => z) fun k a0 a1 a2 a3 a4 a5 Φ =>
  impl_field_product.g1 z k a0 a2 a5 a4 (a4.length : Int) 0 a3 Φ
def impl_sum_value {A : Type} (z : A) : Nat → Int → Nat → (Int → Bool → A) → A := step (fun _ _ _ => z) fun k a0 a1 Φ =>
  impl_within z k a0 (-1000000000) 1000000000 fun v1 =>
  bif v1 then
   bif (FloatKind.format .f64).order a1 4876203697187506176 == some .lt then
    Φ a0 ((FloatKind.format .f64).order a1 14099575734042281984 == some .gt)
   else
    Φ a0 false
  else
   Φ a0 false
def impl_values.g4 {A : Type} (z : A) : Nat → List (Int × Nat) → Bool → Int → Int → List Int → (Bool → List Int → A) → A
 | 0, _, _, _, _, _, _ => z
 | k + 1, x0, x1, x2, x3, x4, K0 =>
  if x3 < x2 then
   inI z x3 (x0.length) fun j1 =>
   impl_sum_value z k ((x0.getD j1 (0, 0)).1) ((x0.getD j1 (0, 0)).2) fun v2 v3 =>
   apI z ((x4.length) + 1) 8 <|
   bif x1 then
    impl_values.g4 z k x0 v3 x2 (w64 (x3 + 1)) (x4 ++ [v2]) K0
   else
    impl_values.g4 z k x0 false x2 (w64 (x3 + 1)) (x4 ++ [v2]) K0
  else
   K0 x1 x4
def impl_values {A : Type} (z : A) : Nat → List (Int × Nat) → (List Int → Bool → A) → A := step (fun _ _ => z) fun k a0 Φ =>
  impl_values.g4 z k a0 true (a0.length : Int) 0 [] (fun v4 v5 =>
   Φ v5 v4)
def impl_field_times {A : Type} (z : A) : Nat → Int → Int → List (List Int) → List Int → List Int → (List Int → Bool → A) → A := step (fun _ _ _ _ _ _ => z) fun k a0 a1 a2 a3 a4 Φ =>
  mkI z 16 a1 fun m1 =>
  impl_field_product z k a0 a1 a2 (List.replicate m1 ((0 : Int), (0 : Nat))) a3 a4 fun v2 =>
  impl_values z k v2 Φ
def impl_field_all.g4 {A : Type} (z : A) : Nat → Int → Int → List (List Int) → List (List Int) → Int → Int → List Int → (Bool → List Int → A) → (List Int → A) → A
 | 0, _, _, _, _, _, _, _, _, _ => z
 | k + 1, x0, x1, x2, x3, x4, x5, x6, K0, K1 =>
  if x5 < x4 then
   inI z x5 (x3.length) fun j2 =>
   impl_field_times z k x0 x1 x2 x6 (x3.getD j2 []) fun v3 v4 =>
   bif !v4 then
    K0 false []
   else
    impl_field_all.g4 z k x0 x1 x2 x3 x4 (w64 (x5 + 1)) v3 K0 K1
  else
   K1 x6
def impl_field_all {A : Type} (z : A) : Nat → Int → Int → List (List Int) → List (List Int) → (List Int → Bool → A) → A := step (fun _ _ _ _ _ => z) fun k a0 a1 a2 a3 Φ =>
  impl_field_whole z k a0 a1 a2 1 fun v1 =>
  impl_field_all.g4 z k a0 a1 a2 a3 (a3.length : Int) 0 v1 (fun v5 v6 =>
   Φ v6 v5) (fun v7 =>
   Φ v7 true)
def impl_field_norm {A : Type} (z : A) : Nat → Int → Int → List (List Int) → List Int → (Int → Bool → A) → A := step (fun _ _ _ _ _ => z) fun k a0 a1 a2 a3 Φ =>
  impl_field_images z k a0 a1 a2 a3 fun v1 =>
  impl_field_all z k a0 a1 a2 v1 fun v2 v3 =>
  bif !v3 then
   Φ 0 false
  else
   inI z 0 (v2.length) fun j4 =>
   Φ (v2.getD j4 0) true
def impl_NormOf {A : Type} (z : A) : Nat → Int → List Int → (Int → Int → A) → A := step (fun _ _ _ => z) fun k a0 a1 Φ =>
  impl_IsCyclo z k a0 a1 fun v1 =>
  bif !v1 then
   Φ 0 1
  else
   impl_fieldOf z k a0 fun v2 v3 v4 =>
   impl_field_norm z k v2 v3 v4 a1 fun v5 v6 =>
   bif !v6 then
    Φ 0 3
   else
    Φ v5 0
def impl_IsUnit {A : Type} (z : A) : Nat → Int → List Int → (Bool → Int → A) → A := step (fun _ _ _ => z) fun k a0 a1 Φ =>
  impl_NormOf z k a0 a1 fun v1 v2 =>
  impl_size z k v1 fun v3 =>
  Φ (decide (v3 = 1)) v2
def laws_FnBernoulli.g43 {A : Type} (z : A) : Nat → Int → Int → Int → Int → (Bool → A) → A
 | 0, _, _, _, _, _ => z
 | k + 1, x0, x1, x2, x3, K0 =>
  if x3 ≠ 0 then
   if x1 = 0 then
    K0 (decide (x2 = 0))
   else
    K0 false
  else if 1 ≤ x2 then
   if (x0.tmod 2) = 0 then
    K0 true
   else if x0 = 1 then
    K0 true
   else
    K0 (decide (x1 = 0))
  else
   K0 false
def laws_FnBernoulli.g33 {A : Type} (z : A) : Nat → Int → Int → Int → Int → Int → Int → Int → Int → (Bool → A) → A
 | 0, _, _, _, _, _, _, _, _, _ => z
 | k + 1, x0, x1, x2, x3, x4, x5, x6, x7, K0 =>
  if x7 = 0 then
   if x5 ≤ 20 then
    impl_BernoulliOf z k x5 fun v36 v37 v38 =>
    if v38 ≠ 0 then
     K0 false
    else
     gd z (x4 ≠ 0) <|
     if (v37.tmod x4) = 0 then
      K0 false
     else
      gd z (x4 ≠ 0) <|
      gd z (x4 ≠ 0) <|
      if ((w64 (((w64 ((w64 (x6 * v37)) - v36)).tmod x4) + x4)).tmod x4) ≠ 0 then
       K0 false
      else
       laws_FnBernoulli.g43 z k x0 x1 x2 x3 K0
   else
    laws_FnBernoulli.g43 z k x0 x1 x2 x3 K0
  else
   laws_FnBernoulli.g43 z k x0 x1 x2 x3 K0
def laws_FnBernoulli.g36 {A : Type} (z : A) : Nat → Int → Int → List Int → (Bool → A) → A → A
 | 0, _, _, _, _, _ => z
 | k + 1, x8, x9, x10, K0, K1 =>
  if x9 < (x10.length : Int) then
   inI z x9 (x10.length) fun j32 =>
   impl_BernoulliModulo z k x8 (x10.getD j32 0) fun v33 v34 =>
   if v34 ≠ 0 then
    K0 false
   else if v33 ≠ 0 then
    K0 false
   else
    laws_FnBernoulli.g36 z k x8 (w64 (x9 + 1)) x10 K0 K1
  else
   K1
def laws_FnBernoulli.g28 {A : Type} (z : A) : Nat → Int → Int → Int → Int → Int → Int → Int → Int → Int → Int → List Int → (Bool → A) → A
 | 0, _, _, _, _, _, _, _, _, _, _, _, _ => z
 | k + 1, x0, x1, x2, x3, x4, x5, x6, x7, x8, x9, x10, K0 =>
  if x9 = 0 then
   laws_FnBernoulli.g36 z k x8 0 x10 K0 (laws_FnBernoulli.g33 z k x0 x1 x2 x3 x4 x5 x6 x7 K0)
  else
   laws_FnBernoulli.g33 z k x0 x1 x2 x3 x4 x5 x6 x7 K0
def laws_FnBernoulli {A : Type} (z : A) : Nat → List Int → (Bool → A) → A := step (fun _ _ => z) fun k a0 Φ =>
  laws_big z k a0 fun v1 =>
  bif v1 then
   Φ true
  else
   spec_DrawBernoulliOf z k a0 fun v2 =>
   impl_BernoulliOf z k v2 fun v3 v4 v5 =>
   spec_BernoulliOf z k v2 fun v6 v7 v8 =>
   if v5 ≠ v8 then
    Φ false
   else if v3 ≠ v6 then
    Φ false
   else if v4 ≠ v7 then
    Φ false
   else
    spec_DrawBernoulliModulo z k a0 fun v9 v10 =>
    impl_BernoulliModulo z k v9 v10 fun v11 v12 =>
    spec_BernoulliModulo z k v9 v10 fun v13 v14 =>
    if v12 ≠ v14 then
     Φ false
    else if v11 ≠ v13 then
     Φ false
    else
     spec_DrawIrregularOf z k a0 fun v15 =>
     impl_IrregularOf z k v15 fun v16 v17 =>
     spec_IrregularOf z k v15 fun v18 v19 =>
     if v17 ≠ v19 then
      Φ false
     else
      laws_likeInts z k v16 v18 fun v20 =>
      bif !v20 then
       Φ false
      else
       spec_DrawCyclotomicUnit z k a0 fun v21 v22 =>
       impl_CyclotomicUnit z k v21 v22 fun v23 v24 v25 =>
       spec_CyclotomicUnit z k v21 v22 fun v26 v27 v28 =>
       if v25 ≠ v28 then
        Φ false
       else
        laws_cyclo9 z k v23 v24 v26 v27 fun v29 =>
        bif !v29 then
         Φ false
        else if v25 = 0 then
         impl_IsUnit z k v23 v24 fun v30 v31 =>
         if v31 = 0 then
          bif !v30 then
           Φ false
          else
           laws_FnBernoulli.g28 z k v2 v3 v4 v5 v9 v10 v11 v12 v15 v17 v16 Φ
         else
          laws_FnBernoulli.g28 z k v2 v3 v4 v5 v9 v10 v11 v12 v15 v17 v16 Φ
        else
         laws_FnBernoulli.g28 z k v2 v3 v4 v5 v9 v10 v11 v12 v15 v17 v16 Φ
end Go.Proofs.Ytefdcoeidpbcjaa.R
