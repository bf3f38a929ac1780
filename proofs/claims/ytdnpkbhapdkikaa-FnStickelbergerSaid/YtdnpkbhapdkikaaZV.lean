/- What the functions tell, printed by a program of this repo. -/
import Derived.Test.YtdnpkbhapdkikaaZR5
/- x -/
namespace Go.Proofs.Ytdnpkbhapdkikaa.R
set_option linter.unusedVariables false
def laws_big {A : Type} (z : A) : Nat → List Int → (Bool → A) → A := step (fun _ _ => z) fun k a0 Φ =>
  Φ (decide (4096 < (a0.length : Int)))
def spec_l01From.g4 {A : Type} (z : A) : Nat → List Int → Int → Int → (Int → A) → A
 | 0, _, _, _, _ => z
 | k + 1, x0, x1, x4, K0 =>
  if x1 < (x0.length : Int) then
   if x1 < 4096 then
    inI z x1 (x0.length) fun j1 =>
    spec_l01From.g4 z k x0 (w64 (x1 + 1)) (wu64 ((wu64 ((wu64 (x4 * 1099511628211)) + (wu64 (x0.getD j1 0)))) + 131)) K0
   else
    K0 x4
  else
   K0 x4
def spec_l01From {A : Type} (z : A) : Nat → List Int → (List Int → Int → Int → A) → A := step (fun _ _ => z) fun k a0 Φ =>
  spec_l01From.g4 z k a0 0 (wu64 (13131 + (wu64 (a0.length : Int)))) (fun v2 =>
   Φ a0 0 v2)
def spec_l01Next {A : Type} (z : A) : Nat → List Int → Int → Int → Int → (List Int → Int → Int → Int → A) → A := step (fun _ _ _ _ _ => z) fun k a0 a1 a2 a3 Φ =>
  if a3 < 1 then
   Φ a0 a1 a2 0
  else
   let y1 := wu64 (a2 * 6364136223846793005)
   let y2 := wu64 (y1 + 1442695040888963407)
   let y3 := y2.fdiv (2 ^ (31))
   let y4 := wu64 ((BitVec.ofInt 64 y3 &&& BitVec.ofInt 64 1073741823).toNat : Int)
   if a1 < (a0.length : Int) then
    inI z a1 (a0.length) fun j1 =>
    gd z (a3 ≠ 0) <|
    Φ a0 (w64 (a1 + 1)) y2 ((w64 ((w64 y4) + (w64 (a0.getD j1 0)))).tmod a3)
   else
    gd z (a3 ≠ 0) <|
    Φ a0 a1 y2 ((w64 y4).tmod a3)
def spec_l01Pick {A : Type} (z : A) : Nat → List Int → Int → Int → List Int → (List Int → Int → Int → Int → A) → A := step (fun _ _ _ _ _ => z) fun k a0 a1 a2 a3 Φ =>
  spec_l01Next z k a0 a1 a2 (a3.length : Int) fun v1 v2 v3 v4 =>
  inI z v4 (a3.length) fun j5 =>
  Φ v1 v2 v3 (a3.getD j5 0)
def spec_DrawReducedStickelberger {A : Type} (z : A) : Nat → List Int → (Int → Int → A) → A := step (fun _ _ => z) fun k a0 Φ =>
  spec_l01From z k a0 fun v1 v2 v3 =>
  spec_l01Next z k v1 v2 v3 43 fun v4 v5 v6 v7 =>
  spec_l01Pick z k v4 v5 v6 [5, 7, 8, 9, v7] fun v8 v9 v10 v11 =>
  spec_l01Next z k v8 v9 v10 (w64 (v11 + 2)) fun v12 v13 v14 v15 =>
  Φ v11 v15
def impl_within {A : Type} (z : A) : Nat → Int → Int → Int → (Bool → A) → A := step (fun _ _ _ _ => z) fun k a0 a1 a2 Φ =>
  if a1 ≤ a0 then
   Φ (decide (a0 ≤ a2))
  else
   Φ false
def impl_isModulus {A : Type} (z : A) : Nat → Int → (Bool → A) → A := step (fun _ _ => z) fun k a0 Φ =>
  impl_within z k a0 2 40 Φ
def impl_size {A : Type} (z : A) : Nat → Int → (Int → A) → A := step (fun _ _ => z) fun k a0 Φ =>
  Φ (maxI a0 (w64 (0 - a0)))
def impl_gcd.g3 {A : Type} (z : A) : Nat → Int → Int → (Int → A) → A
 | 0, _, _, _ => z
 | k + 1, x0, x1, K0 =>
  if 0 < x1 then
   gd z (x1 ≠ 0) <|
   impl_gcd.g3 z k x1 (x0.tmod x1) K0
  else
   K0 x0
def impl_gcd {A : Type} (z : A) : Nat → Int → Int → (Int → A) → A := step (fun _ _ _ => z) fun k a0 a1 Φ =>
  impl_size z k a0 fun v1 =>
  impl_size z k a1 fun v2 =>
  impl_gcd.g3 z k v1 v2 Φ
def impl_isPrimeTo {A : Type} (z : A) : Nat → Int → Int → (Bool → A) → A := step (fun _ _ _ => z) fun k a0 a1 Φ =>
  impl_within z k a0 1 a1 fun v1 =>
  bif v1 then
   impl_gcd z k a0 a1 fun v2 =>
   Φ (decide (v2 = 1))
  else
   Φ false
def impl_unitsOf.g4 {A : Type} (z : A) : Nat → Int → Int → List Int → (List Int → A) → A
 | 0, _, _, _, _ => z
 | k + 1, x0, x1, x2, K0 =>
  if x1 ≤ x0 then
   impl_isPrimeTo z k x1 x0 fun v1 =>
   bif v1 then
    apI z ((x2.length) + 1) 8 <|
    impl_unitsOf.g4 z k x0 (w64 (x1 + 1)) (x2 ++ [x1]) K0
   else
    impl_unitsOf.g4 z k x0 (w64 (x1 + 1)) x2 K0
  else
   K0 x2
def impl_unitsOf {A : Type} (z : A) : Nat → Int → (List Int → A) → A := step (fun _ _ => z) fun k a0 Φ =>
  impl_unitsOf.g4 z k a0 1 [] Φ
def impl_inverse.g3 {A : Type} (z : A) : Nat → Int → Int → Int → (Int → A) → A
 | 0, _, _, _, _ => z
 | k + 1, x0, x1, x2, K0 =>
  gd z (x0 ≠ 0) <|
  if ((w64 (x1 * x2)).tmod x0) ≠ 1 then
   impl_inverse.g3 z k x0 x1 (w64 (x2 + 1)) K0
  else
   K0 x2
def impl_inverse {A : Type} (z : A) : Nat → Int → Int → (Int → A) → A := step (fun _ _ _ => z) fun k a0 a1 Φ =>
  impl_inverse.g3 z k a0 a1 1 Φ
def impl_ReducedStickelberger_1 {A : Type} (z : A) : Nat → Int → Int → Int → (Int → A) → A := step (fun _ _ _ _ => z) fun k a0 a1 a2 Φ =>
  gd z (a2 ≠ 0) <|
  Φ (w64 ((w64 (a1 * a0)).tdiv a2))
def impl_turnedRing_c161.g4 {A : Type} (z : A) : Nat → Int → Int → Int → Int → Int → List Int → List Int → (List Int → A) → A
 | 0, _, _, _, _, _, _, _, _ => z
 | k + 1, x0, x1, x2, x3, x4, x7, x9, K0 =>
  if x4 < x3 then
   inI z x4 (x7.length) fun j2 =>
   impl_inverse z k x0 (x7.getD j2 0) fun v3 =>
   impl_ReducedStickelberger_1 z k v3 x1 x2 fun v4 =>
   apI z ((x9.length) + 1) 8 <|
   impl_turnedRing_c161.g4 z k x0 x1 x2 x3 (w64 (x4 + 1)) x7 (x9 ++ [v4]) K0
  else
   K0 x9
def impl_turnedRing_c161 {A : Type} (z : A) : Nat → Int → Int → Int → (Int → List Int → A) → A := step (fun _ _ _ _ => z) fun k a0 a1 a2 Φ =>
  impl_unitsOf z k a0 fun v1 =>
  impl_turnedRing_c161.g4 z k a0 a1 a2 (v1.length : Int) 0 v1 [] (fun v5 =>
   Φ a0 v5)
def impl_ReducedStickelberger {A : Type} (z : A) : Nat → Int → Int → (Int → List Int → Int → A) → A := step (fun _ _ _ => z) fun k a0 a1 Φ =>
  impl_isModulus z k a0 fun v1 =>
  bif !v1 then
   Φ 0 [] 2
  else
   impl_isPrimeTo z k a1 a0 fun v2 =>
   bif !v2 then
    Φ 0 [] 2
   else
    impl_turnedRing_c161 z k a0 a1 a0 fun v3 v4 =>
    Φ v3 v4 0
def spec_l01In {A : Type} (z : A) : Nat → Int → Int → Int → (Bool → A) → A := step (fun _ _ _ _ => z) fun k a0 a1 a2 Φ =>
  if a1 ≤ a0 then
   Φ (decide (a0 ≤ a2))
  else
   Φ false
def spec_l01Gcd.g2 {A : Type} (z : A) : Nat → Int → Int → (Int → A) → A
 | 0, _, _, _ => z
 | k + 1, x0, x1, K0 =>
  if x1 ≠ 0 then
   gd z (x1 ≠ 0) <|
   spec_l01Gcd.g2 z k x1 (x0.tmod x1) K0
  else
   K0 x0
def spec_l01Gcd {A : Type} (z : A) : Nat → Int → Int → (Int → A) → A := step (fun _ _ _ => z) fun k a0 a1 Φ =>
  spec_l01Gcd.g2 z k a0 a1 (fun v1 =>
   Φ (maxI v1 (w64 (0 - v1))))
def spec_l10Residues.g4 {A : Type} (z : A) : Nat → Int → Int → List Int → (List Int → A) → A
 | 0, _, _, _, _ => z
 | k + 1, x0, x1, x2, K0 =>
  if x1 ≤ x0 then
   spec_l01Gcd z k x1 x0 fun v1 =>
   if v1 = 1 then
    apI z ((x2.length) + 1) 8 <|
    spec_l10Residues.g4 z k x0 (w64 (x1 + 1)) (x2 ++ [x1]) K0
   else
    spec_l10Residues.g4 z k x0 (w64 (x1 + 1)) x2 K0
  else
   K0 x2
def spec_l10Residues {A : Type} (z : A) : Nat → Int → (List Int → A) → A := step (fun _ _ => z) fun k a0 Φ =>
  spec_l10Residues.g4 z k a0 1 [] Φ
def spec_l10Zero {A : Type} (z : A) : Nat → Int → (Int → List Int → A) → A := step (fun _ _ => z) fun k a0 Φ =>
  spec_l10Residues z k a0 fun v1 =>
  mkI z 8 (v1.length : Int) fun m2 =>
  Φ a0 (List.replicate m2 (0 : Int))
def spec_l10Inverse.g3 {A : Type} (z : A) : Nat → Int → Int → Int → (Int → A) → A → A
 | 0, _, _, _, _, _ => z
 | k + 1, x0, x1, x2, K0, K1 =>
  if x2 < x0 then
   gd z (x0 ≠ 0) <|
   if ((w64 (x1 * x2)).tmod x0) = 1 then
    K0 x2
   else
    spec_l10Inverse.g3 z k x0 x1 (w64 (x2 + 1)) K0 K1
  else
   K1
def spec_l10Inverse {A : Type} (z : A) : Nat → Int → Int → (Int → A) → A := step (fun _ _ _ => z) fun k a0 a1 Φ =>
  spec_l10Inverse.g3 z k a0 a1 1 Φ (Φ 1)
def spec_l10Place.g3 {A : Type} (z : A) : Nat → List Int → Int → Int → (Int → A) → A → A
 | 0, _, _, _, _, _ => z
 | k + 1, x0, x1, x2, K0, K1 =>
  if x2 < (x0.length : Int) then
   inI z x2 (x0.length) fun j1 =>
   if (x0.getD j1 0) = x1 then
    K0 x2
   else
    spec_l10Place.g3 z k x0 x1 (w64 (x2 + 1)) K0 K1
  else
   K1
def spec_l10Place {A : Type} (z : A) : Nat → List Int → Int → (Int → A) → A := step (fun _ _ _ => z) fun k a0 a1 Φ =>
  spec_l10Place.g3 z k a0 a1 0 Φ (Φ 0)
def spec_ReducedStickelberger.g7 {A : Type} (z : A) : Nat → Int → Int → Int → List Int → List Int → (List Int → A) → A
 | 0, _, _, _, _, _, _ => z
 | k + 1, x0, x1, x2, x5, x7, K0 =>
  if x2 < (x5.length : Int) then
   inI z x2 (x5.length) fun j7 =>
   spec_l10Inverse z k x0 (x5.getD j7 0) fun v8 =>
   spec_l10Place z k x5 v8 fun v9 =>
   inI z x2 (x5.length) fun j10 =>
   gd z (x0 ≠ 0) <|
   inI z v9 (x7.length) fun j11 =>
   spec_ReducedStickelberger.g7 z k x0 x1 (w64 (x2 + 1)) x5 (x7.set j11 (w64 ((w64 (x1 * (x5.getD j10 0))).tdiv x0))) K0
  else
   K0 x7
def spec_ReducedStickelberger {A : Type} (z : A) : Nat → Int → Int → (Int → List Int → Int → A) → A := step (fun _ _ _ => z) fun k a0 a1 Φ =>
  spec_l01In z k a0 2 40 fun v1 =>
  bif !v1 then
   Φ 0 [] 2
  else
   spec_l01In z k a1 1 a0 fun v2 =>
   bif !v2 then
    Φ 0 [] 2
   else
    spec_l01Gcd z k a1 a0 fun v3 =>
    if v3 ≠ 1 then
     Φ 0 [] 2
    else
     spec_l10Zero z k a0 fun v4 v5 =>
     spec_l10Residues z k a0 fun v6 =>
     spec_ReducedStickelberger.g7 z k a0 a1 0 v6 v5 (fun v12 =>
      Φ v4 v12 0)
def laws_likeInts.g6 {A : Type} (z : A) : Nat → List Int → List Int → Int → (Bool → A) → A → A
 | 0, _, _, _, _, _ => z
 | k + 1, x0, x1, x2, K0, K1 =>
  if x2 < (x0.length : Int) then
   inI z x2 (x0.length) fun j1 =>
   inI z x2 (x1.length) fun j2 =>
   if (x0.getD j1 0) ≠ (x1.getD j2 0) then
    K0 false
   else
    laws_likeInts.g6 z k x0 x1 (w64 (x2 + 1)) K0 K1
  else
   K1
def laws_likeInts {A : Type} (z : A) : Nat → List Int → List Int → (Bool → A) → A := step (fun _ _ _ => z) fun k a0 a1 Φ =>
  if (a0.length : Int) ≠ (a1.length : Int) then
   Φ false
  else
   laws_likeInts.g6 z k a0 a1 0 Φ (Φ true)
def laws_ring9 {A : Type} (z : A) : Nat → Int → List Int → Int → List Int → (Bool → A) → A := step (fun _ _ _ _ _ => z) fun k a0 a1 a2 a3 Φ =>
  if a0 = a2 then
   laws_likeInts z k a1 a3 Φ
  else
   Φ false
def spec_DrawStickelbergerOf {A : Type} (z : A) : Nat → List Int → (Int → A) → A := step (fun _ _ => z) fun k a0 Φ =>
  spec_l01From z k a0 fun v1 v2 v3 =>
  spec_l01Next z k v1 v2 v3 43 fun v4 v5 v6 v7 =>
  Φ v7
def impl_StickelbergerOf_1 {A : Type} (z : A) : Nat → Int → (Int → A) → A := step (fun _ _ => z) fun k a0 Φ =>
  Φ a0
def impl_turnedRing_c165.g4 {A : Type} (z : A) : Nat → Int → Int → Int → List Int → List Int → (List Int → A) → A
 | 0, _, _, _, _, _, _ => z
 | k + 1, x0, x1, x2, x5, x7, K0 =>
  if x2 < x1 then
   inI z x2 (x5.length) fun j2 =>
   impl_inverse z k x0 (x5.getD j2 0) fun v3 =>
   impl_StickelbergerOf_1 z k v3 fun v4 =>
   apI z ((x7.length) + 1) 8 <|
   impl_turnedRing_c165.g4 z k x0 x1 (w64 (x2 + 1)) x5 (x7 ++ [v4]) K0
  else
   K0 x7
def impl_turnedRing_c165 {A : Type} (z : A) : Nat → Int → (Int → List Int → A) → A := step (fun _ _ => z) fun k a0 Φ =>
  impl_unitsOf z k a0 fun v1 =>
  impl_turnedRing_c165.g4 z k a0 (v1.length : Int) 0 v1 [] (fun v5 =>
   Φ a0 v5)
def impl_StickelbergerOf {A : Type} (z : A) : Nat → Int → (Int → List Int → Int → A) → A := step (fun _ _ => z) fun k a0 Φ =>
  impl_isModulus z k a0 fun v1 =>
  bif !v1 then
   Φ 0 [] 2
  else
   impl_turnedRing_c165 z k a0 fun v2 v3 =>
   Φ v2 v3 0
def spec_StickelbergerOf.g7 {A : Type} (z : A) : Nat → Int → Int → List Int → List Int → (List Int → A) → A
 | 0, _, _, _, _, _ => z
 | k + 1, x0, x1, x4, x6, K0 =>
  if x1 < (x4.length : Int) then
   inI z x1 (x4.length) fun j5 =>
   spec_l10Inverse z k x0 (x4.getD j5 0) fun v6 =>
   spec_l10Place z k x4 v6 fun v7 =>
   inI z x1 (x4.length) fun j8 =>
   inI z v7 (x6.length) fun j9 =>
   spec_StickelbergerOf.g7 z k x0 (w64 (x1 + 1)) x4 (x6.set j9 (x4.getD j8 0)) K0
  else
   K0 x6
def spec_StickelbergerOf {A : Type} (z : A) : Nat → Int → (Int → List Int → Int → A) → A := step (fun _ _ => z) fun k a0 Φ =>
  spec_l01In z k a0 2 40 fun v1 =>
  bif !v1 then
   Φ 0 [] 2
  else
   spec_l10Zero z k a0 fun v2 v3 =>
   spec_l10Residues z k a0 fun v4 =>
   spec_StickelbergerOf.g7 z k a0 0 v4 v3 (fun v10 =>
    Φ v2 v10 0)
def spec_l01DrawOrder {A : Type} (z : A) : Nat → List Int → Int → Int → (List Int → Int → Int → Int → A) → A := step (fun _ _ _ _ => z) fun k a0 a1 a2 Φ =>
  spec_l01Next z k a0 a1 a2 16 fun v1 v2 v3 v4 =>
  spec_l01Pick z k v1 v2 v3 [1, 2, 3, 3, 4, 4, 5, 5, 6, 7, 8, 9, 10, 12, (w64 (1 + v4))] Φ
def spec_l01Own {A : Type} (z : A) : Nat → List Int → (List Int → A) → A := step (fun _ _ => z) fun k a0 Φ =>
  apI z (0 + (a0.length)) 8 <|
  Φ ([] ++ a0)
def spec_l01Quotient.g11 {A : Type} (z : A) : Nat → List Int → Int → Int → List Int → List Int → (List Int → A) → A
 | 0, _, _, _, _, _, _ => z
 | k + 1, x0, x1, x2, x3, x4, K0 =>
  if x2 < (x0.length : Int) then
   inI z (w64 (x1 + x2)) (x3.length) fun j5 =>
   inI z x1 (x4.length) fun j6 =>
   inI z x2 (x0.length) fun j7 =>
   inI z (w64 (x1 + x2)) (x3.length) fun j8 =>
   spec_l01Quotient.g11 z k x0 x1 (w64 (x2 + 1)) (x3.set j8 (w64 ((x3.getD j5 0) - (w64 ((x4.getD j6 0) * (x0.getD j7 0)))))) x4 K0
  else
   K0 x3
def spec_l01Quotient.g5 {A : Type} (z : A) : Nat → List Int → Int → List Int → List Int → (List Int → A) → A
 | 0, _, _, _, _, _ => z
 | k + 1, x0, x1, x2, x3, K0 =>
  if 0 ≤ x1 then
   inI z (w64 ((w64 (x1 + (x0.length : Int))) - 1)) (x2.length) fun j3 =>
   inI z x1 (x3.length) fun j4 =>
   spec_l01Quotient.g11 z k x0 x1 0 x2 (x3.set j4 (x2.getD j3 0)) (fun v9 =>
    spec_l01Quotient.g5 z k x0 (w64 (x1 - 1)) v9 (x3.set j4 (x2.getD j3 0)) K0)
  else
   K0 x3
def spec_l01Quotient {A : Type} (z : A) : Nat → List Int → List Int → (List Int → A) → A := step (fun _ _ _ => z) fun k a0 a1 Φ =>
  spec_l01Own z k a0 fun v1 =>
  let y1 := w64 ((a0.length : Int) - (a1.length : Int))
  mkI z 8 (w64 (y1 + 1)) fun m2 =>
  spec_l01Quotient.g5 z k a1 y1 v1 (List.replicate m2 (0 : Int)) Φ
mutual
def spec_l01Cyclotomic.g6 {A : Type} (z : A) : Nat → Int → Int → List Int → (List Int → A) → A
 | 0, _, _, _, _ => z
 | k + 1, x0, x1, x2, K0 =>
  if x1 < x0 then
   gd z (x1 ≠ 0) <|
   if (x0.tmod x1) = 0 then
    spec_l01Cyclotomic z k x1 fun v4 =>
    spec_l01Quotient z k x2 v4 fun v5 =>
    spec_l01Cyclotomic.g6 z k x0 (w64 (x1 + 1)) v5 K0
   else
    spec_l01Cyclotomic.g6 z k x0 (w64 (x1 + 1)) x2 K0
  else
   K0 x2
def spec_l01Cyclotomic {A : Type} (z : A) : Nat → Int → (List Int → A) → A
 | 0, _, _ => z
 | k + 1, a0, Φ =>
  mkI z 8 (w64 (a0 + 1)) fun m1 =>
  inI z 0 ((List.replicate m1 (0 : Int)).length) fun j2 =>
  inI z a0 (((List.replicate m1 (0 : Int)).set j2 (-1)).length) fun j3 =>
  spec_l01Cyclotomic.g6 z k a0 1 (((List.replicate m1 (0 : Int)).set j2 (-1)).set j3 1) Φ
end
def spec_l01Phi.g4 {A : Type} (z : A) : Nat → Int → Int → Int → (Int → A) → A
 | 0, _, _, _, _ => z
 | k + 1, x0, x1, x2, K0 =>
  if x2 ≤ x0 then
   spec_l01Gcd z k x2 x0 fun v1 =>
   if v1 = 1 then
    spec_l01Phi.g4 z k x0 (w64 (x1 + 1)) (w64 (x2 + 1)) K0
   else
    spec_l01Phi.g4 z k x0 x1 (w64 (x2 + 1)) K0
  else
   K0 x1
def spec_l01Phi {A : Type} (z : A) : Nat → Int → (Int → A) → A := step (fun _ _ => z) fun k a0 Φ =>
  spec_l01Phi.g4 z k a0 0 1 Φ
def spec_l01Zero {A : Type} (z : A) : Nat → Int → (Int → List Int → A) → A := step (fun _ _ => z) fun k a0 Φ =>
  spec_l01Phi z k a0 fun v1 =>
  mkI z 8 v1 fun m2 =>
  Φ a0 (List.replicate m2 (0 : Int))
def spec_l01Reduce.g11 {A : Type} (z : A) : Nat → Int → Int → Int → Int → List Int → List Int → (List Int → A) → A
 | 0, _, _, _, _, _, _, _ => z
 | k + 1, x1, x2, x3, x4, x6, x7, K0 =>
  if x4 ≤ x1 then
   inI z (w64 ((w64 (x2 - x1)) + x4)) (x7.length) fun j4 =>
   inI z x4 (x6.length) fun j5 =>
   inI z (w64 ((w64 (x2 - x1)) + x4)) (x7.length) fun j6 =>
   spec_l01Reduce.g11 z k x1 x2 x3 (w64 (x4 + 1)) x6 (x7.set j6 (w64 ((x7.getD j4 0) - (w64 (x3 * (x6.getD j5 0)))))) K0
  else
   K0 x7
def spec_l01Reduce.g5 {A : Type} (z : A) : Nat → Int → Int → List Int → List Int → (List Int → A) → A
 | 0, _, _, _, _, _ => z
 | k + 1, x1, x2, x4, x5, K0 =>
  if x1 ≤ x2 then
   inI z x2 (x5.length) fun j3 =>
   spec_l01Reduce.g11 z k x1 x2 (x5.getD j3 0) 0 x4 x5 (fun v7 =>
    spec_l01Reduce.g5 z k x1 (w64 (x2 - 1)) x4 v7 K0)
  else
   K0 x5
def spec_l01Reduce.g18 {A : Type} (z : A) : Nat → Int → Int → List Int → List Int → (List Int → A) → A
 | 0, _, _, _, _, _ => z
 | k + 1, x0, x1, x3, x6, K0 =>
  if x1 < x0 then
   if x1 < (x3.length : Int) then
    inI z x1 (x3.length) fun j11 =>
    inI z x1 (x6.length) fun j12 =>
    spec_l01Reduce.g18 z k x0 (w64 (x1 + 1)) x3 (x6.set j12 (x3.getD j11 0)) K0
   else
    K0 x6
  else
   K0 x6
def spec_l01Reduce {A : Type} (z : A) : Nat → Int → List Int → (Int → List Int → A) → A := step (fun _ _ _ => z) fun k a0 a1 Φ =>
  spec_l01Cyclotomic z k a0 fun v1 =>
  spec_l01Own z k a1 fun v2 =>
  let y1 := w64 ((v1.length : Int) - 1)
  spec_l01Reduce.g5 z k y1 (w64 ((v2.length : Int) - 1)) v1 v2 (fun v8 =>
   spec_l01Zero z k a0 fun v9 v10 =>
   spec_l01Reduce.g18 z k y1 0 v8 v10 (fun v13 =>
    Φ v9 v13))
def spec_l01Unit {A : Type} (z : A) : Nat → Int → Int → (Int → List Int → A) → A := step (fun _ _ _ => z) fun k a0 a1 Φ =>
  gd z (a0 ≠ 0) <|
  let y1 := w64 ((a1.tmod a0) + a0)
  gd z (a0 ≠ 0) <|
  let y2 := y1.tmod a0
  mkI z 8 (w64 (y2 + 1)) fun m1 =>
  inI z y2 ((List.replicate m1 (0 : Int)).length) fun j2 =>
  spec_l01Reduce z k a0 ((List.replicate m1 (0 : Int)).set j2 1) Φ
def spec_l01Plus.g4 {A : Type} (z : A) : Nat → Int → Int → List Int → List Int → (List Int → A) → A
 | 0, _, _, _, _, _ => z
 | k + 1, x0, x1, x3, x7, K0 =>
  if x1 < (x3.length : Int) then
   inI z x1 (x7.length) fun j2 =>
   inI z x1 (x3.length) fun j3 =>
   inI z x1 (x7.length) fun j4 =>
   spec_l01Plus.g4 z k x0 (w64 (x1 + 1)) x3 (x7.set j4 (w64 ((x7.getD j2 0) + (w64 (x0 * (x3.getD j3 0)))))) K0
  else
   K0 x7
def spec_l01Plus {A : Type} (z : A) : Nat → Int → List Int → Int → List Int → Int → (Int → List Int → A) → A := step (fun _ _ _ _ _ _ => z) fun k a0 a1 a2 a3 a4 Φ =>
  spec_l01Own z k a1 fun v1 =>
  spec_l01Plus.g4 z k a4 0 a3 v1 (fun v5 =>
   Φ a0 v5)
def spec_l01DrawPart {A : Type} (z : A) : Nat → List Int → Int → Int → Int → (List Int → Int → Int → Int → A) → A := step (fun _ _ _ _ _ => z) fun k a0 a1 a2 a3 Φ =>
  spec_l01Next z k a0 a1 a2 (w64 ((w64 (2 * a3)) + 1)) fun v1 v2 v3 v4 =>
  Φ v1 v2 v3 (w64 (v4 - a3))
def spec_l01DrawOf.g4 {A : Type} (z : A) : Nat → Int → Int → List Int → Int → Int → List Int → (List Int → Int → Int → List Int → A) → A
 | 0, _, _, _, _, _, _, _ => z
 | k + 1, x0, x1, x2, x3, x4, x8, K0 =>
  if x1 < (x8.length : Int) then
   spec_l01DrawPart z k x2 x3 x4 x0 fun v3 v4 v5 v6 =>
   spec_l01Pick z k v3 v4 v5 [0, 1, 1] fun v7 v8 v9 v10 =>
   inI z x1 (x8.length) fun j11 =>
   spec_l01DrawOf.g4 z k x0 (w64 (x1 + 1)) v7 v8 v9 (x8.set j11 (w64 (v6 * v10))) K0
  else
   K0 x2 x3 x4 x8
def spec_l01DrawOf {A : Type} (z : A) : Nat → List Int → Int → Int → Int → Int → (List Int → Int → Int → Int → List Int → A) → A := step (fun _ _ _ _ _ _ => z) fun k a0 a1 a2 a3 a4 Φ =>
  spec_l01Zero z k a3 fun v1 v2 =>
  spec_l01DrawOf.g4 z k a4 0 a0 a1 a2 v2 (fun v12 v13 v14 v15 =>
   Φ v12 v13 v14 v1 v15)
def spec_l01Draw {A : Type} (z : A) : Nat → List Int → Int → Int → (List Int → Int → Int → Int → List Int → A) → A := step (fun _ _ _ _ => z) fun k a0 a1 a2 Φ =>
  spec_l01DrawOrder z k a0 a1 a2 fun v1 v2 v3 v4 =>
  spec_l01Pick z k v1 v2 v3 [1, 2, 3, 9, 1000, 400000000] fun v5 v6 v7 v8 =>
  spec_l01DrawOf z k v5 v6 v7 v4 v8 Φ
def spec_l01Bad {A : Type} (z : A) : Nat → List Int → Int → Int → Int → List Int → (List Int → Int → Int → Int → List Int → A) → A := step (fun _ _ _ _ _ _ => z) fun k a0 a1 a2 a3 a4 Φ =>
  spec_l01Next z k a0 a1 a2 50 fun v1 v2 v3 v4 =>
  if v4 = 0 then
   spec_l01Pick z k v1 v2 v3 [0, 17, (-1)] fun v5 v6 v7 v8 =>
   Φ v5 v6 v7 v8 a4
  else if v4 = 1 then
   spec_l01Own z k a4 fun v9 =>
   apI z ((v9.length) + 1) 8 <|
   Φ v1 v2 v3 a3 (v9 ++ [0])
  else if v4 = 2 then
   spec_l01Own z k a4 fun v10 =>
   spec_l01Pick z k v1 v2 v3 [1000000001, (-1000000001), 1099511627776] fun v11 v12 v13 v14 =>
   inI z 0 (v10.length) fun j15 =>
   Φ v11 v12 v13 a3 (v10.set j15 v14)
  else
   Φ v1 v2 v3 a3 a4
def spec_l01Spoil {A : Type} (z : A) : Nat → List Int → Int → Int → (List Int → Int → Int → Int → List Int → A) → A := step (fun _ _ _ _ => z) fun k a0 a1 a2 Φ =>
  spec_l01Draw z k a0 a1 a2 fun v1 v2 v3 v4 v5 =>
  spec_l01Bad z k v1 v2 v3 v4 v5 Φ
def spec_l02Draw {A : Type} (z : A) : Nat → List Int → Int → Int → (List Int → Int → Int → Int → List Int → A) → A := step (fun _ _ _ _ => z) fun k a0 a1 a2 Φ =>
  spec_l01Next z k a0 a1 a2 8 fun v1 v2 v3 v4 =>
  if v4 = 0 then
   spec_l01Spoil z k v1 v2 v3 Φ
  else
   spec_l01DrawOrder z k v1 v2 v3 fun v10 v11 v12 v13 =>
   spec_l01Pick z k v10 v11 v12 [1, 1, 2, 3] fun v14 v15 v16 v17 =>
   spec_l01DrawOf z k v14 v15 v16 v13 v17 Φ
def spec_l02Unit.g9 {A : Type} (z : A) : Nat → Int → Int → Int → Int → List Int → (Int → List Int → A) → A
 | 0, _, _, _, _, _, _ => z
 | k + 1, x0, x1, x2, x7, x9, K0 =>
  if x2 ≤ x1 then
   spec_l01Unit z k x0 x2 fun v21 v22 =>
   spec_l01Plus z k x7 x9 v21 v22 1 fun v23 v24 =>
   spec_l02Unit.g9 z k x0 x1 (w64 (x2 + 1)) v23 v24 K0
  else
   K0 x7 x9
def spec_l02Unit {A : Type} (z : A) : Nat → List Int → Int → Int → (List Int → Int → Int → Int → List Int → A) → A := step (fun _ _ _ _ => z) fun k a0 a1 a2 Φ =>
  spec_l01DrawOrder z k a0 a1 a2 fun v1 v2 v3 v4 =>
  spec_l01Next z k v1 v2 v3 40 fun v5 v6 v7 v8 =>
  spec_l01Unit z k v4 v8 fun v9 v10 =>
  spec_l01Next z k v5 v6 v7 5 fun v11 v12 v13 v14 =>
  spec_l01Next z k v11 v12 v13 2 fun v15 v16 v17 v18 =>
  if v18 = 0 then
   spec_l01Zero z k v4 fun v19 v20 =>
   spec_l02Unit.g9 z k v4 v14 0 v19 v20 (fun v25 v26 =>
    Φ v15 v16 v17 v25 v26)
  else
   spec_l01Next z k v15 v16 v17 4 fun v27 v28 v29 v30 =>
   if v30 = 0 then
    spec_l02Draw z k v27 v28 v29 Φ
   else
    Φ v27 v28 v29 v9 v10
def spec_l10DrawOf.g4 {A : Type} (z : A) : Nat → Int → Int → List Int → Int → Int → List Int → (List Int → Int → Int → List Int → A) → A
 | 0, _, _, _, _, _, _, _ => z
 | k + 1, x0, x1, x2, x3, x4, x8, K0 =>
  if x1 < (x8.length : Int) then
   spec_l01Next z k x2 x3 x4 (w64 ((w64 (2 * x0)) + 1)) fun v7 v8 v9 v10 =>
   inI z x1 (x8.length) fun j11 =>
   spec_l10DrawOf.g4 z k x0 (w64 (x1 + 1)) v7 v8 v9 (x8.set j11 (w64 (v10 - x0))) K0
  else
   K0 x2 x3 x4 x8
def spec_l10DrawOf {A : Type} (z : A) : Nat → List Int → Int → Int → Int → (List Int → Int → Int → Int → List Int → A) → A := step (fun _ _ _ _ _ => z) fun k a0 a1 a2 a3 Φ =>
  spec_l10Zero z k a3 fun v1 v2 =>
  spec_l01Pick z k a0 a1 a2 [1, 2, 9, 1000, 1000000] fun v3 v4 v5 v6 =>
  spec_l10DrawOf.g4 z k v6 0 v3 v4 v5 v2 (fun v12 v13 v14 v15 =>
   Φ v12 v13 v14 v1 v15)
def spec_l10Draw {A : Type} (z : A) : Nat → List Int → Int → Int → (List Int → Int → Int → Int → List Int → A) → A := step (fun _ _ _ _ => z) fun k a0 a1 a2 Φ =>
  spec_l01Next z k a0 a1 a2 39 fun v1 v2 v3 v4 =>
  spec_l01Pick z k v1 v2 v3 [2, 3, 4, 5, 5, 6, 7, 8, 9, 12, 15, (w64 (2 + v4))] fun v5 v6 v7 v8 =>
  spec_l10DrawOf z k v5 v6 v7 v8 fun v9 v10 v11 v12 v13 =>
  spec_l01Next z k v9 v10 v11 40 fun v14 v15 v16 v17 =>
  if v17 = 0 then
   spec_l01Pick z k v14 v15 v16 [1, 41, (w64 (v12 + 1))] fun v18 v19 v20 v21 =>
   Φ v18 v19 v20 v21 v13
  else if v17 = 1 then
   apI z ((v13.length) + 1) 8 <|
   Φ v14 v15 v16 v12 (v13 ++ [0])
  else if v17 = 2 then
   spec_l01Pick z k v14 v15 v16 [1000000000, 1000000001] fun v22 v23 v24 v25 =>
   inI z 0 (v13.length) fun j26 =>
   Φ v22 v23 v24 v12 (v13.set j26 v25)
  else
   Φ v14 v15 v16 v12 v13
def spec_DrawActOnCyclo.g6 {A : Type} (z : A) : Nat → Int → List Int → Int → Int → List Int → (List Int → Int → Int → List Int → A) → A
 | 0, _, _, _, _, _, _ => z
 | k + 1, x1, x4, x5, x6, x12, K0 =>
  if x1 < (x12.length : Int) then
   spec_l01Pick z k x4 x5 x6 [0, 0, 1, 2] fun v15 v16 v17 v18 =>
   inI z x1 (x12.length) fun j19 =>
   spec_DrawActOnCyclo.g6 z k (w64 (x1 + 1)) v15 v16 v17 (x12.set j19 v18) K0
  else
   K0 x4 x5 x6 x12
mutual
def spec_DrawActOnCyclo.g10 {A : Type} (z : A) : Nat → List Int → Int → Int → Int → Int → List Int → List Int → (Int → Int → List Int → List Int → A) → (Int → Int → List Int → List Int → A) → A
 | 0, _, _, _, _, _, _, _, _, _ => z
 | k + 1, x2, x3, x4, x5, x6, x9, x10, K0, K1 =>
  spec_l01Next z k x2 x3 x4 24 fun v37 v38 v39 v40 =>
  if v40 = 0 then
   spec_l01Pick z k v37 v38 v39 [(-1), 60, 61] fun v41 v42 v43 v44 =>
   inI z 0 (x9.length) fun j45 =>
   K0 x5 x6 (x9.set j45 v44) x10
  else if v40 = 1 then
   spec_l10Draw z k v37 v38 v39 fun v46 v47 v48 v49 v50 =>
   K0 v49 x6 v50 x10
  else
   K0 x5 x6 x9 x10
def spec_DrawActOnCyclo.g10_1 {A : Type} (z : A) : Nat → List Int → Int → Int → Int → Int → List Int → List Int → (Int → Int → List Int → List Int → A) → (Int → Int → List Int → List Int → A) → A
 | 0, _, _, _, _, _, _, _, _, _ => z
 | k + 1, x2, x3, x4, x5, x6, x7, x10, K0, K1 =>
  spec_l01Next z k x2 x3 x4 24 fun v59 v60 v61 v62 =>
  if v62 = 0 then
   spec_l01Pick z k v59 v60 v61 [(-1), 60, 61] fun v63 v64 v65 v66 =>
   inI z 0 (x10.length) fun j67 =>
   K1 x5 x6 x7 (x10.set j67 v66)
  else if v62 = 1 then
   spec_l10Draw z k v59 v60 v61 fun v68 v69 v70 v71 v72 =>
   K1 v71 x6 x7 v72
  else
   K1 x5 x6 x7 x10
end
def spec_DrawActOnCyclo {A : Type} (z : A) : Nat → List Int → (Int → List Int → Int → List Int → A) → A := step (fun _ _ => z) fun k a0 Φ =>
  spec_l01From z k a0 fun v1 v2 v3 =>
  spec_l01Pick z k v1 v2 v3 [2, 3, 4, 5, 5, 7, 8, 9] fun v4 v5 v6 v7 =>
  spec_l10Zero z k v7 fun v8 v9 =>
  spec_l02Unit z k v4 v5 v6 fun v10 v11 v12 v13 v14 =>
  spec_DrawActOnCyclo.g6 z k 0 v10 v11 v12 v9 (fun v20 v21 v22 v23 =>
   spec_l01Next z k v20 v21 v22 4 fun v24 v25 v26 v27 =>
   if 0 < v27 then
    spec_l01Pick z k v24 v25 v26 [1, 1, 2] fun v28 v29 v30 v31 =>
    spec_l01DrawOf z k v28 v29 v30 v7 v31 fun v32 v33 v34 v35 v36 =>
    spec_DrawActOnCyclo.g10 z k v32 v33 v34 v8 v35 v23 v36 (fun v51 v52 v53 v54 =>
     Φ v51 v53 v52 v54) (fun v55 v56 v57 v58 =>
     Φ v55 v58 v56 v57)
   else
    spec_DrawActOnCyclo.g10_1 z k v24 v25 v26 v8 v13 v14 v23 (fun v73 v74 v75 v76 =>
     Φ v73 v75 v74 v76) (fun v77 v78 v79 v80 =>
     Φ v77 v80 v78 v79))
def impl_totient.g4 {A : Type} (z : A) : Nat → Int → Int → Int → (Int → A) → A
 | 0, _, _, _, _ => z
 | k + 1, x0, x1, x2, K0 =>
  if x2 ≤ x0 then
   impl_gcd z k x2 x0 fun v1 =>
   if v1 = 1 then
    impl_totient.g4 z k x0 (w64 (x1 + 1)) (w64 (x2 + 1)) K0
   else
    impl_totient.g4 z k x0 x1 (w64 (x2 + 1)) K0
  else
   K0 x1
def impl_totient {A : Type} (z : A) : Nat → Int → (Int → A) → A := step (fun _ _ => z) fun k a0 Φ =>
  impl_totient.g4 z k a0 0 1 Φ
def impl_areSmall_1 {A : Type} (z : A) : Nat → Int → Int → (Bool → A) → A := step (fun _ _ _ => z) fun k a0 a1 Φ =>
  impl_within z k a0 (w64 (0 - a1)) a1 fun v1 =>
  Φ (!v1)
def slices_IndexFunc_Sint64_int64_c191.g3 {A : Type} (z : A) : Nat → List Int → Int → Int → Int → (Int → A) → A → A
 | 0, _, _, _, _, _, _ => z
 | k + 1, x0, x1, x2, x3, K0, K1 =>
  if x3 < x2 then
   inI z x3 (x0.length) fun j1 =>
   impl_areSmall_1 z k (x0.getD j1 0) x1 fun v2 =>
   bif v2 then
    K0 x3
   else
    slices_IndexFunc_Sint64_int64_c191.g3 z k x0 x1 x2 (w64 (x3 + 1)) K0 K1
  else
   K1
def slices_IndexFunc_Sint64_int64_c191 {A : Type} (z : A) : Nat → List Int → Int → (Int → A) → A := step (fun _ _ _ => z) fun k a0 a1 Φ =>
  slices_IndexFunc_Sint64_int64_c191.g3 z k a0 a1 (a0.length : Int) 0 Φ (Φ (-1))
def slices_ContainsFunc_Sint64_int64_c191 {A : Type} (z : A) : Nat → List Int → Int → (Bool → A) → A := step (fun _ _ _ => z) fun k a0 a1 Φ =>
  slices_IndexFunc_Sint64_int64_c191 z k a0 a1 fun v1 =>
  Φ (decide (0 ≤ v1))
def impl_areSmall {A : Type} (z : A) : Nat → List Int → Int → (Bool → A) → A := step (fun _ _ _ => z) fun k a0 a1 Φ =>
  slices_ContainsFunc_Sint64_int64_c191 z k a0 a1 fun v1 =>
  Φ (!v1)
def impl_IsRing {A : Type} (z : A) : Nat → Int → List Int → (Bool → A) → A := step (fun _ _ _ => z) fun k a0 a1 Φ =>
  impl_isModulus z k a0 fun v1 =>
  bif v1 then
   impl_totient z k a0 fun v2 =>
   if (a1.length : Int) = v2 then
    impl_areSmall z k a1 1000000000 Φ
   else
    Φ false
  else
   Φ false
def impl_isOrder {A : Type} (z : A) : Nat → Int → (Bool → A) → A := step (fun _ _ => z) fun k a0 Φ =>
  impl_within z k a0 1 16 Φ
def impl_IsCyclo {A : Type} (z : A) : Nat → Int → List Int → (Bool → A) → A := step (fun _ _ _ => z) fun k a0 a1 Φ =>
  impl_isOrder z k a0 fun v1 =>
  bif v1 then
   impl_totient z k a0 fun v2 =>
   if (a1.length : Int) = v2 then
    impl_areSmall z k a1 1000000000 Φ
   else
    Φ false
  else
   Φ false
def slices_Min_Sint64_int64.g6 {A : Type} (z : A) : Nat → List Int → Int → Int → (Int → A) → A
 | 0, _, _, _, _ => z
 | k + 1, x0, x1, x2, K0 =>
  if x2 < (x0.length : Int) then
   inI z x2 (x0.length) fun j2 =>
   slices_Min_Sint64_int64.g6 z k x0 (minI x1 (x0.getD j2 0)) (w64 (x2 + 1)) K0
  else
   K0 x1
def slices_Min_Sint64_int64.g1 {A : Type} (z : A) : Nat → List Int → (Int → A) → A
 | 0, _, _ => z
 | k + 1, x0, K0 =>
  inI z 0 (x0.length) fun j1 =>
  slices_Min_Sint64_int64.g6 z k x0 (x0.getD j1 0) 1 K0
def slices_Min_Sint64_int64 {A : Type} (z : A) : Nat → List Int → (Int → A) → A := step (fun _ _ => z) fun k a0 Φ =>
  if (a0.length : Int) < 1 then
   z
  else
   slices_Min_Sint64_int64.g1 z k a0 Φ
def impl_total.g4 {A : Type} (z : A) : Nat → Int → List Int → Int → Int → (Int → A) → A
 | 0, _, _, _, _, _ => z
 | k + 1, x0, x1, x2, x3, K0 =>
  if x3 < x2 then
   inI z x3 (x1.length) fun j1 =>
   impl_total.g4 z k (w64 (x0 + (x1.getD j1 0))) x1 x2 (w64 (x3 + 1)) K0
  else
   K0 x0
def impl_total {A : Type} (z : A) : Nat → List Int → (Int → A) → A := step (fun _ _ => z) fun k a0 Φ =>
  impl_total.g4 z k 0 a0 (a0.length : Int) 0 Φ
def slices_Clone_Sint64_int64 {A : Type} (z : A) : Nat → List Int → (List Int → A) → A := step (fun _ _ => z) fun _ a0 Φ =>
  apI z a0.length 8 <| Φ a0
def impl_quotient.g11 {A : Type} (z : A) : Nat → Int → List Int → Int → Int → List Int → List Int → (List Int → A) → A
 | 0, _, _, _, _, _, _, _ => z
 | k + 1, x1, x2, x3, x4, x5, x6, K0 =>
  if x4 < x3 then
   inI z x4 (x2.length) fun j5 =>
   inI z (w64 (x1 + x4)) (x5.length) fun j6 =>
   inI z x1 (x6.length) fun j7 =>
   inI z (w64 (x1 + x4)) (x5.length) fun j8 =>
   impl_quotient.g11 z k x1 x2 x3 (w64 (x4 + 1)) (x5.set j8 (w64 ((x5.getD j6 0) - (w64 ((x6.getD j7 0) * (x2.getD j5 0)))))) x6 K0
  else
   K0 x5
def impl_quotient.g5 {A : Type} (z : A) : Nat → List Int → Int → List Int → List Int → (List Int → A) → A
 | 0, _, _, _, _, _ => z
 | k + 1, x0, x1, x2, x3, K0 =>
  if 0 ≤ x1 then
   inI z (w64 ((w64 (x1 + (x0.length : Int))) - 1)) (x2.length) fun j3 =>
   inI z x1 (x3.length) fun j4 =>
   impl_quotient.g11 z k x1 x0 (x0.length : Int) 0 x2 (x3.set j4 (x2.getD j3 0)) (fun v9 =>
    impl_quotient.g5 z k x0 (w64 (x1 - 1)) v9 (x3.set j4 (x2.getD j3 0)) K0)
  else
   K0 x3
def impl_quotient {A : Type} (z : A) : Nat → List Int → List Int → (List Int → A) → A := step (fun _ _ _ => z) fun k a0 a1 Φ =>
  slices_Clone_Sint64_int64 z k a0 fun v1 =>
  mkI z 8 (w64 ((w64 ((v1.length : Int) - (a1.length : Int))) + 1)) fun m2 =>
  impl_quotient.g5 z k a1 (w64 (((List.replicate m2 (0 : Int)).length : Int) - 1)) v1 (List.replicate m2 (0 : Int)) Φ
mutual
def impl_cyclotomic.g5 {A : Type} (z : A) : Nat → Int → Int → List Int → (List Int → A) → A
 | 0, _, _, _, _ => z
 | k + 1, x0, x1, x2, K0 =>
  if x1 < x0 then
   gd z (x1 ≠ 0) <|
   if (x0.tmod x1) = 0 then
    impl_cyclotomic z k x1 fun v4 =>
    impl_quotient z k x2 v4 fun v5 =>
    impl_cyclotomic.g5 z k x0 (w64 (x1 + 1)) v5 K0
   else
    impl_cyclotomic.g5 z k x0 (w64 (x1 + 1)) x2 K0
  else
   K0 x2
def impl_cyclotomic {A : Type} (z : A) : Nat → Int → (List Int → A) → A
 | 0, _, _ => z
 | k + 1, a0, Φ =>
  mkI z 8 (w64 (a0 + 1)) fun m1 =>
  inI z 0 ((List.replicate m1 (0 : Int)).length) fun j2 =>
  inI z a0 (((List.replicate m1 (0 : Int)).set j2 (-1)).length) fun j3 =>
  impl_cyclotomic.g5 z k a0 1 (((List.replicate m1 (0 : Int)).set j2 (-1)).set j3 1) Φ
end
def impl_powers.g20 {A : Type} (z : A) : Nat → Int → Int → Int → List Int → List Int → (List Int → A) → A
 | 0, _, _, _, _, _, _ => z
 | k + 1, x1, x4, x5, x6, x7, K0 =>
  if x5 < x4 then
   inI z x5 (x7.length) fun j9 =>
   inI z x5 (x6.length) fun j10 =>
   inI z x5 (x7.length) fun j11 =>
   impl_powers.g20 z k x1 x4 (w64 (x5 + 1)) x6 (x7.set j11 (w64 ((x7.getD j9 0) - (w64 (x1 * (x6.getD j10 0)))))) K0
  else
   K0 x7
def impl_powers.g11 {A : Type} (z : A) : Nat → Int → Int → Int → List Int → List Int → List (List Int) → (List (List Int) → A) → A
 | 0, _, _, _, _, _, _, _ => z
 | k + 1, x0, x1, x2, x3, x4, x5, K0 =>
  if x2 < x1 then
   slices_Clone_Sint64_int64 z k x4 fun v4 =>
   apI z ((x5.length) + 1) 24 <|
   inI z (w64 (x0 - 1)) (x4.length) fun j5 =>
   toI z 1 (x4.length) fun j6 =>
   toI z (w64 (x0 - 1)) (x4.length) fun j7 =>
   inI z 0 ((x4.take j6 ++ ((x4.drop 0).take j7).take ((x4.length) - j6) ++ x4.drop (j6 + (min (((x4.drop 0).take j7).length) ((x4.length) - j6)))).length) fun j8 =>
   impl_powers.g20 z k (x4.getD j5 0) (((x4.take j6 ++ ((x4.drop 0).take j7).take ((x4.length) - j6) ++ x4.drop (j6 + (min (((x4.drop 0).take j7).length) ((x4.length) - j6)))).set j8 0).length : Int) 0 x3 ((x4.take j6 ++ ((x4.drop 0).take j7).take ((x4.length) - j6) ++ x4.drop (j6 + (min (((x4.drop 0).take j7).length) ((x4.length) - j6)))).set j8 0) (fun v12 =>
    impl_powers.g11 z k x0 x1 (w64 (x2 + 1)) x3 v12 (x5 ++ [v4]) K0)
  else
   K0 x5
def impl_powers {A : Type} (z : A) : Nat → Int → (List (List Int) → A) → A := step (fun _ _ => z) fun k a0 Φ =>
  impl_cyclotomic z k a0 fun v1 =>
  let y1 := w64 ((v1.length : Int) - 1)
  mkI z 8 y1 fun m2 =>
  inI z 0 ((List.replicate m2 (0 : Int)).length) fun j3 =>
  if a0 = 1 then
   Φ [((List.replicate m2 (0 : Int)).set j3 1)]
  else
   impl_powers.g11 z k y1 a0 0 v1 ((List.replicate m2 (0 : Int)).set j3 1) [] Φ
def impl_fieldOf {A : Type} (z : A) : Nat → Int → (Int → Int → List (List Int) → A) → A := step (fun _ _ => z) fun k a0 Φ =>
  impl_powers z k a0 fun v1 =>
  inI z 0 (v1.length) fun j2 =>
  Φ a0 ((v1.getD j2 []).length : Int) v1
def impl_field_image_1 {A : Type} (z : A) : Nat → Int → Int → (Int → A) → A := step (fun _ _ _ => z) fun k a0 a1 Φ =>
  Φ (w64 (a1 * a0))
def impl_around {A : Type} (z : A) : Nat → Int → Int → (Int → A) → A := step (fun _ _ _ => z) fun k a0 a1 Φ =>
  gd z (a1 ≠ 0) <|
  gd z (a1 ≠ 0) <|
  Φ ((w64 ((a0.tmod a1) + a1)).tmod a1)
def impl_field_with_c178.g10 {A : Type} (z : A) : Nat → Int → List Int → Int → Int → List Int → (List Int → A) → A
 | 0, _, _, _, _, _, _ => z
 | k + 1, x4, x8, x9, x10, x11, K0 =>
  if x10 < x9 then
   inI z x10 (x8.length) fun j6 =>
   inI z x10 (x11.length) fun j7 =>
   inI z x10 (x11.length) fun j8 =>
   impl_field_with_c178.g10 z k x4 x8 x9 (w64 (x10 + 1)) (x11.set j8 (w64 ((x11.getD j7 0) + (w64 (x4 * (x8.getD j6 0)))))) K0
  else
   K0 x11
def impl_field_with_c178.g4 {A : Type} (z : A) : Nat → Int → List (List Int) → Int → List Int → Int → Int → List Int → (List Int → A) → A
 | 0, _, _, _, _, _, _, _, _ => z
 | k + 1, x0, x2, x3, x4, x5, x6, x7, K0 =>
  if x6 < x5 then
   inI z x6 (x4.length) fun j2 =>
   impl_field_image_1 z k x6 x3 fun v3 =>
   impl_around z k v3 x0 fun v4 =>
   inI z v4 (x2.length) fun j5 =>
   impl_field_with_c178.g10 z k (x4.getD j2 0) (x2.getD j5 []) ((x2.getD j5 []).length : Int) 0 x7 (fun v9 =>
    impl_field_with_c178.g4 z k x0 x2 x3 x4 x5 (w64 (x6 + 1)) v9 K0)
  else
   K0 x7
def impl_field_with_c178 {A : Type} (z : A) : Nat → Int → Int → List (List Int) → List Int → Int → (List Int → A) → A := step (fun _ _ _ _ _ _ => z) fun k a0 a1 a2 a3 a4 Φ =>
  mkI z 8 a1 fun m1 =>
  impl_field_with_c178.g4 z k a0 a2 a4 a3 (a3.length : Int) 0 (List.replicate m1 (0 : Int)) Φ
def impl_field_image {A : Type} (z : A) : Nat → Int → Int → List (List Int) → List Int → Int → (List Int → A) → A := step (fun _ _ _ _ _ _ => z) fun k a0 a1 a2 a3 a4 Φ =>
  impl_field_with_c178 z k a0 a1 a2 a3 a4 Φ
def impl_field_whole {A : Type} (z : A) : Nat → Int → Int → List (List Int) → Int → (List Int → A) → A := step (fun _ _ _ _ _ => z) fun k a0 a1 a2 a3 Φ =>
  mkI z 8 a1 fun m1 =>
  inI z 0 ((List.replicate m1 (0 : Int)).length) fun j2 =>
  Φ ((List.replicate m1 (0 : Int)).set j2 a3)
def impl_sum_add {A : Type} (z : A) : Nat → Int → Nat → Int → Int → (Int → Nat → A) → A := step (fun _ _ _ _ _ => z) fun k a0 a1 a2 a3 Φ =>
  optN z ((FloatKind.format .f64).mul (FloatKind.nearest .f64 a2) (FloatKind.nearest .f64 a3)) fun f1 =>
  optN z ((FloatKind.format .f64).add a1 f1) fun f2 =>
  Φ (w64 (a0 + (w64 (a2 * a3)))) f2
def impl_field_product.g15 {A : Type} (z : A) : Nat → Int → Int → List Int → Int → Int → List (Int × Nat) → (List (Int × Nat) → A) → A
 | 0, _, _, _, _, _, _, _ => z
 | k + 1, x5, x6, x13, x14, x15, x16, K0 =>
  if x15 < x14 then
   inI z x15 (x13.length) fun j4 =>
   if (x13.getD j4 0) ≠ 0 then
    inI z x15 (x16.length) fun j5 =>
    impl_sum_add z k ((x16.getD j5 (0, 0)).1) ((x16.getD j5 (0, 0)).2) (w64 ((x13.getD j4 0) * x5)) x6 fun v6 v7 =>
    impl_field_product.g15 z k x5 x6 x13 x14 (w64 (x15 + 1)) (x16.set j5 (v6, v7)) K0
   else
    impl_field_product.g15 z k x5 x6 x13 x14 (w64 (x15 + 1)) x16 K0
  else
   K0 x16
def impl_field_product.g7 {A : Type} (z : A) : Nat → Int → List (List Int) → Int → Int → List Int → Int → Int → List (Int × Nat) → (List (Int × Nat) → A) → A
 | 0, _, _, _, _, _, _, _, _, _ => z
 | k + 1, x0, x2, x4, x5, x9, x10, x11, x12, K0 =>
  if x11 < x10 then
   inI z x11 (x9.length) fun j2 =>
   if x5 = 0 then
    impl_field_product.g7 z k x0 x2 x4 x5 x9 x10 (w64 (x11 + 1)) x12 K0
   else if (x9.getD j2 0) = 0 then
    impl_field_product.g7 z k x0 x2 x4 x5 x9 x10 (w64 (x11 + 1)) x12 K0
   else
    gd z (x0 ≠ 0) <|
    inI z ((w64 (x4 + x11)).tmod x0) (x2.length) fun j3 =>
    impl_field_product.g15 z k x5 (x9.getD j2 0) (x2.getD j3 []) ((x2.getD j3 []).length : Int) 0 x12 (fun v8 =>
     impl_field_product.g7 z k x0 x2 x4 x5 x9 x10 (w64 (x11 + 1)) v8 K0)
  else
   K0 x12
def impl_field_product.g1 {A : Type} (z : A) : Nat → Int → List (List Int) → List Int → List Int → Int → Int → List (Int × Nat) → (List (Int × Nat) → A) → A
 | 0, _, _, _, _, _, _, _, _ => z
 | k + 1, x0, x2, x3, x4, x5, x6, x7, K0 =>
  if x6 < x5 then
   inI z x6 (x4.length) fun j1 =>
   impl_field_product.g7 z k x0 x2 x6 (x4.getD j1 0) x3 (x3.length : Int) 0 x7 (fun v9 =>
    impl_field_product.g1 z k x0 x2 x3 x4 x5 (w64 (x6 + 1)) v9 K0)
  else
   K0 x7
def impl_field_product {A : Type} (z : A) : Nat → Int → Int → List (List Int) → List (Int × Nat) → List Int → List Int → (List (Int × Nat) → A) → A := step (fun _ _ _ _ _ _ _ => z) fun k a0 a1 a2 a3 a4 a5 Φ =>
  impl_field_product.g1 z k a0 a2 a5 a4 (a4.length : Int) 0 a3 Φ
def impl_sum_value {A : Type} (z : A) : Nat → Int → Nat → (Int → Bool → A) → A := step (fun _ _ _ => z) fun k a0 a1 Φ =>
  impl_within z k a0 (-1000000000) 1000000000 fun v1 =>
  bif v1 then
   bif (FloatKind.format .f64).order a1 4876203697187506176 == some .lt then
    Φ a0 ((FloatKind.format .f64).order a1 14099575734042281984 == some .gt)
   else
    Φ a0 false
  else
   Φ a0 false
def impl_values.g4 {A : Type} (z : A) : Nat → List (Int × Nat) → Bool → Int → Int → List Int → (Bool → List Int → A) → A
 | 0, _, _, _, _, _, _ => z
 | k + 1, x0, x1, x2, x3, x4, K0 =>
  if x3 < x2 then
   inI z x3 (x0.length) fun j1 =>
   impl_sum_value z k ((x0.getD j1 (0, 0)).1) ((x0.getD j1 (0, 0)).2) fun v2 v3 =>
   apI z ((x4.length) + 1) 8 <|
   bif x1 then
    impl_values.g4 z k x0 v3 x2 (w64 (x3 + 1)) (x4 ++ [v2]) K0
   else
    impl_values.g4 z k x0 false x2 (w64 (x3 + 1)) (x4 ++ [v2]) K0
  else
   K0 x1 x4
def impl_values {A : Type} (z : A) : Nat → List (Int × Nat) → (List Int → Bool → A) → A := step (fun _ _ => z) fun k a0 Φ =>
  impl_values.g4 z k a0 true (a0.length : Int) 0 [] (fun v4 v5 =>
   Φ v5 v4)
def impl_field_times {A : Type} (z : A) : Nat → Int → Int → List (List Int) → List Int → List Int → (List Int → Bool → A) → A := step (fun _ _ _ _ _ _ => z) fun k a0 a1 a2 a3 a4 Φ =>
  mkI z 16 a1 fun m1 =>
  impl_field_product z k a0 a1 a2 (List.replicate m1 ((0 : Int), (0 : Nat))) a3 a4 fun v2 =>
  impl_values z k v2 Φ
def impl_field_all.g4 {A : Type} (z : A) : Nat → Int → Int → List (List Int) → List (List Int) → Int → Int → List Int → (Bool → List Int → A) → (List Int → A) → A
 | 0, _, _, _, _, _, _, _, _, _ => z
 | k + 1, x0, x1, x2, x3, x4, x5, x6, K0, K1 =>
  if x5 < x4 then
   inI z x5 (x3.length) fun j2 =>
   impl_field_times z k x0 x1 x2 x6 (x3.getD j2 []) fun v3 v4 =>
   bif !v4 then
    K0 false []
   else
    impl_field_all.g4 z k x0 x1 x2 x3 x4 (w64 (x5 + 1)) v3 K0 K1
  else
   K1 x6
def impl_field_all {A : Type} (z : A) : Nat → Int → Int → List (List Int) → List (List Int) → (List Int → Bool → A) → A := step (fun _ _ _ _ _ => z) fun k a0 a1 a2 a3 Φ =>
  impl_field_whole z k a0 a1 a2 1 fun v1 =>
  impl_field_all.g4 z k a0 a1 a2 a3 (a3.length : Int) 0 v1 (fun v5 v6 =>
   Φ v6 v5) (fun v7 =>
   Φ v7 true)
def impl_cycloOf {A : Type} (z : A) : Nat → Int → List Int → (Int → List Int → Int → A) → A := step (fun _ _ _ => z) fun k a0 a1 Φ =>
  impl_areSmall z k a1 1000000000 fun v1 =>
  bif !v1 then
   Φ 0 [] 3
  else
   Φ a0 a1 0
def impl_ActOnCyclo.g16 {A : Type} (z : A) : Nat → Int → Int → Int → List Int → Int → Int → List (List Int) → List (List Int) → (List (List Int) → A) → A
 | 0, _, _, _, _, _, _, _, _, _ => z
 | k + 1, x0, x3, x4, x8, x10, x11, x12, x15, K0 =>
  if x4 < x3 then
   impl_field_image z k x10 x11 x15 x8 x0 fun v11 =>
   apI z ((x12.length) + 1) 24 <|
   impl_ActOnCyclo.g16 z k x0 x3 (w64 (x4 + 1)) x8 x10 x11 (x12 ++ [v11]) x15 K0
  else
   K0 x12
def impl_ActOnCyclo.g10 {A : Type} (z : A) : Nat → Int → Int → List Int → List Int → Int → Int → List (List Int) → List Int → List (List Int) → (List (List Int) → A) → A
 | 0, _, _, _, _, _, _, _, _, _, _ => z
 | k + 1, x0, x1, x3, x5, x7, x8, x9, x10, x12, K0 =>
  if x1 < x0 then
   inI z x1 (x10.length) fun j9 =>
   inI z x1 (x3.length) fun j10 =>
   impl_ActOnCyclo.g16 z k (x10.getD j9 0) (x3.getD j10 0) 0 x5 x7 x8 x9 x12 (fun v12 =>
    impl_ActOnCyclo.g10 z k x0 (w64 (x1 + 1)) x3 x5 x7 x8 v12 x10 x12 K0)
  else
   K0 x9
def impl_ActOnCyclo {A : Type} (z : A) : Nat → Int → List Int → Int → List Int → (Int → List Int → Int → A) → A := step (fun _ _ _ _ _ => z) fun k a0 a1 a2 a3 Φ =>
  impl_IsRing z k a0 a1 fun v1 =>
  bif !v1 then
   Φ 0 [] 1
  else
   impl_IsCyclo z k a2 a3 fun v2 =>
   bif !v2 then
    Φ 0 [] 1
   else if a0 ≠ a2 then
    Φ 0 [] 2
   else
    slices_Min_Sint64_int64 z k a1 fun v3 =>
    if v3 < 0 then
     Φ 0 [] 2
    else
     impl_total z k a1 fun v4 =>
     if 60 < v4 then
      Φ 0 [] 2
     else
      impl_fieldOf z k a2 fun v5 v6 v7 =>
      impl_unitsOf z k a2 fun v8 =>
      impl_ActOnCyclo.g10 z k (v8.length : Int) 0 a1 a3 v5 v6 [] v8 v7 (fun v13 =>
       impl_field_all z k v5 v6 v7 v13 fun v14 v15 =>
       bif !v15 then
        Φ 0 [] 3
       else
        impl_cycloOf z k a2 v14 Φ)
def spec_l10Fits.g3 {A : Type} (z : A) : Nat → Int → List Int → (Bool → A) → A → A
 | 0, _, _, _, _ => z
 | k + 1, x0, x2, K0, K1 =>
  if x0 < (x2.length : Int) then
   inI z x0 (x2.length) fun j1 =>
   spec_l01In z k (x2.getD j1 0) (-1000000000) 1000000000 fun v2 =>
   bif !v2 then
    K0 false
   else
    spec_l10Fits.g3 z k (w64 (x0 + 1)) x2 K0 K1
  else
   K1
def spec_l10Fits {A : Type} (z : A) : Nat → Int → List Int → (Bool → A) → A := step (fun _ _ _ => z) fun k a0 a1 Φ =>
  spec_l10Fits.g3 z k 0 a1 Φ (Φ true)
def spec_l10Is {A : Type} (z : A) : Nat → Int → List Int → (Bool → A) → A := step (fun _ _ _ => z) fun k a0 a1 Φ =>
  spec_l01In z k a0 2 40 fun v1 =>
  bif v1 then
   spec_l10Residues z k a0 fun v2 =>
   if (a1.length : Int) = (v2.length : Int) then
    spec_l10Fits z k a0 a1 Φ
   else
    Φ false
  else
   Φ false
def spec_l01Fits.g3 {A : Type} (z : A) : Nat → Int → List Int → (Bool → A) → A → A
 | 0, _, _, _, _ => z
 | k + 1, x0, x2, K0, K1 =>
  if x0 < (x2.length : Int) then
   inI z x0 (x2.length) fun j1 =>
   spec_l01In z k (x2.getD j1 0) (-1000000000) 1000000000 fun v2 =>
   bif !v2 then
    K0 false
   else
    spec_l01Fits.g3 z k (w64 (x0 + 1)) x2 K0 K1
  else
   K1
def spec_l01Fits {A : Type} (z : A) : Nat → Int → List Int → (Bool → A) → A := step (fun _ _ _ => z) fun k a0 a1 Φ =>
  spec_l01Fits.g3 z k 0 a1 Φ (Φ true)
def spec_l01Is {A : Type} (z : A) : Nat → Int → List Int → (Bool → A) → A := step (fun _ _ _ => z) fun k a0 a1 Φ =>
  spec_l01In z k a0 1 16 fun v1 =>
  bif v1 then
   spec_l01Phi z k a0 fun v2 =>
   if (a1.length : Int) = v2 then
    spec_l01Fits z k a0 a1 Φ
   else
    Φ false
  else
   Φ false
def spec_l01One {A : Type} (z : A) : Nat → Int → (Int → List Int → A) → A := step (fun _ _ => z) fun k a0 Φ =>
  spec_l01Unit z k a0 0 Φ
def spec_l01Galois.g5 {A : Type} (z : A) : Nat → Int → Int → Int → List Int → List Int → (List Int → A) → A
 | 0, _, _, _, _, _, _ => z
 | k + 1, x0, x1, x2, x4, x6, K0 =>
  if x2 < (x4.length : Int) then
   gd z (x1 ≠ 0) <|
   let y1 := (w64 (x2 * x0)).tmod x1
   let y2 := w64 (y1 + x1)
   gd z (x1 ≠ 0) <|
   let y3 := y2.tmod x1
   inI z y3 (x6.length) fun j2 =>
   inI z x2 (x4.length) fun j3 =>
   inI z y3 (x6.length) fun j4 =>
   spec_l01Galois.g5 z k x0 x1 (w64 (x2 + 1)) x4 (x6.set j4 (w64 ((x6.getD j2 0) + (x4.getD j3 0)))) K0
  else
   K0 x6
def spec_l01Galois {A : Type} (z : A) : Nat → Int → List Int → Int → (Int → List Int → A) → A := step (fun _ _ _ _ => z) fun k a0 a1 a2 Φ =>
  mkI z 8 a0 fun m1 =>
  spec_l01Galois.g5 z k a2 a0 0 a1 (List.replicate m1 (0 : Int)) (fun v5 =>
   spec_l01Reduce z k a0 v5 Φ)
def spec_l01Product.g9 {A : Type} (z : A) : Nat → List Int → Int → Int → List Int → List Int → (List Int → A) → A
 | 0, _, _, _, _, _, _ => z
 | k + 1, x0, x1, x2, x4, x6, K0 =>
  if x2 < (x0.length : Int) then
   inI z (w64 (x1 + x2)) (x6.length) fun j2 =>
   inI z x1 (x4.length) fun j3 =>
   inI z x2 (x0.length) fun j4 =>
   inI z (w64 (x1 + x2)) (x6.length) fun j5 =>
   spec_l01Product.g9 z k x0 x1 (w64 (x2 + 1)) x4 (x6.set j5 (w64 ((x6.getD j2 0) + (w64 ((x4.getD j3 0) * (x0.getD j4 0)))))) K0
  else
   K0 x6
def spec_l01Product.g4 {A : Type} (z : A) : Nat → List Int → Int → List Int → List Int → (List Int → A) → A
 | 0, _, _, _, _, _ => z
 | k + 1, x0, x1, x3, x5, K0 =>
  if x1 < (x3.length : Int) then
   spec_l01Product.g9 z k x0 x1 0 x3 x5 (fun v6 =>
    spec_l01Product.g4 z k x0 (w64 (x1 + 1)) x3 v6 K0)
  else
   K0 x5
def spec_l01Product {A : Type} (z : A) : Nat → Int → List Int → List Int → (Int → List Int → A) → A := step (fun _ _ _ _ => z) fun k a0 a1 a2 Φ =>
  mkI z 8 (w64 ((w64 ((a1.length : Int) + (a2.length : Int))) - 1)) fun m1 =>
  spec_l01Product.g4 z k a2 0 a1 (List.replicate m1 (0 : Int)) (fun v7 =>
   spec_l01Reduce z k a0 v7 Φ)
def spec_l01Times.g4 {A : Type} (z : A) : Nat → Int → List Int → List Int → List Int → (List Int → List Int → A) → A
 | 0, _, _, _, _, _ => z
 | k + 1, x0, x4, x6, x7, K0 =>
  if x0 < (x4.length : Int) then
   inI z x0 (x4.length) fun j1 =>
   apI z ((x6.length) + 1) 8 <|
   inI z x0 (x4.length) fun j2 =>
   apI z ((x7.length) + 1) 8 <|
   spec_l01Times.g4 z k (w64 (x0 + 1)) x4 (x6 ++ [((x4.getD j1 0).tmod 100000)]) (x7 ++ [(w64 ((x4.getD j2 0).tdiv 100000))]) K0
  else
   K0 x6 x7
def spec_l01Times.g13 {A : Type} (z : A) : Nat → Int → List Int → List Int → List Int → (Bool → List Int → A) → (List Int → A) → A
 | 0, _, _, _, _, _, _ => z
 | k + 1, x0, x6, x7, x8, K0, K1 =>
  if x0 < (x8.length : Int) then
   inI z x0 (x7.length) fun j11 =>
   spec_l01In z k (x7.getD j11 0) (-10000000000000) 10000000000000 fun v12 =>
   bif !v12 then
    K0 false x8
   else
    inI z x0 (x7.length) fun j13 =>
    inI z x0 (x6.length) fun j14 =>
    inI z x0 (x8.length) fun j15 =>
    spec_l01Times.g13 z k (w64 (x0 + 1)) x6 x7 (x8.set j15 (w64 ((w64 ((x7.getD j13 0) * 100000)) + (x6.getD j14 0)))) K0 K1
  else
   K1 x8
def spec_l01Times {A : Type} (z : A) : Nat → Int → List Int → Int → List Int → (Int → List Int → Bool → A) → A := step (fun _ _ _ _ _ => z) fun k a0 a1 a2 a3 Φ =>
  spec_l01Times.g4 z k 0 a3 [] [] (fun v3 v4 =>
   spec_l01Product z k a0 a1 v3 fun v5 v6 =>
   spec_l01Product z k a0 a1 v4 fun v7 v8 =>
   spec_l01Zero z k a0 fun v9 v10 =>
   spec_l01Times.g13 z k 0 v6 v8 v10 (fun v16 v17 =>
    Φ v9 v17 v16) (fun v18 =>
    spec_l01Fits z k v9 v18 fun v19 =>
    Φ v9 v18 v19))
def spec_ActOnCyclo.g7 {A : Type} (z : A) : Nat → Int → Int → Int → List Int → (Int → Int → A) → A
 | 0, _, _, _, _, _ => z
 | k + 1, x0, x1, x2, x4, K0 =>
  if x2 < (x4.length : Int) then
   inI z x2 (x4.length) fun j3 =>
   inI z x2 (x4.length) fun j4 =>
   spec_ActOnCyclo.g7 z k (w64 (x0 + (x4.getD j3 0))) (minI x1 (x4.getD j4 0)) (w64 (x2 + 1)) x4 K0
  else
   K0 x0 x1
def spec_ActOnCyclo.g24 {A : Type} (z : A) : Nat → Int → Int → Int → List Int → List Int → (Int → Int → List Int → A) → (Int → List Int → A) → A
 | 0, _, _, _, _, _, _, _ => z
 | k + 1, x1, x7, x9, x11, x12, K0, K1 =>
  if 0 < x1 then
   spec_l01Times z k x7 x11 x9 x12 fun v14 v15 v16 =>
   bif !v16 then
    K0 3 0 []
   else
    spec_ActOnCyclo.g24 z k (w64 (x1 - 1)) v14 x9 v15 x12 K0 K1
  else
   K1 x7 x11
def spec_ActOnCyclo.g18 {A : Type} (z : A) : Nat → Int → List Int → Int → List Int → Int → List Int → List Int → (Int → Int → List Int → A) → (Int → List Int → A) → A
 | 0, _, _, _, _, _, _, _, _, _ => z
 | k + 1, x0, x2, x3, x4, x6, x7, x9, K0, K1 =>
  if x0 < (x7.length : Int) then
   inI z x0 (x7.length) fun j10 =>
   spec_l01Galois z k x3 x4 (x7.getD j10 0) fun v11 v12 =>
   inI z x0 (x2.length) fun j13 =>
   spec_ActOnCyclo.g24 z k (x2.getD j13 0) x6 v11 x9 v12 K0 (fun v20 v21 =>
    spec_ActOnCyclo.g18 z k (w64 (x0 + 1)) x2 x3 x4 v20 x7 v21 K0 K1)
  else
   K1 x6 x9
def spec_ActOnCyclo {A : Type} (z : A) : Nat → Int → List Int → Int → List Int → (Int → List Int → Int → A) → A := step (fun _ _ _ _ _ => z) fun k a0 a1 a2 a3 Φ =>
  spec_l10Is z k a0 a1 fun v1 =>
  bif !v1 then
   Φ 0 [] 1
  else
   spec_l01Is z k a2 a3 fun v2 =>
   bif !v2 then
    Φ 0 [] 1
   else
    spec_ActOnCyclo.g7 z k 0 0 0 a1 (fun v5 v6 =>
     if a0 ≠ a2 then
      Φ 0 [] 2
     else if v6 < 0 then
      Φ 0 [] 2
     else if 60 < v5 then
      Φ 0 [] 2
     else
      spec_l01One z k a2 fun v7 v8 =>
      spec_l10Residues z k a2 fun v9 =>
      spec_ActOnCyclo.g18 z k 0 a1 a2 a3 v7 v9 v8 (fun v22 v23 v24 =>
       Φ v23 v24 v22) (fun v25 v26 =>
       Φ v25 v26 0))
def laws_cyclo9 {A : Type} (z : A) : Nat → Int → List Int → Int → List Int → (Bool → A) → A := step (fun _ _ _ _ _ => z) fun k a0 a1 a2 a3 Φ =>
  if a0 = a2 then
   laws_likeInts z k a1 a3 Φ
  else
   Φ false
def impl_field_images.g4 {A : Type} (z : A) : Nat → Int → Int → List (List Int) → List Int → Int → Int → List (List Int) → List Int → (List (List Int) → A) → A
 | 0, _, _, _, _, _, _, _, _, _ => z
 | k + 1, x0, x1, x2, x3, x4, x5, x6, x7, K0 =>
  if x5 < x4 then
   inI z x5 (x7.length) fun j2 =>
   impl_field_image z k x0 x1 x2 x3 (x7.getD j2 0) fun v3 =>
   apI z ((x6.length) + 1) 24 <|
   impl_field_images.g4 z k x0 x1 x2 x3 x4 (w64 (x5 + 1)) (x6 ++ [v3]) x7 K0
  else
   K0 x6
def impl_field_images {A : Type} (z : A) : Nat → Int → Int → List (List Int) → List Int → (List (List Int) → A) → A := step (fun _ _ _ _ _ => z) fun k a0 a1 a2 a3 Φ =>
  impl_unitsOf z k a0 fun v1 =>
  impl_field_images.g4 z k a0 a1 a2 a3 (v1.length : Int) 0 [] v1 Φ
def impl_field_norm {A : Type} (z : A) : Nat → Int → Int → List (List Int) → List Int → (Int → Bool → A) → A := step (fun _ _ _ _ _ => z) fun k a0 a1 a2 a3 Φ =>
  impl_field_images z k a0 a1 a2 a3 fun v1 =>
  impl_field_all z k a0 a1 a2 v1 fun v2 v3 =>
  bif !v3 then
   Φ 0 false
  else
   inI z 0 (v2.length) fun j4 =>
   Φ (v2.getD j4 0) true
def impl_NormOf {A : Type} (z : A) : Nat → Int → List Int → (Int → Int → A) → A := step (fun _ _ _ => z) fun k a0 a1 Φ =>
  impl_IsCyclo z k a0 a1 fun v1 =>
  bif !v1 then
   Φ 0 1
  else
   impl_fieldOf z k a0 fun v2 v3 v4 =>
   impl_field_norm z k v2 v3 v4 a1 fun v5 v6 =>
   bif !v6 then
    Φ 0 3
   else
    Φ v5 0
def laws_sum.g4 {A : Type} (z : A) : Nat → List Int → Int → Int → (Int → A) → A
 | 0, _, _, _, _ => z
 | k + 1, x0, x1, x2, K0 =>
  if x2 < (x0.length : Int) then
   inI z x2 (x0.length) fun j1 =>
   laws_sum.g4 z k x0 (w64 (x1 + (x0.getD j1 0))) (w64 (x2 + 1)) K0
  else
   K0 x1
def laws_sum {A : Type} (z : A) : Nat → List Int → (Int → A) → A := step (fun _ _ => z) fun k a0 Φ =>
  laws_sum.g4 z k a0 0 0 Φ
def impl_ResiduesOf {A : Type} (z : A) : Nat → Int → (List Int → Int → A) → A := step (fun _ _ => z) fun k a0 Φ =>
  impl_isModulus z k a0 fun v1 =>
  bif !v1 then
   Φ [] 2
  else
   impl_unitsOf z k a0 fun v2 =>
   Φ v2 0
def impl_ringCode {A : Type} (z : A) : Nat → Int → List Int → Int → List Int → (Int → A) → A := step (fun _ _ _ _ _ => z) fun k a0 a1 a2 a3 Φ =>
  impl_IsRing z k a0 a1 fun v1 =>
  bif !v1 then
   Φ 1
  else
   impl_IsRing z k a2 a3 fun v2 =>
   bif !v2 then
    Φ 1
   else if a0 ≠ a2 then
    Φ 2
   else
    Φ 0
def slices_Index_Sint64_int64.g3 {A : Type} (z : A) : Nat → List Int → Int → Int → Int → (Int → A) → A → A
 | 0, _, _, _, _, _, _ => z
 | k + 1, x0, x1, x2, x3, K0, K1 =>
  if x3 < x2 then
   inI z x3 (x0.length) fun j1 =>
   if x1 = (x0.getD j1 0) then
    K0 x3
   else
    slices_Index_Sint64_int64.g3 z k x0 x1 x2 (w64 (x3 + 1)) K0 K1
  else
   K1
def slices_Index_Sint64_int64 {A : Type} (z : A) : Nat → List Int → Int → (Int → A) → A := step (fun _ _ _ => z) fun k a0 a1 Φ =>
  slices_Index_Sint64_int64.g3 z k a0 a1 (a0.length : Int) 0 Φ (Φ (-1))
def impl_ringOf {A : Type} (z : A) : Nat → Int → List Int → (Int → List Int → Int → A) → A := step (fun _ _ _ => z) fun k a0 a1 Φ =>
  impl_areSmall z k a1 1000000000 fun v1 =>
  bif !v1 then
   Φ 0 [] 3
  else
   Φ a0 a1 0
def impl_MultiplyRings.g18 {A : Type} (z : A) : Nat → Int → Int → Int → Int → Int → List Int → List Int → List Int → List Int → (List Int → A) → A
 | 0, _, _, _, _, _, _, _, _, _, _ => z
 | k + 1, x0, x1, x4, x5, x6, x7, x9, x11, x12, K0 =>
  if x5 < x4 then
   inI z x5 (x11.length) fun j7 =>
   gd z (x6 ≠ 0) <|
   slices_Index_Sint64_int64 z k x11 ((w64 (x1 * (x11.getD j7 0))).tmod x6) fun v8 =>
   inI z v8 (x12.length) fun j9 =>
   inI z x0 (x7.length) fun j10 =>
   inI z x5 (x9.length) fun j11 =>
   inI z v8 (x12.length) fun j12 =>
   impl_MultiplyRings.g18 z k x0 x1 x4 (w64 (x5 + 1)) x6 x7 x9 x11 (x12.set j12 (w64 ((x12.getD j9 0) + (w64 ((x7.getD j10 0) * (x9.getD j11 0)))))) K0
  else
   K0 x12
def impl_MultiplyRings.g12 {A : Type} (z : A) : Nat → Int → Int → Int → List Int → List Int → List Int → List Int → (List Int → A) → A
 | 0, _, _, _, _, _, _, _, _ => z
 | k + 1, x0, x1, x2, x3, x5, x7, x8, K0 =>
  if x1 < x0 then
   inI z x1 (x7.length) fun j6 =>
   impl_MultiplyRings.g18 z k x1 (x7.getD j6 0) (x7.length : Int) 0 x2 x3 x5 x7 x8 (fun v13 =>
    impl_MultiplyRings.g12 z k x0 (w64 (x1 + 1)) x2 x3 x5 x7 v13 K0)
  else
   K0 x8
def impl_MultiplyRings {A : Type} (z : A) : Nat → Int → List Int → Int → List Int → (Int → List Int → Int → A) → A := step (fun _ _ _ _ _ => z) fun k a0 a1 a2 a3 Φ =>
  impl_ringCode z k a0 a1 a2 a3 fun v1 =>
  if v1 ≠ 0 then
   Φ 0 [] v1
  else
   impl_areSmall z k a1 100000 fun v2 =>
   bif !v2 then
    Φ 0 [] 2
   else
    impl_areSmall z k a3 100000 fun v3 =>
    bif !v3 then
     Φ 0 [] 2
    else
     impl_unitsOf z k a0 fun v4 =>
     mkI z 8 (v4.length : Int) fun m5 =>
     impl_MultiplyRings.g12 z k (v4.length : Int) 0 a0 a1 a3 v4 (List.replicate m5 (0 : Int)) (fun v14 =>
      impl_ringOf z k a0 v14 Φ)
def laws_FnStickelberger.g47 {A : Type} (z : A) : Nat → Int → Int → List Int → List Int → (List Int → A) → A
 | 0, _, _, _, _, _ => z
 | k + 1, x1, x2, x5, x9, K0 =>
  if x2 < (x5.length : Int) then
   inI z x2 (x5.length) fun j41 =>
   if (x5.getD j41 0) = x1 then
    apI z ((x9.length) + 1) 8 <|
    laws_FnStickelberger.g47 z k x1 (w64 (x2 + 1)) x5 (x9 ++ [1]) K0
   else
    apI z ((x9.length) + 1) 8 <|
    laws_FnStickelberger.g47 z k x1 (w64 (x2 + 1)) x5 (x9 ++ [0]) K0
  else
   K0 x9
def laws_FnStickelberger.g58 {A : Type} (z : A) : Nat → Int → Int → Int → List Int → List Int → List Int → List Int → (Bool → A) → A → A
 | 0, _, _, _, _, _, _, _, _, _ => z
 | k + 1, x0, x1, x2, x5, x7, x8, x9, K0, K1 =>
  if x2 < (x5.length : Int) then
   inI z x2 (x8.length) fun j46 =>
   inI z x2 (x9.length) fun j47 =>
   inI z x2 (x7.length) fun j48 =>
   if (w64 (x0 * (x8.getD j46 0))) ≠ (w64 ((w64 (x1 * (x9.getD j47 0))) - (x7.getD j48 0))) then
    K0 false
   else
    laws_FnStickelberger.g58 z k x0 x1 (w64 (x2 + 1)) x5 x7 x8 x9 K0 K1
  else
   K1
def laws_FnStickelberger.g22 {A : Type} (z : A) : Nat → Int → Int → Int → List Int → (Bool → A) → A
 | 0, _, _, _, _, _ => z
 | k + 1, x0, x1, x2, x4, K0 =>
  if x2 ≠ 0 then
   K0 (decide ((x4.length : Int) = 0))
  else
   impl_StickelbergerOf z k x0 fun v36 v37 v38 =>
   impl_ResiduesOf z k x0 fun v39 v40 =>
   if v38 ≠ 0 then
    K0 false
   else if v40 ≠ 0 then
    K0 false
   else
    laws_FnStickelberger.g47 z k x1 0 v39 [] (fun v42 =>
     impl_MultiplyRings z k v36 v37 x0 v42 fun v43 v44 v45 =>
     if v45 ≠ 0 then
      K0 false
     else
      laws_FnStickelberger.g58 z k x0 x1 0 v39 v44 x4 v37 K0 (K0 true))
def laws_FnStickelberger.g30 {A : Type} (z : A) : Nat → Int → Int → Int → (Int → A) → A
 | 0, _, _, _, _ => z
 | k + 1, x3, x5, x6, K0 =>
  if 0 < x6 then
   if x5 ≤ 1000000000 then
    if (-1000000000) ≤ x5 then
     laws_FnStickelberger.g30 z k x3 (w64 (x5 * x3)) (w64 (x6 - 1)) K0
    else
     K0 x5
   else
    K0 x5
  else
   K0 x5
def laws_FnStickelberger {A : Type} (z : A) : Nat → List Int → (Bool → A) → A := step (fun _ _ => z) fun k a0 Φ =>
  laws_big z k a0 fun v1 =>
  bif v1 then
   Φ true
  else
   spec_DrawReducedStickelberger z k a0 fun v2 v3 =>
   impl_ReducedStickelberger z k v2 v3 fun v4 v5 v6 =>
   spec_ReducedStickelberger z k v2 v3 fun v7 v8 v9 =>
   if v6 ≠ v9 then
    Φ false
   else
    laws_ring9 z k v4 v5 v7 v8 fun v10 =>
    bif !v10 then
     Φ false
    else
     spec_DrawStickelbergerOf z k a0 fun v11 =>
     impl_StickelbergerOf z k v11 fun v12 v13 v14 =>
     spec_StickelbergerOf z k v11 fun v15 v16 v17 =>
     if v14 ≠ v17 then
      Φ false
     else
      laws_ring9 z k v12 v13 v15 v16 fun v18 =>
      bif !v18 then
       Φ false
      else
       spec_DrawActOnCyclo z k a0 fun v19 v20 v21 v22 =>
       impl_ActOnCyclo z k v19 v20 v21 v22 fun v23 v24 v25 =>
       spec_ActOnCyclo z k v19 v20 v21 v22 fun v26 v27 v28 =>
       if v25 ≠ v28 then
        Φ false
       else
        laws_cyclo9 z k v23 v24 v26 v27 fun v29 =>
        bif !v29 then
         Φ false
        else if v25 = 0 then
         impl_NormOf z k v21 v22 fun v30 v31 =>
         impl_NormOf z k v23 v24 fun v32 v33 =>
         if v31 = 0 then
          if v33 = 0 then
           laws_sum z k v20 fun v34 =>
           laws_FnStickelberger.g30 z k v30 1 v34 (fun v35 =>
            if v35 ≤ 1000000000 then
             if (-1000000000) ≤ v35 then
              if v32 ≠ v35 then
               Φ false
              else
               laws_FnStickelberger.g22 z k v2 v3 v6 v5 Φ
             else
              laws_FnStickelberger.g22 z k v2 v3 v6 v5 Φ
            else
             laws_FnStickelberger.g22 z k v2 v3 v6 v5 Φ)
          else
           laws_FnStickelberger.g22 z k v2 v3 v6 v5 Φ
         else
          laws_FnStickelberger.g22 z k v2 v3 v6 v5 Φ
        else
         laws_FnStickelberger.g22 z k v2 v3 v6 v5 Φ
end Go.Proofs.Ytdnpkbhapdkikaa.R
