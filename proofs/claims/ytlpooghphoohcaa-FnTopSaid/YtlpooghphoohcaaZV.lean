/- What the functions tell, printed by a program of this repo. -/
import Derived.Test.YtlpooghphoohcaaZR5
/- x -/
namespace Go.Proofs.Ytlpooghphoohcaa.R
set_option linter.unusedVariables false
def laws_big {A : Type} (z : A) : Nat → List Int → (Bool → A) → A := step (fun _ _ => z) fun k a0 Φ =>
  Φ (decide (4096 < (a0.length : Int)))
def laws_roll.g4 {A : Type} (z : A) : Nat → List Int → Int → Int → (Int → A) → A
 | 0, _, _, _, _ => z
 | k + 1, x0, x1, x4, K0 =>
  if x1 < (x0.length : Int) then
   inI z x1 (x0.length) fun j1 =>
   laws_roll.g4 z k x0 (w64 (x1 + 1)) (wu64 ((wu64 ((wu64 (x4 * 1099511628211)) + (wu64 (x0.getD j1 0)))) + 5)) K0
  else
   K0 x4
def laws_roll {A : Type} (z : A) : Nat → List Int → Int → (List Int → Int → Int → A) → A := step (fun _ _ _ => z) fun k a0 a1 Φ =>
  laws_roll.g4 z k a0 0 (wu64 ((wu64 (a1 * 8291)) + (wu64 (a0.length : Int)))) (fun v2 =>
   Φ a0 0 v2)
def laws_dice_below {A : Type} (z : A) : Nat → List Int → Int → Int → Int → (List Int → Int → Int → Int → A) → A := step (fun _ _ _ _ _ => z) fun k a0 a1 a2 a3 Φ =>
  if a3 < 1 then
   Φ a0 a1 a2 0
  else
   let y1 := wu64 (a2 * 6364136223846793005)
   let y2 := wu64 (y1 + 1442695040888963407)
   let y3 := y2.fdiv (2 ^ (33))
   let y4 := wu64 ((BitVec.ofInt 64 y3 &&& BitVec.ofInt 64 16777215).toNat : Int)
   if a1 < (a0.length : Int) then
    inI z a1 (a0.length) fun j1 =>
    gd z (a3 ≠ 0) <|
    Φ a0 (w64 (a1 + 1)) y2 ((w64 ((w64 y4) + (w64 (a0.getD j1 0)))).tmod a3)
   else
    gd z (a3 ≠ 0) <|
    Φ a0 a1 y2 ((w64 y4).tmod a3)
def impl_within {A : Type} (z : A) : Nat → Int → Int → Int → (Bool → A) → A := step (fun _ _ _ _ => z) fun k a0 a1 a2 Φ =>
  if a1 ≤ a0 then
   Φ (decide (a0 ≤ a2))
  else
   Φ false
def impl_isPrime.g3 {A : Type} (z : A) : Nat → Int → Int → (Bool → A) → A → A
 | 0, _, _, _, _ => z
 | k + 1, x0, x1, K0, K1 =>
  if (w64 (x1 * x1)) ≤ x0 then
   gd z (x1 ≠ 0) <|
   if (x0.tmod x1) = 0 then
    K0 false
   else
    impl_isPrime.g3 z k x0 (w64 (x1 + 1)) K0 K1
  else
   K1
def impl_isPrime {A : Type} (z : A) : Nat → Int → (Bool → A) → A := step (fun _ _ => z) fun k a0 Φ =>
  impl_isPrime.g3 z k a0 2 Φ (impl_within z k a0 3 61 Φ)
def impl_isOrder {A : Type} (z : A) : Nat → Int → (Bool → A) → A := step (fun _ _ => z) fun k a0 Φ =>
  impl_within z k a0 1 16 Φ
def impl_areOf {A : Type} (z : A) : Nat → Int → Int → (Bool → A) → A := step (fun _ _ _ => z) fun k a0 a1 Φ =>
  impl_isPrime z k a0 fun v1 =>
  bif v1 then
   impl_isOrder z k a1 fun v2 =>
   bif v2 then
    gd z (a1 ≠ 0) <|
    Φ (decide (((w64 (a0 - 1)).tmod a1) = 0))
   else
    Φ false
  else
   Φ false
def impl_IsCharacter {A : Type} (z : A) : Nat → Int → Int → Int → (Bool → A) → A := step (fun _ _ _ _ => z) fun k a0 a1 a2 Φ =>
  impl_areOf z k a0 a1 fun v1 =>
  bif v1 then
   impl_within z k a2 0 (w64 (a1 - 1)) Φ
  else
   Φ false
def impl_listCode.g3 {A : Type} (z : A) : Nat → List (Int × Int × Int) → Int → Int → (Int → A) → A → A
 | 0, _, _, _, _, _ => z
 | k + 1, x1, x2, x3, K0, K1 =>
  if x3 < x2 then
   inI z x3 (x1.length) fun j1 =>
   impl_IsCharacter z k ((x1.getD j1 (0, (0, 0))).1) (((x1.getD j1 (0, (0, 0))).2).1) (((x1.getD j1 (0, (0, 0))).2).2) fun v2 =>
   bif !v2 then
    K0 1
   else
    impl_listCode.g3 z k x1 x2 (w64 (x3 + 1)) K0 K1
  else
   K1
def impl_listCode.g15 {A : Type} (z : A) : Nat → List (Int × Int × Int) → List (Int × Int × Int) → Int → Int → (Int → A) → A → A
 | 0, _, _, _, _, _, _ => z
 | k + 1, x0, x1, x2, x3, K0, K1 =>
  if x3 < x2 then
   inI z x3 (x1.length) fun j5 =>
   inI z 0 (x0.length) fun j6 =>
   if ((x1.getD j5 (0, (0, 0))).1) ≠ ((x0.getD j6 (0, (0, 0))).1) then
    K0 2
   else
    inI z 0 (x0.length) fun j7 =>
    if (((x1.getD j5 (0, (0, 0))).2).1) ≠ (((x0.getD j7 (0, (0, 0))).2).1) then
     K0 2
    else
     impl_listCode.g15 z k x0 x1 x2 (w64 (x3 + 1)) K0 K1
  else
   K1
def impl_listCode {A : Type} (z : A) : Nat → List (Int × Int × Int) → (Int → A) → A := step (fun _ _ => z) fun k a0 Φ =>
  impl_listCode.g3 z k a0 (a0.length : Int) 0 Φ (impl_within z k (a0.length : Int) 1 4 fun v4 =>
   bif !v4 then
    Φ 2
   else
    impl_listCode.g15 z k a0 a0 (a0.length : Int) 0 Φ (Φ 0))
def math_bits_Mul64 {A : Type} (z : A) : Nat → Int → Int → (Int → Int → A) → A := step (fun _ _ _ => z) fun k a0 a1 Φ =>
  let y1 := wu64 ((BitVec.ofInt 64 a0 &&& BitVec.ofInt 64 4294967295).toNat : Int)
  let y2 := wu64 ((BitVec.ofInt 64 a1 &&& BitVec.ofInt 64 4294967295).toNat : Int)
  let y3 := wu64 (y1 * y2)
  let y4 := wu64 ((a0.fdiv (2 ^ (32))) * y2)
  let y5 := y3.fdiv (2 ^ (32))
  let y6 := wu64 (y4 + y5)
  Φ (wu64 ((wu64 ((wu64 ((a0.fdiv (2 ^ (32))) * (a1.fdiv (2 ^ (32))))) + (y6.fdiv (2 ^ (32))))) + ((wu64 ((wu64 ((BitVec.ofInt 64 y6 &&& BitVec.ofInt 64 4294967295).toNat : Int)) + (wu64 (y1 * (a1.fdiv (2 ^ (32))))))).fdiv (2 ^ (32))))) (wu64 (a0 * a1))
def math_bits_Mul {A : Type} (z : A) : Nat → Int → Int → (Int → Int → A) → A := step (fun _ _ _ => z) fun k a0 a1 Φ =>
  math_bits_Mul64 z k a0 a1 Φ
def slices_Repeat_Sint64_int64.g9 {A : Type} (z : A) : Nat → Int → List Int → (List Int → A) → A
 | 0, _, _, _ => z
 | k + 1, x0, x1, K0 =>
  if x0 < (x1.length : Int) then
   toI z x0 (x1.length) fun j4 =>
   toI z x0 (x1.length) fun j5 =>
   slices_Repeat_Sint64_int64.g9 z k (w64 (x0 + (((min (((x1.drop 0).take j5).length) ((x1.length) - j4)) : Nat) : Int))) (x1.take j4 ++ ((x1.drop 0).take j5).take ((x1.length) - j4) ++ x1.drop (j4 + (min (((x1.drop 0).take j5).length) ((x1.length) - j4)))) K0
  else
   K0 x1
def slices_Repeat_Sint64_int64.g4 {A : Type} (z : A) : Nat → List Int → Int → (List Int → A) → A
 | 0, _, _, _ => z
 | k + 1, x0, x1, K0 =>
  mkI z 8 (w64 x1) fun m3 =>
  slices_Repeat_Sint64_int64.g9 z k (((min (x0.length) ((List.replicate m3 (0 : Int)).length)) : Nat) : Int) ((List.replicate m3 (0 : Int)).take 0 ++ x0.take ((List.replicate m3 (0 : Int)).length) ++ (List.replicate m3 (0 : Int)).drop (0 + (min (x0.length) ((List.replicate m3 (0 : Int)).length)))) K0
def slices_Repeat_Sint64_int64.g1 {A : Type} (z : A) : Nat → List Int → Int → (List Int → A) → A
 | 0, _, _, _ => z
 | k + 1, x0, x1, K0 =>
  math_bits_Mul z k (wu64 (x0.length : Int)) (wu64 x1) fun v1 v2 =>
  if 0 < v1 then
   z
  else if 9223372036854775807 < v2 then
   z
  else
   slices_Repeat_Sint64_int64.g4 z k x0 v2 K0
def slices_Repeat_Sint64_int64 {A : Type} (z : A) : Nat → List Int → Int → (List Int → A) → A := step (fun _ _ _ => z) fun k a0 a1 Φ =>
  if a1 < 0 then
   z
  else
   slices_Repeat_Sint64_int64.g1 z k a0 a1 Φ
def impl_indices.g7 {A : Type} (z : A) : Nat → Int → Int → Int → Int → List Int → (Int → List Int → A) → A
 | 0, _, _, _, _, _, _ => z
 | k + 1, x0, x1, x2, x3, x4, K0 =>
  inI z x2 (x4.length) fun j2 =>
  if (x4.getD j2 0) < 0 then
   inI z x2 (x4.length) fun j3 =>
   gd z (x0 ≠ 0) <|
   impl_indices.g7 z k x0 x1 ((w64 (x2 * x1)).tmod x0) (w64 (x3 + 1)) (x4.set j3 x3) K0
  else
   K0 x3 x4
def impl_indices.g2 {A : Type} (z : A) : Nat → Int → Int → (Int → List Int → A) → A
 | 0, _, _, _ => z
 | k + 1, x0, x1, K0 =>
  slices_Repeat_Sint64_int64 z k [(-1)] x0 fun v1 =>
  impl_indices.g7 z k x0 x1 1 0 v1 (fun v4 v5 =>
   if v4 = (w64 (x0 - 1)) then
    K0 x1 v5
   else
    impl_indices.g2 z k x0 (w64 (x1 + 1)) K0)
def impl_indices {A : Type} (z : A) : Nat → Int → (List Int → Int → A) → A := step (fun _ _ => z) fun k a0 Φ =>
  impl_indices.g2 z k a0 1 (fun v6 v7 =>
   Φ v7 v6)
def impl_exponents.g4 {A : Type} (z : A) : Nat → Int → Int → Int → Int → List Int → (List Int → A) → A
 | 0, _, _, _, _, _, _ => z
 | k + 1, x0, x1, x3, x4, x5, K0 =>
  if x1 < x0 then
   inI z x1 (x5.length) fun j3 =>
   if 0 < x1 then
    gd z (x3 ≠ 0) <|
    inI z x1 (x5.length) fun j4 =>
    impl_exponents.g4 z k x0 (w64 (x1 + 1)) x3 x4 (x5.set j4 ((w64 ((x5.getD j3 0) * x4)).tmod x3)) K0
   else
    impl_exponents.g4 z k x0 (w64 (x1 + 1)) x3 x4 x5 K0
  else
   K0 x5
def impl_exponents {A : Type} (z : A) : Nat → Int → Int → Int → (List Int → A) → A := step (fun _ _ _ _ => z) fun k a0 a1 a2 Φ =>
  impl_indices z k a0 fun v1 v2 =>
  impl_exponents.g4 z k (v1.length : Int) 0 a1 a2 v1 Φ
def slices_Clone_Sint64_int64 {A : Type} (z : A) : Nat → List Int → (List Int → A) → A := step (fun _ _ => z) fun _ a0 Φ =>
  apI z a0.length 8 <| Φ a0
def impl_quotient.g11 {A : Type} (z : A) : Nat → Int → List Int → Int → Int → List Int → List Int → (List Int → A) → A
 | 0, _, _, _, _, _, _, _ => z
 | k + 1, x1, x2, x3, x4, x5, x6, K0 =>
  if x4 < x3 then
   inI z x4 (x2.length) fun j5 =>
   inI z (w64 (x1 + x4)) (x5.length) fun j6 =>
   inI z x1 (x6.length) fun j7 =>
   inI z (w64 (x1 + x4)) (x5.length) fun j8 =>
   impl_quotient.g11 z k x1 x2 x3 (w64 (x4 + 1)) (x5.set j8 (w64 ((x5.getD j6 0) - (w64 ((x6.getD j7 0) * (x2.getD j5 0)))))) x6 K0
  else
   K0 x5
def impl_quotient.g5 {A : Type} (z : A) : Nat → List Int → Int → List Int → List Int → (List Int → A) → A
 | 0, _, _, _, _, _ => z
 | k + 1, x0, x1, x2, x3, K0 =>
  if 0 ≤ x1 then
   inI z (w64 ((w64 (x1 + (x0.length : Int))) - 1)) (x2.length) fun j3 =>
   inI z x1 (x3.length) fun j4 =>
   impl_quotient.g11 z k x1 x0 (x0.length : Int) 0 x2 (x3.set j4 (x2.getD j3 0)) (fun v9 =>
    impl_quotient.g5 z k x0 (w64 (x1 - 1)) v9 (x3.set j4 (x2.getD j3 0)) K0)
  else
   K0 x3
def impl_quotient {A : Type} (z : A) : Nat → List Int → List Int → (List Int → A) → A := step (fun _ _ _ => z) fun k a0 a1 Φ =>
  slices_Clone_Sint64_int64 z k a0 fun v1 =>
  mkI z 8 (w64 ((w64 ((v1.length : Int) - (a1.length : Int))) + 1)) fun m2 =>
  impl_quotient.g5 z k a1 (w64 (((List.replicate m2 (0 : Int)).length : Int) - 1)) v1 (List.replicate m2 (0 : Int)) Φ
mutual
def impl_cyclotomic.g5 {A : Type} (z : A) : Nat → Int → Int → List Int → (List Int → A) → A
 | 0, _, _, _, _ => z
 | k + 1, x0, x1, x2, K0 =>
  if x1 < x0 then
   gd z (x1 ≠ 0) <|
   if (x0.tmod x1) = 0 then
    impl_cyclotomic z k x1 fun v4 =>
    impl_quotient z k x2 v4 fun v5 =>
    impl_cyclotomic.g5 z k x0 (w64 (x1 + 1)) v5 K0
   else
    impl_cyclotomic.g5 z k x0 (w64 (x1 + 1)) x2 K0
  else
   K0 x2
def impl_cyclotomic {A : Type} (z : A) : Nat → Int → (List Int → A) → A
 | 0, _, _ => z
 | k + 1, a0, Φ =>
  mkI z 8 (w64 (a0 + 1)) fun m1 =>
  inI z 0 ((List.replicate m1 (0 : Int)).length) fun j2 =>
  inI z a0 (((List.replicate m1 (0 : Int)).set j2 (-1)).length) fun j3 =>
  impl_cyclotomic.g5 z k a0 1 (((List.replicate m1 (0 : Int)).set j2 (-1)).set j3 1) Φ
end
def impl_powers.g20 {A : Type} (z : A) : Nat → Int → Int → Int → List Int → List Int → (List Int → A) → A
 | 0, _, _, _, _, _, _ => z
 | k + 1, x1, x4, x5, x6, x7, K0 =>
  if x5 < x4 then
   inI z x5 (x7.length) fun j9 =>
   inI z x5 (x6.length) fun j10 =>
   inI z x5 (x7.length) fun j11 =>
   impl_powers.g20 z k x1 x4 (w64 (x5 + 1)) x6 (x7.set j11 (w64 ((x7.getD j9 0) - (w64 (x1 * (x6.getD j10 0)))))) K0
  else
   K0 x7
def impl_powers.g11 {A : Type} (z : A) : Nat → Int → Int → Int → List Int → List Int → List (List Int) → (List (List Int) → A) → A
 | 0, _, _, _, _, _, _, _ => z
 | k + 1, x0, x1, x2, x3, x4, x5, K0 =>
  if x2 < x1 then
   slices_Clone_Sint64_int64 z k x4 fun v4 =>
   apI z ((x5.length) + 1) 24 <|
   inI z (w64 (x0 - 1)) (x4.length) fun j5 =>
   toI z 1 (x4.length) fun j6 =>
   toI z (w64 (x0 - 1)) (x4.length) fun j7 =>
   inI z 0 ((x4.take j6 ++ ((x4.drop 0).take j7).take ((x4.length) - j6) ++ x4.drop (j6 + (min (((x4.drop 0).take j7).length) ((x4.length) - j6)))).length) fun j8 =>
   impl_powers.g20 z k (x4.getD j5 0) (((x4.take j6 ++ ((x4.drop 0).take j7).take ((x4.length) - j6) ++ x4.drop (j6 + (min (((x4.drop 0).take j7).length) ((x4.length) - j6)))).set j8 0).length : Int) 0 x3 ((x4.take j6 ++ ((x4.drop 0).take j7).take ((x4.length) - j6) ++ x4.drop (j6 + (min (((x4.drop 0).take j7).length) ((x4.length) - j6)))).set j8 0) (fun v12 =>
    impl_powers.g11 z k x0 x1 (w64 (x2 + 1)) x3 v12 (x5 ++ [v4]) K0)
  else
   K0 x5
def impl_powers {A : Type} (z : A) : Nat → Int → (List (List Int) → A) → A := step (fun _ _ => z) fun k a0 Φ =>
  impl_cyclotomic z k a0 fun v1 =>
  let y1 := w64 ((v1.length : Int) - 1)
  mkI z 8 y1 fun m2 =>
  inI z 0 ((List.replicate m2 (0 : Int)).length) fun j3 =>
  if a0 = 1 then
   Φ [((List.replicate m2 (0 : Int)).set j3 1)]
  else
   impl_powers.g11 z k y1 a0 0 v1 ((List.replicate m2 (0 : Int)).set j3 1) [] Φ
def impl_fieldOf {A : Type} (z : A) : Nat → Int → (Int → Int → List (List Int) → A) → A := step (fun _ _ => z) fun k a0 Φ =>
  impl_powers z k a0 fun v1 =>
  inI z 0 (v1.length) fun j2 =>
  Φ a0 ((v1.getD j2 []).length : Int) v1
def impl_counted_1 {A : Type} (z : A) : Nat → Int → (Int → A) → A := step (fun _ _ => z) fun k a0 Φ =>
  Φ a0
def impl_around {A : Type} (z : A) : Nat → Int → Int → (Int → A) → A := step (fun _ _ _ => z) fun k a0 a1 Φ =>
  gd z (a1 ≠ 0) <|
  gd z (a1 ≠ 0) <|
  Φ ((w64 ((a0.tmod a1) + a1)).tmod a1)
def impl_field_with_c140.g10 {A : Type} (z : A) : Nat → Int → List Int → Int → Int → List Int → (List Int → A) → A
 | 0, _, _, _, _, _, _ => z
 | k + 1, x3, x7, x8, x9, x10, K0 =>
  if x9 < x8 then
   inI z x9 (x7.length) fun j6 =>
   inI z x9 (x10.length) fun j7 =>
   inI z x9 (x10.length) fun j8 =>
   impl_field_with_c140.g10 z k x3 x7 x8 (w64 (x9 + 1)) (x10.set j8 (w64 ((x10.getD j7 0) + (w64 (x3 * (x7.getD j6 0)))))) K0
  else
   K0 x10
def impl_field_with_c140.g4 {A : Type} (z : A) : Nat → Int → List (List Int) → List Int → Int → Int → List Int → (List Int → A) → A
 | 0, _, _, _, _, _, _, _ => z
 | k + 1, x0, x2, x3, x4, x5, x6, K0 =>
  if x5 < x4 then
   inI z x5 (x3.length) fun j2 =>
   impl_counted_1 z k x5 fun v3 =>
   impl_around z k v3 x0 fun v4 =>
   inI z v4 (x2.length) fun j5 =>
   impl_field_with_c140.g10 z k (x3.getD j2 0) (x2.getD j5 []) ((x2.getD j5 []).length : Int) 0 x6 (fun v9 =>
    impl_field_with_c140.g4 z k x0 x2 x3 x4 (w64 (x5 + 1)) v9 K0)
  else
   K0 x6
def impl_field_with_c140 {A : Type} (z : A) : Nat → Int → Int → List (List Int) → List Int → (List Int → A) → A := step (fun _ _ _ _ _ => z) fun k a0 a1 a2 a3 Φ =>
  mkI z 8 a1 fun m1 =>
  impl_field_with_c140.g4 z k a0 a2 a3 (a3.length : Int) 0 (List.replicate m1 (0 : Int)) Φ
def impl_counted {A : Type} (z : A) : Nat → Int → List Int → (List Int → A) → A := step (fun _ _ _ => z) fun k a0 a1 Φ =>
  impl_fieldOf z k a0 fun v1 v2 v3 =>
  impl_field_with_c140 z k v1 v2 v3 a1 Φ
def impl_sumOver.g5 {A : Type} (z : A) : Nat → Int → Int → Int → List (List Int) → (List (List Int) → A) → A
 | 0, _, _, _, _, _ => z
 | k + 1, x3, x4, x5, x7, K0 =>
  if x5 < x4 then
   mkI z 8 x3 fun m4 =>
   inI z x5 (x7.length) fun j5 =>
   impl_sumOver.g5 z k x3 x4 (w64 (x5 + 1)) ((x7.set j5 (List.replicate m4 (0 : Int))).set j5 (List.replicate m4 (0 : Int))) K0
  else
   K0 x7
def impl_sumOver.g21 {A : Type} (z : A) : Nat → Int → Int → Int → List (List Int) → (List (List Int) → A) → A
 | 0, _, _, _, _, _ => z
 | k + 1, x2, x6, x7, x13, K0 =>
  if x7 < x6 then
   mkI z 8 x2 fun m11 =>
   inI z x7 (x13.length) fun j12 =>
   impl_sumOver.g21 z k x2 x6 (w64 (x7 + 1)) ((x13.set j12 (List.replicate m11 (0 : Int))).set j12 (List.replicate m11 (0 : Int))) K0
  else
   K0 x13
def impl_sumOver.g43 {A : Type} (z : A) : Nat → Int → Int → Int → Int → List (List Int) → Nat → List (List Int) → Nat → List Int → List Int → (List (List Int) → List (List Int) → A) → A
 | 0, _, _, _, _, _, _, _, _, _, _, _ => z
 | k + 1, x2, x4, x12, x13, x15, x16, x17, x18, x19, x21, K0 =>
  if x13 < x12 then
   inI z x13 (x21.length) fun j18 =>
   gd z (x2 ≠ 0) <|
   let y1 := (w64 (x13 + x4)).tmod x2
   inI z y1 (x19.length) fun j19 =>
   inI z y1 (x19.length) fun j20 =>
   impl_sumOver.g43 z k x2 x4 x12 (w64 (x13 + 1)) x15 x16 x17 x18 (x19.set j20 (w64 ((x19.getD j19 0) + (x21.getD j18 0)))) x21 K0
  else
   K0 (x15.set x16 x21) (x17.set x18 x19)
def impl_sumOver.g36 {A : Type} (z : A) : Nat → Int → Int → Int → Int → Int → Int → List (List Int) → List (List Int) → (List (List Int) → List (List Int) → A) → A
 | 0, _, _, _, _, _, _, _, _, _ => z
 | k + 1, x1, x2, x3, x4, x10, x11, x13, x14, K0 =>
  if x11 < x10 then
   inI z x11 (x13.length) fun j16 =>
   gd z (x1 ≠ 0) <|
   inI z ((w64 (x11 + x3)).tmod x1) (x14.length) fun j17 =>
   impl_sumOver.g43 z k x2 x4 ((x13.getD j16 []).length : Int) 0 x13 j16 x14 j17 (x14.getD j17 []) (x13.getD j16 []) (fun v21 v22 =>
    impl_sumOver.g36 z k x1 x2 x3 x4 x10 (w64 (x11 + 1)) v21 v22 K0)
  else
   K0 x13 x14
def impl_sumOver.g28 {A : Type} (z : A) : Nat → Int → Int → Int → Int → List (List Int) → List (List Int) → List Int → (List (List Int) → A) → A
 | 0, _, _, _, _, _, _, _, _ => z
 | k + 1, x1, x2, x6, x7, x9, x10, x11, K0 =>
  if x7 < x6 then
   inI z x7 (x11.length) fun j15 =>
   if (x11.getD j15 0) < 0 then
    impl_sumOver.g28 z k x1 x2 x6 (w64 (x7 + 1)) x9 x10 x11 K0
   else
    impl_sumOver.g36 z k x1 x2 x7 (x11.getD j15 0) (x9.length : Int) 0 x9 x10 (fun v23 v24 =>
     impl_sumOver.g28 z k x1 x2 x6 (w64 (x7 + 1)) v23 v24 x11 K0)
  else
   K0 x10
def impl_sumOver.g13 {A : Type} (z : A) : Nat → Int → Int → List (Int × Int × Int) → Int → Int → List (List Int) → (List (List Int) → A) → A
 | 0, _, _, _, _, _, _, _ => z
 | k + 1, x1, x2, x3, x4, x5, x7, K0 =>
  if x5 < x4 then
   inI z x5 (x3.length) fun j9 =>
   mkI z 24 x1 fun m10 =>
   impl_sumOver.g21 z k x2 ((List.replicate m10 ([] : List Int)).length : Int) 0 (List.replicate m10 ([] : List Int)) (fun v13 =>
    impl_exponents z k ((x3.getD j9 (0, (0, 0))).1) (((x3.getD j9 (0, (0, 0))).2).1) (((x3.getD j9 (0, (0, 0))).2).2) fun v14 =>
    impl_sumOver.g28 z k x1 x2 (v14.length : Int) 0 x7 v13 v14 (fun v25 =>
     impl_sumOver.g13 z k x1 x2 x3 x4 (w64 (x5 + 1)) v25 K0))
  else
   K0 x7
def impl_sumOver {A : Type} (z : A) : Nat → List (Int × Int × Int) → Int → (Int → List Int → A) → A := step (fun _ _ _ => z) fun k a0 a1 Φ =>
  inI z 0 (a0.length) fun j1 =>
  inI z 0 (a0.length) fun j2 =>
  mkI z 24 ((a0.getD j1 (0, (0, 0))).1) fun m3 =>
  impl_sumOver.g5 z k (((a0.getD j2 (0, (0, 0))).2).1) ((List.replicate m3 ([] : List Int)).length : Int) 0 (List.replicate m3 ([] : List Int)) (fun v6 =>
   inI z 0 (v6.length) fun j7 =>
   inI z 0 ((v6.getD j7 []).length) fun j8 =>
   impl_sumOver.g13 z k ((a0.getD j1 (0, (0, 0))).1) (((a0.getD j2 (0, (0, 0))).2).1) a0 (a0.length : Int) 0 (v6.set j7 ((v6.getD j7 []).set j8 1)) (fun v26 =>
    inI z a1 (v26.length) fun j27 =>
    impl_counted z k (((a0.getD j2 (0, (0, 0))).2).1) (v26.getD j27 []) fun v28 =>
    Φ (((a0.getD j2 (0, (0, 0))).2).1) v28))
def impl_JacobiOf {A : Type} (z : A) : Nat → List (Int × Int × Int) → (Int → List Int → Int → A) → A := step (fun _ _ => z) fun k a0 Φ =>
  impl_listCode z k a0 fun v1 =>
  if v1 ≠ 0 then
   Φ 0 [] v1
  else
   impl_sumOver z k a0 1 fun v2 v3 =>
   Φ v2 v3 0
def impl_JacobiSum {A : Type} (z : A) : Nat → Int → Int → Int → Int → Int → Int → (Int → List Int → Int → A) → A := step (fun _ _ _ _ _ _ _ => z) fun k a0 a1 a2 a3 a4 a5 Φ =>
  impl_JacobiOf z k [(a0, (a1, a2)), (a3, (a4, a5))] Φ
def spec_l01In {A : Type} (z : A) : Nat → Int → Int → Int → (Bool → A) → A := step (fun _ _ _ _ => z) fun k a0 a1 a2 Φ =>
  if a1 ≤ a0 then
   Φ (decide (a0 ≤ a2))
  else
   Φ false
def spec_l03Prime.g6 {A : Type} (z : A) : Nat → Int → Int → (Bool → A) → A → A
 | 0, _, _, _, _ => z
 | k + 1, x0, x1, K0, K1 =>
  if (w64 (x1 * x1)) ≤ x0 then
   gd z (x1 ≠ 0) <|
   if (x0.tmod x1) = 0 then
    K0 false
   else
    spec_l03Prime.g6 z k x0 (w64 (x1 + 1)) K0 K1
  else
   K1
def spec_l03Prime {A : Type} (z : A) : Nat → Int → (Bool → A) → A := step (fun _ _ => z) fun k a0 Φ =>
  spec_l01In z k a0 3 61 fun v1 =>
  bif !v1 then
   Φ false
  else
   spec_l03Prime.g6 z k a0 2 Φ (Φ true)
def spec_l03Order {A : Type} (z : A) : Nat → Int → Int → (Bool → A) → A := step (fun _ _ _ => z) fun k a0 a1 Φ =>
  spec_l01In z k a1 1 16 fun v1 =>
  bif v1 then
   gd z (a1 ≠ 0) <|
   Φ (decide (((w64 (a0 - 1)).tmod a1) = 0))
  else
   Φ false
def spec_l03Is {A : Type} (z : A) : Nat → Int → Int → Int → (Bool → A) → A := step (fun _ _ _ _ => z) fun k a0 a1 a2 Φ =>
  spec_l03Prime z k a0 fun v1 =>
  bif v1 then
   spec_l03Order z k a0 a1 fun v2 =>
   bif v2 then
    spec_l01In z k a2 0 (w64 (a1 - 1)) Φ
   else
    Φ false
  else
   Φ false
def spec_l03Like {A : Type} (z : A) : Nat → Int → Int → Int → Int → Int → Int → (Int → A) → A := step (fun _ _ _ _ _ _ _ => z) fun k a0 a1 a2 a3 a4 a5 Φ =>
  spec_l03Is z k a0 a1 a2 fun v1 =>
  bif !v1 then
   Φ 1
  else
   spec_l03Is z k a3 a4 a5 fun v2 =>
   bif !v2 then
    Φ 1
   else if a0 ≠ a3 then
    Φ 2
   else if a1 ≠ a4 then
    Φ 2
   else
    Φ 0
def spec_l03Period.g3 {A : Type} (z : A) : Nat → Int → Int → Int → Int → (Int → A) → A
 | 0, _, _, _, _, _ => z
 | k + 1, x0, x1, x2, x3, K0 =>
  if x2 ≠ 1 then
   gd z (x0 ≠ 0) <|
   spec_l03Period.g3 z k x0 x1 ((w64 (x2 * x1)).tmod x0) (w64 (x3 + 1)) K0
  else
   K0 x3
def spec_l03Period {A : Type} (z : A) : Nat → Int → Int → (Int → A) → A := step (fun _ _ _ => z) fun k a0 a1 Φ =>
  spec_l03Period.g3 z k a0 a1 a1 1 Φ
def spec_l03Root.g3 {A : Type} (z : A) : Nat → Int → Int → (Int → A) → A
 | 0, _, _, _ => z
 | k + 1, x0, x1, K0 =>
  spec_l03Period z k x0 x1 fun v1 =>
  if v1 ≠ (w64 (x0 - 1)) then
   spec_l03Root.g3 z k x0 (w64 (x1 + 1)) K0
  else
   K0 x1
def spec_l03Root {A : Type} (z : A) : Nat → Int → (Int → A) → A := step (fun _ _ => z) fun k a0 Φ =>
  spec_l03Root.g3 z k a0 1 Φ
def spec_l03Index.g4 {A : Type} (z : A) : Nat → Int → Int → Int → Int → Int → (Int → A) → A
 | 0, _, _, _, _, _, _ => z
 | k + 1, x0, x1, x2, x3, x4, K0 =>
  if x3 ≠ x1 then
   gd z (x0 ≠ 0) <|
   spec_l03Index.g4 z k x0 x1 x2 ((w64 (x3 * x2)).tmod x0) (w64 (x4 + 1)) K0
  else
   K0 x4
def spec_l03Index {A : Type} (z : A) : Nat → Int → Int → (Int → A) → A := step (fun _ _ _ => z) fun k a0 a1 Φ =>
  spec_l03Root z k a0 fun v1 =>
  gd z (a0 ≠ 0) <|
  gd z (a0 ≠ 0) <|
  spec_l03Index.g4 z k a0 ((w64 ((a1.tmod a0) + a0)).tmod a0) v1 1 0 Φ
def spec_l03Exponent {A : Type} (z : A) : Nat → Int → Int → Int → Int → (Int → A) → A := step (fun _ _ _ _ _ => z) fun k a0 a1 a2 a3 Φ =>
  gd z (a0 ≠ 0) <|
  if (a3.tmod a0) = 0 then
   Φ (-1)
  else
   spec_l03Index z k a0 a3 fun v1 =>
   gd z (a1 ≠ 0) <|
   Φ ((w64 (v1 * a2)).tmod a1)
def spec_l01Own {A : Type} (z : A) : Nat → List Int → (List Int → A) → A := step (fun _ _ => z) fun k a0 Φ =>
  apI z (0 + (a0.length)) 8 <|
  Φ ([] ++ a0)
def spec_l01Quotient.g11 {A : Type} (z : A) : Nat → List Int → Int → Int → List Int → List Int → (List Int → A) → A
 | 0, _, _, _, _, _, _ => z
 | k + 1, x0, x1, x2, x3, x4, K0 =>
  if x2 < (x0.length : Int) then
   inI z (w64 (x1 + x2)) (x3.length) fun j5 =>
   inI z x1 (x4.length) fun j6 =>
   inI z x2 (x0.length) fun j7 =>
   inI z (w64 (x1 + x2)) (x3.length) fun j8 =>
   spec_l01Quotient.g11 z k x0 x1 (w64 (x2 + 1)) (x3.set j8 (w64 ((x3.getD j5 0) - (w64 ((x4.getD j6 0) * (x0.getD j7 0)))))) x4 K0
  else
   K0 x3
def spec_l01Quotient.g5 {A : Type} (z : A) : Nat → List Int → Int → List Int → List Int → (List Int → A) → A
 | 0, _, _, _, _, _ => z
 | k + 1, x0, x1, x2, x3, K0 =>
  if 0 ≤ x1 then
   inI z (w64 ((w64 (x1 + (x0.length : Int))) - 1)) (x2.length) fun j3 =>
   inI z x1 (x3.length) fun j4 =>
   spec_l01Quotient.g11 z k x0 x1 0 x2 (x3.set j4 (x2.getD j3 0)) (fun v9 =>
    spec_l01Quotient.g5 z k x0 (w64 (x1 - 1)) v9 (x3.set j4 (x2.getD j3 0)) K0)
  else
   K0 x3
def spec_l01Quotient {A : Type} (z : A) : Nat → List Int → List Int → (List Int → A) → A := step (fun _ _ _ => z) fun k a0 a1 Φ =>
  spec_l01Own z k a0 fun v1 =>
  let y1 := w64 ((a0.length : Int) - (a1.length : Int))
  mkI z 8 (w64 (y1 + 1)) fun m2 =>
  spec_l01Quotient.g5 z k a1 y1 v1 (List.replicate m2 (0 : Int)) Φ
mutual
def spec_l01Cyclotomic.g6 {A : Type} (z : A) : Nat → Int → Int → List Int → (List Int → A) → A
 | 0, _, _, _, _ => z
 | k + 1, x0, x1, x2, K0 =>
  if x1 < x0 then
   gd z (x1 ≠ 0) <|
   if (x0.tmod x1) = 0 then
    spec_l01Cyclotomic z k x1 fun v4 =>
    spec_l01Quotient z k x2 v4 fun v5 =>
    spec_l01Cyclotomic.g6 z k x0 (w64 (x1 + 1)) v5 K0
   else
    spec_l01Cyclotomic.g6 z k x0 (w64 (x1 + 1)) x2 K0
  else
   K0 x2
def spec_l01Cyclotomic {A : Type} (z : A) : Nat → Int → (List Int → A) → A
 | 0, _, _ => z
 | k + 1, a0, Φ =>
  mkI z 8 (w64 (a0 + 1)) fun m1 =>
  inI z 0 ((List.replicate m1 (0 : Int)).length) fun j2 =>
  inI z a0 (((List.replicate m1 (0 : Int)).set j2 (-1)).length) fun j3 =>
  spec_l01Cyclotomic.g6 z k a0 1 (((List.replicate m1 (0 : Int)).set j2 (-1)).set j3 1) Φ
end
def spec_l01Gcd.g2 {A : Type} (z : A) : Nat → Int → Int → (Int → A) → A
 | 0, _, _, _ => z
 | k + 1, x0, x1, K0 =>
  if x1 ≠ 0 then
   gd z (x1 ≠ 0) <|
   spec_l01Gcd.g2 z k x1 (x0.tmod x1) K0
  else
   K0 x0
def spec_l01Gcd {A : Type} (z : A) : Nat → Int → Int → (Int → A) → A := step (fun _ _ _ => z) fun k a0 a1 Φ =>
  spec_l01Gcd.g2 z k a0 a1 (fun v1 =>
   Φ (maxI v1 (w64 (0 - v1))))
def spec_l01Phi.g4 {A : Type} (z : A) : Nat → Int → Int → Int → (Int → A) → A
 | 0, _, _, _, _ => z
 | k + 1, x0, x1, x2, K0 =>
  if x2 ≤ x0 then
   spec_l01Gcd z k x2 x0 fun v1 =>
   if v1 = 1 then
    spec_l01Phi.g4 z k x0 (w64 (x1 + 1)) (w64 (x2 + 1)) K0
   else
    spec_l01Phi.g4 z k x0 x1 (w64 (x2 + 1)) K0
  else
   K0 x1
def spec_l01Phi {A : Type} (z : A) : Nat → Int → (Int → A) → A := step (fun _ _ => z) fun k a0 Φ =>
  spec_l01Phi.g4 z k a0 0 1 Φ
def spec_l01Zero {A : Type} (z : A) : Nat → Int → (Int → List Int → A) → A := step (fun _ _ => z) fun k a0 Φ =>
  spec_l01Phi z k a0 fun v1 =>
  mkI z 8 v1 fun m2 =>
  Φ a0 (List.replicate m2 (0 : Int))
def spec_l01Reduce.g11 {A : Type} (z : A) : Nat → Int → Int → Int → Int → List Int → List Int → (List Int → A) → A
 | 0, _, _, _, _, _, _, _ => z
 | k + 1, x1, x2, x3, x4, x6, x7, K0 =>
  if x4 ≤ x1 then
   inI z (w64 ((w64 (x2 - x1)) + x4)) (x7.length) fun j4 =>
   inI z x4 (x6.length) fun j5 =>
   inI z (w64 ((w64 (x2 - x1)) + x4)) (x7.length) fun j6 =>
   spec_l01Reduce.g11 z k x1 x2 x3 (w64 (x4 + 1)) x6 (x7.set j6 (w64 ((x7.getD j4 0) - (w64 (x3 * (x6.getD j5 0)))))) K0
  else
   K0 x7
def spec_l01Reduce.g5 {A : Type} (z : A) : Nat → Int → Int → List Int → List Int → (List Int → A) → A
 | 0, _, _, _, _, _ => z
 | k + 1, x1, x2, x4, x5, K0 =>
  if x1 ≤ x2 then
   inI z x2 (x5.length) fun j3 =>
   spec_l01Reduce.g11 z k x1 x2 (x5.getD j3 0) 0 x4 x5 (fun v7 =>
    spec_l01Reduce.g5 z k x1 (w64 (x2 - 1)) x4 v7 K0)
  else
   K0 x5
def spec_l01Reduce.g18 {A : Type} (z : A) : Nat → Int → Int → List Int → List Int → (List Int → A) → A
 | 0, _, _, _, _, _ => z
 | k + 1, x0, x1, x3, x6, K0 =>
  if x1 < x0 then
   if x1 < (x3.length : Int) then
    inI z x1 (x3.length) fun j11 =>
    inI z x1 (x6.length) fun j12 =>
    spec_l01Reduce.g18 z k x0 (w64 (x1 + 1)) x3 (x6.set j12 (x3.getD j11 0)) K0
   else
    K0 x6
  else
   K0 x6
def spec_l01Reduce {A : Type} (z : A) : Nat → Int → List Int → (Int → List Int → A) → A := step (fun _ _ _ => z) fun k a0 a1 Φ =>
  spec_l01Cyclotomic z k a0 fun v1 =>
  spec_l01Own z k a1 fun v2 =>
  let y1 := w64 ((v1.length : Int) - 1)
  spec_l01Reduce.g5 z k y1 (w64 ((v2.length : Int) - 1)) v1 v2 (fun v8 =>
   spec_l01Zero z k a0 fun v9 v10 =>
   spec_l01Reduce.g18 z k y1 0 v8 v10 (fun v13 =>
    Φ v9 v13))
def spec_l04Sum.g5 {A : Type} (z : A) : Nat → Int → Int → Int → List (List Int) → (List (List Int) → A) → A
 | 0, _, _, _, _, _ => z
 | k + 1, x2, x3, x4, x6, K0 =>
  if x4 < x2 then
   mkI z 8 x3 fun m3 =>
   apI z ((x6.length) + 1) 24 <|
   spec_l04Sum.g5 z k x2 x3 (w64 (x4 + 1)) ((x6 ++ [(List.replicate m3 (0 : Int))]).set ((x6.length) + 0) (List.replicate m3 (0 : Int))) K0
  else
   K0 x6
def spec_l04Sum.g20 {A : Type} (z : A) : Nat → Int → Int → Int → List (List Int) → (List (List Int) → A) → A
 | 0, _, _, _, _, _ => z
 | k + 1, x2, x3, x5, x8, K0 =>
  if x5 < x2 then
   mkI z 8 x3 fun m7 =>
   apI z ((x8.length) + 1) 24 <|
   spec_l04Sum.g20 z k x2 x3 (w64 (x5 + 1)) ((x8 ++ [(List.replicate m7 (0 : Int))]).set ((x8.length) + 0) (List.replicate m7 (0 : Int))) K0
  else
   K0 x8
def spec_l04Sum.g38 {A : Type} (z : A) : Nat → Int → Int → Int → Int → List (List Int) → List (List Int) → Nat → List Int → (List (List Int) → List (List Int) → A) → A
 | 0, _, _, _, _, _, _, _, _, _ => z
 | k + 1, x3, x6, x7, x8, x10, x11, x12, x13, K0 =>
  if x8 < x3 then
   gd z (x3 ≠ 0) <|
   gd z (x3 ≠ 0) <|
   inI z ((w64 (x8 + x6)).tmod x3) (x13.length) fun j12 =>
   inI z x7 (x10.length) fun j13 =>
   inI z x8 ((x10.getD j13 []).length) fun j14 =>
   inI z ((w64 (x8 + x6)).tmod x3) (x13.length) fun j15 =>
   spec_l04Sum.g38 z k x3 x6 x7 (w64 (x8 + 1)) (x10.set j13 (x10.getD j13 [])) x11 x12 (x13.set j15 (w64 ((x13.getD j12 0) + ((x10.getD j13 []).getD j14 0)))) K0
  else
   K0 x10 (x11.set x12 x13)
def spec_l04Sum.g32 {A : Type} (z : A) : Nat → Int → Int → Int → Int → Int → List (List Int) → List (List Int) → (List (List Int) → List (List Int) → A) → A
 | 0, _, _, _, _, _, _, _, _ => z
 | k + 1, x2, x3, x5, x6, x7, x9, x10, K0 =>
  if x7 < x2 then
   gd z (x2 ≠ 0) <|
   inI z ((w64 (x7 + x5)).tmod x2) (x10.length) fun j11 =>
   spec_l04Sum.g38 z k x3 x6 x7 0 x9 x10 j11 (x10.getD j11 []) (fun v16 v17 =>
    spec_l04Sum.g32 z k x2 x3 x5 x6 (w64 (x7 + 1)) v16 v17 K0)
  else
   K0 x9 x10
def spec_l04Sum.g26 {A : Type} (z : A) : Nat → List (Int × Int × Int) → Int → Int → Int → Int → List (List Int) → List (List Int) → (List (List Int) → A) → A
 | 0, _, _, _, _, _, _, _, _ => z
 | k + 1, x0, x2, x3, x4, x5, x7, x8, K0 =>
  if x5 < x2 then
   inI z x4 (x0.length) fun j9 =>
   spec_l03Exponent z k ((x0.getD j9 (0, (0, 0))).1) (((x0.getD j9 (0, (0, 0))).2).1) (((x0.getD j9 (0, (0, 0))).2).2) x5 fun v10 =>
   spec_l04Sum.g32 z k x2 x3 x5 v10 0 x7 x8 (fun v18 v19 =>
    spec_l04Sum.g26 z k x0 x2 x3 x4 (w64 (x5 + 1)) v18 v19 K0)
  else
   K0 x8
def spec_l04Sum.g13 {A : Type} (z : A) : Nat → List (Int × Int × Int) → Int → Int → Int → List (List Int) → (List (List Int) → A) → A
 | 0, _, _, _, _, _, _ => z
 | k + 1, x0, x2, x3, x4, x6, K0 =>
  if x4 < (x0.length : Int) then
   spec_l04Sum.g20 z k x2 x3 0 [] (fun v8 =>
    spec_l04Sum.g26 z k x0 x2 x3 x4 1 x6 v8 (fun v20 =>
     spec_l04Sum.g13 z k x0 x2 x3 (w64 (x4 + 1)) v20 K0))
  else
   K0 x6
def spec_l04Sum {A : Type} (z : A) : Nat → List (Int × Int × Int) → Int → (Int → List Int → A) → A := step (fun _ _ _ => z) fun k a0 a1 Φ =>
  inI z 0 (a0.length) fun j1 =>
  inI z 0 (a0.length) fun j2 =>
  spec_l04Sum.g5 z k ((a0.getD j1 (0, (0, 0))).1) (((a0.getD j2 (0, (0, 0))).2).1) 0 [] (fun v4 =>
   inI z 0 (v4.length) fun j5 =>
   inI z 0 ((v4.getD j5 []).length) fun j6 =>
   spec_l04Sum.g13 z k a0 ((a0.getD j1 (0, (0, 0))).1) (((a0.getD j2 (0, (0, 0))).2).1) 0 (v4.set j5 ((v4.getD j5 []).set j6 1)) (fun v21 =>
    inI z a1 (v21.length) fun j22 =>
    spec_l01Reduce z k (((a0.getD j2 (0, (0, 0))).2).1) (v21.getD j22 []) Φ))
def spec_l04Jacobi {A : Type} (z : A) : Nat → Int → Int → Int → Int → Int → Int → (Int → List Int → A) → A := step (fun _ _ _ _ _ _ _ => z) fun k a0 a1 a2 a3 a4 a5 Φ =>
  spec_l04Sum z k [(a0, (a1, a2)), (a3, (a4, a5))] 1 Φ
def spec_JacobiSum {A : Type} (z : A) : Nat → Int → Int → Int → Int → Int → Int → (Int → List Int → Int → A) → A := step (fun _ _ _ _ _ _ _ => z) fun k a0 a1 a2 a3 a4 a5 Φ =>
  spec_l03Like z k a0 a1 a2 a3 a4 a5 fun v1 =>
  if v1 ≠ 0 then
   Φ 0 [] v1
  else
   spec_l04Jacobi z k a0 a1 a2 a3 a4 a5 fun v2 v3 =>
   Φ v2 v3 0
def laws_likeInts.g6 {A : Type} (z : A) : Nat → List Int → List Int → Int → (Bool → A) → A → A
 | 0, _, _, _, _, _ => z
 | k + 1, x0, x1, x2, K0, K1 =>
  if x2 < (x0.length : Int) then
   inI z x2 (x0.length) fun j1 =>
   inI z x2 (x1.length) fun j2 =>
   if (x0.getD j1 0) ≠ (x1.getD j2 0) then
    K0 false
   else
    laws_likeInts.g6 z k x0 x1 (w64 (x2 + 1)) K0 K1
  else
   K1
def laws_likeInts {A : Type} (z : A) : Nat → List Int → List Int → (Bool → A) → A := step (fun _ _ _ => z) fun k a0 a1 Φ =>
  if (a0.length : Int) ≠ (a1.length : Int) then
   Φ false
  else
   laws_likeInts.g6 z k a0 a1 0 Φ (Φ true)
def laws_cyclo9 {A : Type} (z : A) : Nat → Int → List Int → Int → List Int → (Bool → A) → A := step (fun _ _ _ _ _ => z) fun k a0 a1 a2 a3 Φ =>
  if a0 = a2 then
   laws_likeInts z k a1 a3 Φ
  else
   Φ false
def impl_pairCode {A : Type} (z : A) : Nat → Int → Int → Int → Int → Int → Int → (Int → A) → A := step (fun _ _ _ _ _ _ _ => z) fun k a0 a1 a2 a3 a4 a5 Φ =>
  impl_IsCharacter z k a0 a1 a2 fun v1 =>
  bif !v1 then
   Φ 1
  else
   impl_IsCharacter z k a3 a4 a5 fun v2 =>
   bif !v2 then
    Φ 1
   else if a0 ≠ a3 then
    Φ 2
   else if a1 ≠ a4 then
    Φ 2
   else
    Φ 0
def impl_IsPlainPair {A : Type} (z : A) : Nat → Int → Int → Int → Int → Int → Int → (Bool → Int → A) → A := step (fun _ _ _ _ _ _ _ => z) fun k a0 a1 a2 a3 a4 a5 Φ =>
  impl_pairCode z k a0 a1 a2 a3 a4 a5 fun v1 =>
  if v1 ≠ 0 then
   Φ false v1
  else if a2 ≠ 0 then
   if a5 ≠ 0 then
    gd z (a1 ≠ 0) <|
    Φ (decide (((w64 (a2 + a5)).tmod a1) ≠ 0)) 0
   else
    Φ false 0
  else
   Φ false 0
def spec_IsPlainPair {A : Type} (z : A) : Nat → Int → Int → Int → Int → Int → Int → (Bool → Int → A) → A := step (fun _ _ _ _ _ _ _ => z) fun k a0 a1 a2 a3 a4 a5 Φ =>
  spec_l03Like z k a0 a1 a2 a3 a4 a5 fun v1 =>
  if v1 ≠ 0 then
   Φ false v1
  else if a2 ≠ 0 then
   if a5 ≠ 0 then
    gd z (a1 ≠ 0) <|
    Φ (decide (((w64 (a2 + a5)).tmod a1) ≠ 0)) 0
   else
    Φ false 0
  else
   Φ false 0
def impl_size {A : Type} (z : A) : Nat → Int → (Int → A) → A := step (fun _ _ => z) fun k a0 Φ =>
  Φ (maxI a0 (w64 (0 - a0)))
def impl_gcd.g3 {A : Type} (z : A) : Nat → Int → Int → (Int → A) → A
 | 0, _, _, _ => z
 | k + 1, x0, x1, K0 =>
  if 0 < x1 then
   gd z (x1 ≠ 0) <|
   impl_gcd.g3 z k x1 (x0.tmod x1) K0
  else
   K0 x0
def impl_gcd {A : Type} (z : A) : Nat → Int → Int → (Int → A) → A := step (fun _ _ _ => z) fun k a0 a1 Φ =>
  impl_size z k a0 fun v1 =>
  impl_size z k a1 fun v2 =>
  impl_gcd.g3 z k v1 v2 Φ
def impl_totient.g4 {A : Type} (z : A) : Nat → Int → Int → Int → (Int → A) → A
 | 0, _, _, _, _ => z
 | k + 1, x0, x1, x2, K0 =>
  if x2 ≤ x0 then
   impl_gcd z k x2 x0 fun v1 =>
   if v1 = 1 then
    impl_totient.g4 z k x0 (w64 (x1 + 1)) (w64 (x2 + 1)) K0
   else
    impl_totient.g4 z k x0 x1 (w64 (x2 + 1)) K0
  else
   K0 x1
def impl_totient {A : Type} (z : A) : Nat → Int → (Int → A) → A := step (fun _ _ => z) fun k a0 Φ =>
  impl_totient.g4 z k a0 0 1 Φ
def impl_areSmall_1 {A : Type} (z : A) : Nat → Int → Int → (Bool → A) → A := step (fun _ _ _ => z) fun k a0 a1 Φ =>
  impl_within z k a0 (w64 (0 - a1)) a1 fun v1 =>
  Φ (!v1)
def slices_IndexFunc_Sint64_int64_c149.g3 {A : Type} (z : A) : Nat → List Int → Int → Int → Int → (Int → A) → A → A
 | 0, _, _, _, _, _, _ => z
 | k + 1, x0, x1, x2, x3, K0, K1 =>
  if x3 < x2 then
   inI z x3 (x0.length) fun j1 =>
   impl_areSmall_1 z k (x0.getD j1 0) x1 fun v2 =>
   bif v2 then
    K0 x3
   else
    slices_IndexFunc_Sint64_int64_c149.g3 z k x0 x1 x2 (w64 (x3 + 1)) K0 K1
  else
   K1
def slices_IndexFunc_Sint64_int64_c149 {A : Type} (z : A) : Nat → List Int → Int → (Int → A) → A := step (fun _ _ _ => z) fun k a0 a1 Φ =>
  slices_IndexFunc_Sint64_int64_c149.g3 z k a0 a1 (a0.length : Int) 0 Φ (Φ (-1))
def slices_ContainsFunc_Sint64_int64_c149 {A : Type} (z : A) : Nat → List Int → Int → (Bool → A) → A := step (fun _ _ _ => z) fun k a0 a1 Φ =>
  slices_IndexFunc_Sint64_int64_c149 z k a0 a1 fun v1 =>
  Φ (decide (0 ≤ v1))
def impl_areSmall {A : Type} (z : A) : Nat → List Int → Int → (Bool → A) → A := step (fun _ _ _ => z) fun k a0 a1 Φ =>
  slices_ContainsFunc_Sint64_int64_c149 z k a0 a1 fun v1 =>
  Φ (!v1)
def impl_IsCyclo {A : Type} (z : A) : Nat → Int → List Int → (Bool → A) → A := step (fun _ _ _ => z) fun k a0 a1 Φ =>
  impl_isOrder z k a0 fun v1 =>
  bif v1 then
   impl_totient z k a0 fun v2 =>
   if (a1.length : Int) = v2 then
    impl_areSmall z k a1 1000000000 Φ
   else
    Φ false
  else
   Φ false
def impl_isPrimeTo {A : Type} (z : A) : Nat → Int → Int → (Bool → A) → A := step (fun _ _ _ => z) fun k a0 a1 Φ =>
  impl_within z k a0 1 a1 fun v1 =>
  bif v1 then
   impl_gcd z k a0 a1 fun v2 =>
   Φ (decide (v2 = 1))
  else
   Φ false
def impl_unitsOf.g4 {A : Type} (z : A) : Nat → Int → Int → List Int → (List Int → A) → A
 | 0, _, _, _, _ => z
 | k + 1, x0, x1, x2, K0 =>
  if x1 ≤ x0 then
   impl_isPrimeTo z k x1 x0 fun v1 =>
   bif v1 then
    apI z ((x2.length) + 1) 8 <|
    impl_unitsOf.g4 z k x0 (w64 (x1 + 1)) (x2 ++ [x1]) K0
   else
    impl_unitsOf.g4 z k x0 (w64 (x1 + 1)) x2 K0
  else
   K0 x2
def impl_unitsOf {A : Type} (z : A) : Nat → Int → (List Int → A) → A := step (fun _ _ => z) fun k a0 Φ =>
  impl_unitsOf.g4 z k a0 1 [] Φ
def impl_field_image_1 {A : Type} (z : A) : Nat → Int → Int → (Int → A) → A := step (fun _ _ _ => z) fun k a0 a1 Φ =>
  Φ (w64 (a1 * a0))
def impl_field_with_c143.g10 {A : Type} (z : A) : Nat → Int → List Int → Int → Int → List Int → (List Int → A) → A
 | 0, _, _, _, _, _, _ => z
 | k + 1, x4, x8, x9, x10, x11, K0 =>
  if x10 < x9 then
   inI z x10 (x8.length) fun j6 =>
   inI z x10 (x11.length) fun j7 =>
   inI z x10 (x11.length) fun j8 =>
   impl_field_with_c143.g10 z k x4 x8 x9 (w64 (x10 + 1)) (x11.set j8 (w64 ((x11.getD j7 0) + (w64 (x4 * (x8.getD j6 0)))))) K0
  else
   K0 x11
def impl_field_with_c143.g4 {A : Type} (z : A) : Nat → Int → List (List Int) → Int → List Int → Int → Int → List Int → (List Int → A) → A
 | 0, _, _, _, _, _, _, _, _ => z
 | k + 1, x0, x2, x3, x4, x5, x6, x7, K0 =>
  if x6 < x5 then
   inI z x6 (x4.length) fun j2 =>
   impl_field_image_1 z k x6 x3 fun v3 =>
   impl_around z k v3 x0 fun v4 =>
   inI z v4 (x2.length) fun j5 =>
   impl_field_with_c143.g10 z k (x4.getD j2 0) (x2.getD j5 []) ((x2.getD j5 []).length : Int) 0 x7 (fun v9 =>
    impl_field_with_c143.g4 z k x0 x2 x3 x4 x5 (w64 (x6 + 1)) v9 K0)
  else
   K0 x7
def impl_field_with_c143 {A : Type} (z : A) : Nat → Int → Int → List (List Int) → List Int → Int → (List Int → A) → A := step (fun _ _ _ _ _ _ => z) fun k a0 a1 a2 a3 a4 Φ =>
  mkI z 8 a1 fun m1 =>
  impl_field_with_c143.g4 z k a0 a2 a4 a3 (a3.length : Int) 0 (List.replicate m1 (0 : Int)) Φ
def impl_field_image {A : Type} (z : A) : Nat → Int → Int → List (List Int) → List Int → Int → (List Int → A) → A := step (fun _ _ _ _ _ _ => z) fun k a0 a1 a2 a3 a4 Φ =>
  impl_field_with_c143 z k a0 a1 a2 a3 a4 Φ
def impl_field_images.g4 {A : Type} (z : A) : Nat → Int → Int → List (List Int) → List Int → Int → Int → List (List Int) → List Int → (List (List Int) → A) → A
 | 0, _, _, _, _, _, _, _, _, _ => z
 | k + 1, x0, x1, x2, x3, x4, x5, x6, x7, K0 =>
  if x5 < x4 then
   inI z x5 (x7.length) fun j2 =>
   impl_field_image z k x0 x1 x2 x3 (x7.getD j2 0) fun v3 =>
   apI z ((x6.length) + 1) 24 <|
   impl_field_images.g4 z k x0 x1 x2 x3 x4 (w64 (x5 + 1)) (x6 ++ [v3]) x7 K0
  else
   K0 x6
def impl_field_images {A : Type} (z : A) : Nat → Int → Int → List (List Int) → List Int → (List (List Int) → A) → A := step (fun _ _ _ _ _ => z) fun k a0 a1 a2 a3 Φ =>
  impl_unitsOf z k a0 fun v1 =>
  impl_field_images.g4 z k a0 a1 a2 a3 (v1.length : Int) 0 [] v1 Φ
def impl_field_whole {A : Type} (z : A) : Nat → Int → Int → List (List Int) → Int → (List Int → A) → A := step (fun _ _ _ _ _ => z) fun k a0 a1 a2 a3 Φ =>
  mkI z 8 a1 fun m1 =>
  inI z 0 ((List.replicate m1 (0 : Int)).length) fun j2 =>
  Φ ((List.replicate m1 (0 : Int)).set j2 a3)
def impl_sum_add {A : Type} (z : A) : Nat → Int → Nat → Int → Int → (Int → Nat → A) → A := step (fun _ _ _ _ _ => z) fun k a0 a1 a2 a3 Φ =>
  optN z ((FloatKind.format .f64).mul (FloatKind.nearest .f64 a2) (FloatKind.nearest .f64 a3)) fun f1 =>
  optN z ((FloatKind.format .f64).add a1 f1) fun f2 =>
  Φ (w64 (a0 + (w64 (a2 * a3)))) f2
def impl_field_product.g15 {A : Type} (z : A) : Nat → Int → Int → List Int → Int → Int → List (Int × Nat) → (List (Int × Nat) → A) → A
 | 0, _, _, _, _, _, _, _ => z
 | k + 1, x5, x6, x13, x14, x15, x16, K0 =>
  if x15 < x14 then
   inI z x15 (x13.length) fun j4 =>
   if (x13.getD j4 0) ≠ 0 then
    inI z x15 (x16.length) fun j5 =>
    impl_sum_add z k ((x16.getD j5 (0, 0)).1) ((x16.getD j5 (0, 0)).2) (w64 ((x13.getD j4 0) * x5)) x6 fun v6 v7 =>
    impl_field_product.g15 z k x5 x6 x13 x14 (w64 (x15 + 1)) (x16.set j5 (v6, v7)) K0
   else
    impl_field_product.g15 z k x5 x6 x13 x14 (w64 (x15 + 1)) x16 K0
  else
   K0 x16
def impl_field_product.g7 {A : Type} (z : A) : Nat → Int → List (List Int) → Int → Int → List Int → Int → Int → List (Int × Nat) → (List (Int × Nat) → A) → A
 | 0, _, _, _, _, _, _, _, _, _ => z
 | k + 1, x0, x2, x4, x5, x9, x10, x11, x12, K0 =>
  if x11 < x10 then
   inI z x11 (x9.length) fun j2 =>
   if x5 = 0 then
    impl_field_product.g7 z k x0 x2 x4 x5 x9 x10 (w64 (x11 + 1)) x12 K0
   else if (x9.getD j2 0) = 0 then
    impl_field_product.g7 z k x0 x2 x4 x5 x9 x10 (w64 (x11 + 1)) x12 K0
   else
    gd z (x0 ≠ 0) <|
    inI z ((w64 (x4 + x11)).tmod x0) (x2.length) fun j3 =>
    impl_field_product.g15 z k x5 (x9.getD j2 0) (x2.getD j3 []) ((x2.getD j3 []).length : Int) 0 x12 (fun v8 =>
     impl_field_product.g7 z k x0 x2 x4 x5 x9 x10 (w64 (x11 + 1)) v8 K0)
  else
   K0 x12
def impl_field_product.g1 {A : Type} (z : A) : Nat → Int → List (List Int) → List Int → List Int → Int → Int → List (Int × Nat) → (List (Int × Nat) → A) → A
 | 0, _, _, _, _, _, _, _, _ => z
 | k + 1, x0, x2, x3, x4, x5, x6, x7, K0 =>
  if x6 < x5 then
   inI z x6 (x4.length) fun j1 =>
   impl_field_product.g7 z k x0 x2 x6 (x4.getD j1 0) x3 (x3.length : Int) 0 x7 (fun v9 =>
    impl_field_product.g1 z k x0 x2 x3 x4 x5 (w64 (x6 + 1)) v9 K0)
  else
   K0 x7
def impl_field_product {A : Type} (z : A) : Nat → Int → Int → List (List Int) → List (Int × Nat) → List Int → List Int → (List (Int × Nat) → A) → A := step (fun _ _ _ _ _ _ _ => z) fun k a0 a1 a2 a3 a4 a5 Φ =>
  impl_field_product.g1 z k a0 a2 a5 a4 (a4.length : Int) 0 a3 Φ
def impl_sum_value {A : Type} (z : A) : Nat → Int → Nat → (Int → Bool → A) → A := step (fun _ _ _ => z) fun k a0 a1 Φ =>
  impl_within z k a0 (-1000000000) 1000000000 fun v1 =>
  bif v1 then
   bif (FloatKind.format .f64).order a1 4876203697187506176 == some .lt then
    Φ a0 ((FloatKind.format .f64).order a1 14099575734042281984 == some .gt)
   else
    Φ a0 false
  else
   Φ a0 false
def impl_values.g4 {A : Type} (z : A) : Nat → List (Int × Nat) → Bool → Int → Int → List Int → (Bool → List Int → A) → A
 | 0, _, _, _, _, _, _ => z
 | k + 1, x0, x1, x2, x3, x4, K0 =>
  if x3 < x2 then
   inI z x3 (x0.length) fun j1 =>
   impl_sum_value z k ((x0.getD j1 (0, 0)).1) ((x0.getD j1 (0, 0)).2) fun v2 v3 =>
   apI z ((x4.length) + 1) 8 <|
   bif x1 then
    impl_values.g4 z k x0 v3 x2 (w64 (x3 + 1)) (x4 ++ [v2]) K0
   else
    impl_values.g4 z k x0 false x2 (w64 (x3 + 1)) (x4 ++ [v2]) K0
  else
   K0 x1 x4
def impl_values {A : Type} (z : A) : Nat → List (Int × Nat) → (List Int → Bool → A) → A := step (fun _ _ => z) fun k a0 Φ =>
  impl_values.g4 z k a0 true (a0.length : Int) 0 [] (fun v4 v5 =>
   Φ v5 v4)
def impl_field_times {A : Type} (z : A) : Nat → Int → Int → List (List Int) → List Int → List Int → (List Int → Bool → A) → A := step (fun _ _ _ _ _ _ => z) fun k a0 a1 a2 a3 a4 Φ =>
  mkI z 16 a1 fun m1 =>
  impl_field_product z k a0 a1 a2 (List.replicate m1 ((0 : Int), (0 : Nat))) a3 a4 fun v2 =>
  impl_values z k v2 Φ
def impl_field_all.g4 {A : Type} (z : A) : Nat → Int → Int → List (List Int) → List (List Int) → Int → Int → List Int → (Bool → List Int → A) → (List Int → A) → A
 | 0, _, _, _, _, _, _, _, _, _ => z
 | k + 1, x0, x1, x2, x3, x4, x5, x6, K0, K1 =>
  if x5 < x4 then
   inI z x5 (x3.length) fun j2 =>
   impl_field_times z k x0 x1 x2 x6 (x3.getD j2 []) fun v3 v4 =>
   bif !v4 then
    K0 false []
   else
    impl_field_all.g4 z k x0 x1 x2 x3 x4 (w64 (x5 + 1)) v3 K0 K1
  else
   K1 x6
def impl_field_all {A : Type} (z : A) : Nat → Int → Int → List (List Int) → List (List Int) → (List Int → Bool → A) → A := step (fun _ _ _ _ _ => z) fun k a0 a1 a2 a3 Φ =>
  impl_field_whole z k a0 a1 a2 1 fun v1 =>
  impl_field_all.g4 z k a0 a1 a2 a3 (a3.length : Int) 0 v1 (fun v5 v6 =>
   Φ v6 v5) (fun v7 =>
   Φ v7 true)
def impl_field_norm {A : Type} (z : A) : Nat → Int → Int → List (List Int) → List Int → (Int → Bool → A) → A := step (fun _ _ _ _ _ => z) fun k a0 a1 a2 a3 Φ =>
  impl_field_images z k a0 a1 a2 a3 fun v1 =>
  impl_field_all z k a0 a1 a2 v1 fun v2 v3 =>
  bif !v3 then
   Φ 0 false
  else
   inI z 0 (v2.length) fun j4 =>
   Φ (v2.getD j4 0) true
def impl_NormOf {A : Type} (z : A) : Nat → Int → List Int → (Int → Int → A) → A := step (fun _ _ _ => z) fun k a0 a1 Φ =>
  impl_IsCyclo z k a0 a1 fun v1 =>
  bif !v1 then
   Φ 0 1
  else
   impl_fieldOf z k a0 fun v2 v3 v4 =>
   impl_field_norm z k v2 v3 v4 a1 fun v5 v6 =>
   bif !v6 then
    Φ 0 3
   else
    Φ v5 0
def impl_charactersOf.g4 {A : Type} (z : A) : Nat → Int → Int → Int → Int → List (Int × Int × Int) → (List (Int × Int × Int) → A) → A
 | 0, _, _, _, _, _, _ => z
 | k + 1, x0, x1, x2, x3, x4, K0 =>
  if x3 < x2 then
   apI z ((x4.length) + 1) 24 <|
   impl_charactersOf.g4 z k x0 x1 x2 (w64 (x3 + 1)) (x4 ++ [(x0, (x1, x3))]) K0
  else
   K0 x4
def impl_charactersOf {A : Type} (z : A) : Nat → Int → Int → (List (Int × Int × Int) → A) → A := step (fun _ _ _ => z) fun k a0 a1 Φ =>
  impl_charactersOf.g4 z k a0 a1 a1 0 [] Φ
def impl_JacobiRow.g7 {A : Type} (z : A) : Nat → Int → Int → Int → Int → Int → List (Int × List Int) → List (Int × Int × Int) → (List (Int × List Int) → A) → A
 | 0, _, _, _, _, _, _, _, _ => z
 | k + 1, x0, x1, x2, x3, x4, x5, x6, K0 =>
  if x1 < x0 then
   inI z x1 (x6.length) fun j3 =>
   impl_sumOver z k [(x2, (x3, x4)), (((x6.getD j3 (0, (0, 0))).1), ((((x6.getD j3 (0, (0, 0))).2).1), (((x6.getD j3 (0, (0, 0))).2).2)))] 1 fun v4 v5 =>
   apI z ((x5.length) + 1) 32 <|
   impl_JacobiRow.g7 z k x0 (w64 (x1 + 1)) x2 x3 x4 (x5 ++ [(v4, v5)]) x6 K0
  else
   K0 x5
def impl_JacobiRow {A : Type} (z : A) : Nat → Int → Int → Int → (List (Int × List Int) → Int → A) → A := step (fun _ _ _ _ => z) fun k a0 a1 a2 Φ =>
  impl_IsCharacter z k a0 a1 a2 fun v1 =>
  bif !v1 then
   Φ [] 1
  else
   impl_charactersOf z k a0 a1 fun v2 =>
   impl_JacobiRow.g7 z k (v2.length : Int) 0 a0 a1 a2 [] v2 (fun v6 =>
    Φ v6 0)
def impl_divides {A : Type} (z : A) : Nat → Int → Int → (Bool → A) → A := step (fun _ _ _ => z) fun k a0 a1 Φ =>
  if 0 < a0 then
   gd z (a0 ≠ 0) <|
   Φ (decide ((a1.tmod a0) = 0))
  else
   Φ false
def impl_power.g4 {A : Type} (z : A) : Nat → Int → Int → Int → Int → (Int → A) → A
 | 0, _, _, _, _, _ => z
 | k + 1, x0, x1, x2, x3, K0 =>
  if 0 < x1 then
   if (x1.tmod 2) = 1 then
    gd z (x2 ≠ 0) <|
    gd z (x2 ≠ 0) <|
    impl_power.g4 z k ((w64 (x0 * x0)).tmod x2) (w64 (x1.tdiv 2)) x2 ((w64 (x3 * x0)).tmod x2) K0
   else
    gd z (x2 ≠ 0) <|
    impl_power.g4 z k ((w64 (x0 * x0)).tmod x2) (w64 (x1.tdiv 2)) x2 x3 K0
  else
   K0 x3
def impl_power {A : Type} (z : A) : Nat → Int → Int → Int → (Int → A) → A := step (fun _ _ _ _ => z) fun k a0 a1 a2 Φ =>
  gd z (a2 ≠ 0) <|
  impl_around z k a0 a2 fun v1 =>
  impl_power.g4 z k v1 a1 a2 (Int.tmod 1 a2) Φ
def impl_CountByJacobi.g13 {A : Type} (z : A) : Nat → Int → Int → Int → Int → Int → Int → Int → (Int → A) → A
 | 0, _, _, _, _, _, _, _, _ => z
 | k + 1, x0, x1, x2, x3, x4, x7, x8, K0 =>
  if x8 < x7 then
   impl_power z k x4 x1 x0 fun v5 =>
   impl_power z k x8 x2 x0 fun v6 =>
   gd z (x0 ≠ 0) <|
   if ((w64 (v5 + v6)).tmod x0) = 1 then
    impl_CountByJacobi.g13 z k x0 x1 x2 (w64 (x3 + 1)) x4 x7 (w64 (x8 + 1)) K0
   else
    impl_CountByJacobi.g13 z k x0 x1 x2 x3 x4 x7 (w64 (x8 + 1)) K0
  else
   K0 x3
def impl_CountByJacobi.g7 {A : Type} (z : A) : Nat → Int → Int → Int → Int → Int → Int → (Int → A) → A
 | 0, _, _, _, _, _, _, _ => z
 | k + 1, x0, x1, x2, x3, x4, x5, K0 =>
  if x5 < x4 then
   impl_CountByJacobi.g13 z k x0 x1 x2 x3 x5 x0 0 (fun v7 =>
    impl_CountByJacobi.g7 z k x0 x1 x2 v7 x4 (w64 (x5 + 1)) K0)
  else
   K0 x3
def impl_CountByJacobi {A : Type} (z : A) : Nat → Int → Int → Int → (Int → Int → A) → A := step (fun _ _ _ _ => z) fun k a0 a1 a2 Φ =>
  impl_isPrime z k a0 fun v1 =>
  bif !v1 then
   Φ 0 2
  else
   impl_divides z k a1 (w64 (a0 - 1)) fun v2 =>
   bif !v2 then
    Φ 0 2
   else
    impl_divides z k a2 (w64 (a0 - 1)) fun v3 =>
    bif !v3 then
     Φ 0 2
    else
     impl_gcd z k a1 a2 fun v4 =>
     gd z (v4 ≠ 0) <|
     if 16 < (w64 ((w64 (a1.tdiv v4)) * a2)) then
      Φ 0 2
     else
      impl_CountByJacobi.g7 z k a0 a1 a2 0 a0 0 (fun v8 =>
       Φ v8 0)
def impl_isExponent {A : Type} (z : A) : Nat → Int → (Bool → A) → A := step (fun _ _ => z) fun k a0 Φ =>
  impl_within z k a0 1 60 Φ
def impl_isEquation.g6 {A : Type} (z : A) : Nat → Int → List Int → List Int → Int → Int → (Bool → A) → A → A
 | 0, _, _, _, _, _, _, _ => z
 | k + 1, x0, x1, x2, x3, x4, K0, K1 =>
  if x4 < x3 then
   inI z x4 (x2.length) fun j4 =>
   impl_within z k (x2.getD j4 0) 1 (w64 (x0 - 1)) fun v5 =>
   bif !v5 then
    K0 false
   else
    inI z x4 (x1.length) fun j6 =>
    impl_isExponent z k (x1.getD j6 0) fun v7 =>
    bif !v7 then
     K0 false
    else
     impl_isEquation.g6 z k x0 x1 x2 x3 (w64 (x4 + 1)) K0 K1
  else
   K1
def impl_isEquation {A : Type} (z : A) : Nat → Int → List Int → List Int → Int → (Bool → A) → A := step (fun _ _ _ _ _ => z) fun k a0 a1 a2 a3 Φ =>
  impl_isPrime z k a0 fun v1 =>
  bif !v1 then
   Φ false
  else
   impl_within z k (a1.length : Int) 1 4 fun v2 =>
   bif !v2 then
    Φ false
   else if (a2.length : Int) ≠ (a1.length : Int) then
    Φ false
   else
    impl_within z k a3 0 (w64 (a0 - 1)) fun v3 =>
    bif !v3 then
     Φ false
    else
     impl_isEquation.g6 z k a0 a2 a1 (a1.length : Int) 0 Φ (Φ true)
def impl_powersOf.g4 {A : Type} (z : A) : Nat → Int → Int → Int → Int → List Int → (List Int → A) → A
 | 0, _, _, _, _, _, _ => z
 | k + 1, x0, x1, x2, x3, x4, K0 =>
  if x3 < x2 then
   impl_power z k x3 x1 x0 fun v1 =>
   apI z ((x4.length) + 1) 8 <|
   impl_powersOf.g4 z k x0 x1 x2 (w64 (x3 + 1)) (x4 ++ [v1]) K0
  else
   K0 x4
def impl_powersOf {A : Type} (z : A) : Nat → Int → Int → (List Int → A) → A := step (fun _ _ _ => z) fun k a0 a1 Φ =>
  impl_powersOf.g4 z k a0 a1 a0 0 [] Φ
def impl_valueCounts.g4 {A : Type} (z : A) : Nat → Int → Int → Nat → Nat → Int → Int → List Int → List Int → (List Int → A) → A
 | 0, _, _, _, _, _, _, _, _, _ => z
 | k + 1, x0, x1, x2, x3, x4, x5, x6, x7, K0 =>
  if x5 < x4 then
   inI z x5 x3 fun j4 =>
   let y1 := w64 (x1 * (x7.getD (x2 + j4) 0))
   gd z (x0 ≠ 0) <|
   let y2 := y1.tmod x0
   inI z y2 (x6.length) fun j5 =>
   inI z y2 (x6.length) fun j6 =>
   impl_valueCounts.g4 z k x0 x1 x2 x3 x4 (w64 (x5 + 1)) (x6.set j6 (w64 ((x6.getD j5 0) + 1))) x7 K0
  else
   K0 x6
def impl_valueCounts {A : Type} (z : A) : Nat → Int → Int → Int → Int → (List Int → A) → A := step (fun _ _ _ _ _ => z) fun k a0 a1 a2 a3 Φ =>
  mkI z 8 a0 fun m1 =>
  impl_powersOf z k a0 a2 fun v2 =>
  toI z a3 (v2.length) fun j3 =>
  impl_valueCounts.g4 z k a0 a1 j3 ((v2.length) - j3) ((((v2.length) - j3) : Nat) : Int) 0 (List.replicate m1 (0 : Int)) v2 Φ
def impl_solutions.g19 {A : Type} (z : A) : Nat → Int → Int → Int → Int → Int → List Int → List Int → (List Int → A) → A
 | 0, _, _, _, _, _, _, _, _ => z
 | k + 1, x0, x4, x5, x11, x12, x13, x14, K0 =>
  if x12 < x11 then
   inI z x12 (x13.length) fun j8 =>
   gd z (x0 ≠ 0) <|
   let y1 := (w64 (x12 + x4)).tmod x0
   inI z y1 (x14.length) fun j9 =>
   inI z y1 (x14.length) fun j10 =>
   impl_solutions.g19 z k x0 x4 x5 x11 (w64 (x12 + 1)) x13 (x14.set j10 (w64 ((x14.getD j9 0) + (w64 (x5 * (x13.getD j8 0)))))) K0
  else
   K0 x14
def impl_solutions.g13 {A : Type} (z : A) : Nat → Int → Int → Int → List Int → List Int → List Int → (List Int → A) → A
 | 0, _, _, _, _, _, _, _ => z
 | k + 1, x0, x7, x8, x9, x10, x11, K0 =>
  if x8 < x7 then
   inI z x8 (x11.length) fun j7 =>
   impl_solutions.g19 z k x0 x8 (x11.getD j7 0) (x9.length : Int) 0 x9 x10 (fun v11 =>
    impl_solutions.g13 z k x0 x7 (w64 (x8 + 1)) x9 v11 x11 K0)
  else
   K0 x10
def impl_solutions.g5 {A : Type} (z : A) : Nat → Int → List Int → Int → List Int → Int → Int → List Int → (List Int → A) → A
 | 0, _, _, _, _, _, _, _, _ => z
 | k + 1, x0, x1, x3, x4, x5, x6, x7, K0 =>
  if x6 < x5 then
   inI z x6 (x4.length) fun j3 =>
   mkI z 8 x0 fun m4 =>
   inI z x6 (x1.length) fun j5 =>
   impl_valueCounts z k x0 (x4.getD j3 0) (x1.getD j5 0) x3 fun v6 =>
   impl_solutions.g13 z k x0 (v6.length : Int) 0 x7 (List.replicate m4 (0 : Int)) v6 (fun v12 =>
    impl_solutions.g5 z k x0 x1 x3 x4 x5 (w64 (x6 + 1)) v12 K0)
  else
   K0 x7
def impl_solutions {A : Type} (z : A) : Nat → Int → List Int → List Int → Int → Int → (Int → A) → A := step (fun _ _ _ _ _ _ => z) fun k a0 a1 a2 a3 a4 Φ =>
  mkI z 8 a0 fun m1 =>
  inI z 0 ((List.replicate m1 (0 : Int)).length) fun j2 =>
  impl_solutions.g5 z k a0 a2 a4 a1 (a1.length : Int) 0 ((List.replicate m1 (0 : Int)).set j2 1) (fun v13 =>
   inI z a3 (v13.length) fun j14 =>
   Φ (v13.getD j14 0))
def impl_CountSolutions {A : Type} (z : A) : Nat → Int → List Int → List Int → Int → (Int → Int → A) → A := step (fun _ _ _ _ _ => z) fun k a0 a1 a2 a3 Φ =>
  impl_isEquation z k a0 a1 a2 a3 fun v1 =>
  bif !v1 then
   Φ 0 2
  else
   impl_solutions z k a0 a1 a2 a3 0 fun v2 =>
   Φ v2 0
def laws_FnTop {A : Type} (z : A) : Nat → List Int → (Bool → A) → A := step (fun _ _ => z) fun k a0 Φ =>
  laws_big z k a0 fun v1 =>
  bif v1 then
   Φ true
  else
   laws_roll z k a0 9931 fun v2 v3 v4 =>
   laws_dice_below z k v2 v3 v4 7 fun v5 v6 v7 v8 =>
   inI z v8 7 fun j9 =>
   laws_dice_below z k v5 v6 v7 4 fun v10 v11 v12 v13 =>
   inI z v13 4 fun j14 =>
   laws_dice_below z k v10 v11 v12 ([3, 3, 2, 6].getD j14 0) fun v15 v16 v17 v18 =>
   laws_dice_below z k v15 v16 v17 ([3, 3, 2, 6].getD j14 0) fun v19 v20 v21 v22 =>
   impl_JacobiSum z k ([7, 13, 19, 31, 37, 43, 61].getD j9 0) ([3, 3, 2, 6].getD j14 0) v18 ([7, 13, 19, 31, 37, 43, 61].getD j9 0) ([3, 3, 2, 6].getD j14 0) v22 fun v23 v24 v25 =>
   spec_JacobiSum z k ([7, 13, 19, 31, 37, 43, 61].getD j9 0) ([3, 3, 2, 6].getD j14 0) v18 ([7, 13, 19, 31, 37, 43, 61].getD j9 0) ([3, 3, 2, 6].getD j14 0) v22 fun v26 v27 v28 =>
   if v25 ≠ v28 then
    Φ false
   else
    laws_cyclo9 z k v23 v24 v26 v27 fun v29 =>
    bif !v29 then
     Φ false
    else if v25 ≠ 0 then
     Φ false
    else
     impl_IsPlainPair z k ([7, 13, 19, 31, 37, 43, 61].getD j9 0) ([3, 3, 2, 6].getD j14 0) v18 ([7, 13, 19, 31, 37, 43, 61].getD j9 0) ([3, 3, 2, 6].getD j14 0) v22 fun v30 v31 =>
     spec_IsPlainPair z k ([7, 13, 19, 31, 37, 43, 61].getD j9 0) ([3, 3, 2, 6].getD j14 0) v18 ([7, 13, 19, 31, 37, 43, 61].getD j9 0) ([3, 3, 2, 6].getD j14 0) v22 fun v32 v33 =>
     impl_NormOf z k v23 v24 fun v34 v35 =>
     if v31 ≠ v33 then
      Φ false
     else if v30 ≠ v32 then
      Φ false
     else if v31 ≠ 0 then
      Φ false
     else if v35 ≠ 0 then
      Φ false
     else bif v30 then
      if (2 : Int) < ([3, 3, 2, 6].getD j14 0) then
       if (v34 : Int) ≠ ([7, 13, 19, 31, 37, 43, 61].getD j9 0) then
        Φ false
       else
        impl_JacobiRow z k ([7, 13, 19, 31, 37, 43, 61].getD j9 0) ([3, 3, 2, 6].getD j14 0) v18 fun v36 v37 =>
        if v37 ≠ 0 then
         Φ false
        else if ((v36.length : Int) : Int) ≠ ([3, 3, 2, 6].getD j14 0) then
         Φ false
        else
         inI z v22 (v36.length) fun j38 =>
         laws_cyclo9 z k ((v36.getD j38 (0, [])).1) ((v36.getD j38 (0, [])).2) v23 v24 fun v39 =>
         bif !v39 then
          Φ false
         else
          impl_CountByJacobi z k ([7, 13, 19, 31, 37, 43, 61].getD j9 0) ([3, 3, 2, 6].getD j14 0) ([3, 3, 2, 6].getD j14 0) fun v40 v41 =>
          impl_CountSolutions z k ([7, 13, 19, 31, 37, 43, 61].getD j9 0) [1, 1] [([3, 3, 2, 6].getD j14 0), ([3, 3, 2, 6].getD j14 0)] 1 fun v42 v43 =>
          if v41 = 0 then
           if v43 = 0 then
            if v40 = v42 then
             Φ (decide (0 < v40))
            else
             Φ false
           else
            Φ false
          else
           Φ false
      else
       impl_JacobiRow z k ([7, 13, 19, 31, 37, 43, 61].getD j9 0) ([3, 3, 2, 6].getD j14 0) v18 fun v44 v45 =>
       if v45 ≠ 0 then
        Φ false
       else if ((v44.length : Int) : Int) ≠ ([3, 3, 2, 6].getD j14 0) then
        Φ false
       else
        inI z v22 (v44.length) fun j46 =>
        laws_cyclo9 z k ((v44.getD j46 (0, [])).1) ((v44.getD j46 (0, [])).2) v23 v24 fun v47 =>
        bif !v47 then
         Φ false
        else
         impl_CountByJacobi z k ([7, 13, 19, 31, 37, 43, 61].getD j9 0) ([3, 3, 2, 6].getD j14 0) ([3, 3, 2, 6].getD j14 0) fun v48 v49 =>
         impl_CountSolutions z k ([7, 13, 19, 31, 37, 43, 61].getD j9 0) [1, 1] [([3, 3, 2, 6].getD j14 0), ([3, 3, 2, 6].getD j14 0)] 1 fun v50 v51 =>
         if v49 = 0 then
          if v51 = 0 then
           if v48 = v50 then
            Φ (decide (0 < v48))
           else
            Φ false
          else
           Φ false
         else
          Φ false
     else
      impl_JacobiRow z k ([7, 13, 19, 31, 37, 43, 61].getD j9 0) ([3, 3, 2, 6].getD j14 0) v18 fun v52 v53 =>
      if v53 ≠ 0 then
       Φ false
      else if ((v52.length : Int) : Int) ≠ ([3, 3, 2, 6].getD j14 0) then
       Φ false
      else
       inI z v22 (v52.length) fun j54 =>
       laws_cyclo9 z k ((v52.getD j54 (0, [])).1) ((v52.getD j54 (0, [])).2) v23 v24 fun v55 =>
       bif !v55 then
        Φ false
       else
        impl_CountByJacobi z k ([7, 13, 19, 31, 37, 43, 61].getD j9 0) ([3, 3, 2, 6].getD j14 0) ([3, 3, 2, 6].getD j14 0) fun v56 v57 =>
        impl_CountSolutions z k ([7, 13, 19, 31, 37, 43, 61].getD j9 0) [1, 1] [([3, 3, 2, 6].getD j14 0), ([3, 3, 2, 6].getD j14 0)] 1 fun v58 v59 =>
        if v57 = 0 then
         if v59 = 0 then
          if v56 = v58 then
           Φ (decide (0 < v56))
          else
           Φ false
         else
          Φ false
        else
         Φ false
end Go.Proofs.Ytlpooghphoohcaa.R
