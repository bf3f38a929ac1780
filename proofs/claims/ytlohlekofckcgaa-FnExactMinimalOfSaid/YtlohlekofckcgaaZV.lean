/- What the functions tell, printed by a program of this repo. -/
import Derived.Test.YtlohlekofckcgaaZR5
/- x -/
namespace Go.Proofs.Ytlohlekofckcgaa.R
set_option linter.unusedVariables false
def laws_szInt64S {A : Type} (z : A) : Nat → List Int → Int → (Int → A) → A := step (fun _ _ _ => z) fun k a0 a1 Φ =>
  let y1 := w64 (a1 - (a0.length : Int))
  if y1 < 0 then
   Φ (-1)
  else
   Φ y1
def laws_szCyclo {A : Type} (z : A) : Nat → Int → List Int → Int → (Int → A) → A := step (fun _ _ _ _ => z) fun k a0 a1 a2 Φ =>
  laws_szInt64S z k a1 a2 fun v1 =>
  if v1 < 0 then
   Φ (-1)
  else
   Φ v1
def laws_toInt64S.g4 {A : Type} (z : A) : Nat → List Int → Int → List Int → (List Int → A) → A
 | 0, _, _, _, _ => z
 | k + 1, x0, x1, x2, K0 =>
  if x1 < (x0.length : Int) then
   inI z x1 (x0.length) fun j2 =>
   inI z x1 (x2.length) fun j3 =>
   laws_toInt64S.g4 z k x0 (w64 (x1 + 1)) (x2.set j3 (x0.getD j2 0)) K0
  else
   K0 x2
def laws_toInt64S {A : Type} (z : A) : Nat → List Int → (List Int → A) → A := step (fun _ _ => z) fun k a0 Φ =>
  mkI z 8 (a0.length : Int) fun m1 =>
  laws_toInt64S.g4 z k a0 0 (List.replicate m1 (0 : Int)) Φ
def laws_toCyclo {A : Type} (z : A) : Nat → Int → List Int → (Int → List Int → A) → A := step (fun _ _ _ => z) fun k a0 a1 Φ =>
  laws_toInt64S z k a1 fun v1 =>
  Φ a0 v1
def spec_l01In {A : Type} (z : A) : Nat → Int → Int → Int → (Bool → A) → A := step (fun _ _ _ _ => z) fun k a0 a1 a2 Φ =>
  if a1 ≤ a0 then
   Φ (decide (a0 ≤ a2))
  else
   Φ false
def spec_l01Gcd.g2 {A : Type} (z : A) : Nat → Int → Int → (Int → A) → A
 | 0, _, _, _ => z
 | k + 1, x0, x1, K0 =>
  if x1 ≠ 0 then
   gd z (x1 ≠ 0) <|
   spec_l01Gcd.g2 z k x1 (x0.tmod x1) K0
  else
   K0 x0
def spec_l01Gcd {A : Type} (z : A) : Nat → Int → Int → (Int → A) → A := step (fun _ _ _ => z) fun k a0 a1 Φ =>
  spec_l01Gcd.g2 z k a0 a1 (fun v1 =>
   Φ (maxI v1 (w64 (0 - v1))))
def spec_l01Phi.g4 {A : Type} (z : A) : Nat → Int → Int → Int → (Int → A) → A
 | 0, _, _, _, _ => z
 | k + 1, x0, x1, x2, K0 =>
  if x2 ≤ x0 then
   spec_l01Gcd z k x2 x0 fun v1 =>
   if v1 = 1 then
    spec_l01Phi.g4 z k x0 (w64 (x1 + 1)) (w64 (x2 + 1)) K0
   else
    spec_l01Phi.g4 z k x0 x1 (w64 (x2 + 1)) K0
  else
   K0 x1
def spec_l01Phi {A : Type} (z : A) : Nat → Int → (Int → A) → A := step (fun _ _ => z) fun k a0 Φ =>
  spec_l01Phi.g4 z k a0 0 1 Φ
def spec_l01Fits.g3 {A : Type} (z : A) : Nat → Int → List Int → (Bool → A) → A → A
 | 0, _, _, _, _ => z
 | k + 1, x0, x2, K0, K1 =>
  if x0 < (x2.length : Int) then
   inI z x0 (x2.length) fun j1 =>
   spec_l01In z k (x2.getD j1 0) (-1000000000) 1000000000 fun v2 =>
   bif !v2 then
    K0 false
   else
    spec_l01Fits.g3 z k (w64 (x0 + 1)) x2 K0 K1
  else
   K1
def spec_l01Fits {A : Type} (z : A) : Nat → Int → List Int → (Bool → A) → A := step (fun _ _ _ => z) fun k a0 a1 Φ =>
  spec_l01Fits.g3 z k 0 a1 Φ (Φ true)
def spec_l01Is {A : Type} (z : A) : Nat → Int → List Int → (Bool → A) → A := step (fun _ _ _ => z) fun k a0 a1 Φ =>
  spec_l01In z k a0 1 16 fun v1 =>
  bif v1 then
   spec_l01Phi z k a0 fun v2 =>
   if (a1.length : Int) = v2 then
    spec_l01Fits z k a0 a1 Φ
   else
    Φ false
  else
   Φ false
def spec_l01Own {A : Type} (z : A) : Nat → List Int → (List Int → A) → A := step (fun _ _ => z) fun k a0 Φ =>
  apI z (0 + (a0.length)) 8 <|
  Φ ([] ++ a0)
def spec_l01Quotient.g11 {A : Type} (z : A) : Nat → List Int → Int → Int → List Int → List Int → (List Int → A) → A
 | 0, _, _, _, _, _, _ => z
 | k + 1, x0, x1, x2, x3, x4, K0 =>
  if x2 < (x0.length : Int) then
   inI z (w64 (x1 + x2)) (x3.length) fun j5 =>
   inI z x1 (x4.length) fun j6 =>
   inI z x2 (x0.length) fun j7 =>
   inI z (w64 (x1 + x2)) (x3.length) fun j8 =>
   spec_l01Quotient.g11 z k x0 x1 (w64 (x2 + 1)) (x3.set j8 (w64 ((x3.getD j5 0) - (w64 ((x4.getD j6 0) * (x0.getD j7 0)))))) x4 K0
  else
   K0 x3
def spec_l01Quotient.g5 {A : Type} (z : A) : Nat → List Int → Int → List Int → List Int → (List Int → A) → A
 | 0, _, _, _, _, _ => z
 | k + 1, x0, x1, x2, x3, K0 =>
  if 0 ≤ x1 then
   inI z (w64 ((w64 (x1 + (x0.length : Int))) - 1)) (x2.length) fun j3 =>
   inI z x1 (x3.length) fun j4 =>
   spec_l01Quotient.g11 z k x0 x1 0 x2 (x3.set j4 (x2.getD j3 0)) (fun v9 =>
    spec_l01Quotient.g5 z k x0 (w64 (x1 - 1)) v9 (x3.set j4 (x2.getD j3 0)) K0)
  else
   K0 x3
def spec_l01Quotient {A : Type} (z : A) : Nat → List Int → List Int → (List Int → A) → A := step (fun _ _ _ => z) fun k a0 a1 Φ =>
  spec_l01Own z k a0 fun v1 =>
  let y1 := w64 ((a0.length : Int) - (a1.length : Int))
  mkI z 8 (w64 (y1 + 1)) fun m2 =>
  spec_l01Quotient.g5 z k a1 y1 v1 (List.replicate m2 (0 : Int)) Φ
mutual
def spec_l01Cyclotomic.g6 {A : Type} (z : A) : Nat → Int → Int → List Int → (List Int → A) → A
 | 0, _, _, _, _ => z
 | k + 1, x0, x1, x2, K0 =>
  if x1 < x0 then
   gd z (x1 ≠ 0) <|
   if (x0.tmod x1) = 0 then
    spec_l01Cyclotomic z k x1 fun v4 =>
    spec_l01Quotient z k x2 v4 fun v5 =>
    spec_l01Cyclotomic.g6 z k x0 (w64 (x1 + 1)) v5 K0
   else
    spec_l01Cyclotomic.g6 z k x0 (w64 (x1 + 1)) x2 K0
  else
   K0 x2
def spec_l01Cyclotomic {A : Type} (z : A) : Nat → Int → (List Int → A) → A
 | 0, _, _ => z
 | k + 1, a0, Φ =>
  mkI z 8 (w64 (a0 + 1)) fun m1 =>
  inI z 0 ((List.replicate m1 (0 : Int)).length) fun j2 =>
  inI z a0 (((List.replicate m1 (0 : Int)).set j2 (-1)).length) fun j3 =>
  spec_l01Cyclotomic.g6 z k a0 1 (((List.replicate m1 (0 : Int)).set j2 (-1)).set j3 1) Φ
end
def spec_l01Zero {A : Type} (z : A) : Nat → Int → (Int → List Int → A) → A := step (fun _ _ => z) fun k a0 Φ =>
  spec_l01Phi z k a0 fun v1 =>
  mkI z 8 v1 fun m2 =>
  Φ a0 (List.replicate m2 (0 : Int))
def spec_l01Reduce.g11 {A : Type} (z : A) : Nat → Int → Int → Int → Int → List Int → List Int → (List Int → A) → A
 | 0, _, _, _, _, _, _, _ => z
 | k + 1, x1, x2, x3, x4, x6, x7, K0 =>
  if x4 ≤ x1 then
   inI z (w64 ((w64 (x2 - x1)) + x4)) (x7.length) fun j4 =>
   inI z x4 (x6.length) fun j5 =>
   inI z (w64 ((w64 (x2 - x1)) + x4)) (x7.length) fun j6 =>
   spec_l01Reduce.g11 z k x1 x2 x3 (w64 (x4 + 1)) x6 (x7.set j6 (w64 ((x7.getD j4 0) - (w64 (x3 * (x6.getD j5 0)))))) K0
  else
   K0 x7
def spec_l01Reduce.g5 {A : Type} (z : A) : Nat → Int → Int → List Int → List Int → (List Int → A) → A
 | 0, _, _, _, _, _ => z
 | k + 1, x1, x2, x4, x5, K0 =>
  if x1 ≤ x2 then
   inI z x2 (x5.length) fun j3 =>
   spec_l01Reduce.g11 z k x1 x2 (x5.getD j3 0) 0 x4 x5 (fun v7 =>
    spec_l01Reduce.g5 z k x1 (w64 (x2 - 1)) x4 v7 K0)
  else
   K0 x5
def spec_l01Reduce.g18 {A : Type} (z : A) : Nat → Int → Int → List Int → List Int → (List Int → A) → A
 | 0, _, _, _, _, _ => z
 | k + 1, x0, x1, x3, x6, K0 =>
  if x1 < x0 then
   if x1 < (x3.length : Int) then
    inI z x1 (x3.length) fun j11 =>
    inI z x1 (x6.length) fun j12 =>
    spec_l01Reduce.g18 z k x0 (w64 (x1 + 1)) x3 (x6.set j12 (x3.getD j11 0)) K0
   else
    K0 x6
  else
   K0 x6
def spec_l01Reduce {A : Type} (z : A) : Nat → Int → List Int → (Int → List Int → A) → A := step (fun _ _ _ => z) fun k a0 a1 Φ =>
  spec_l01Cyclotomic z k a0 fun v1 =>
  spec_l01Own z k a1 fun v2 =>
  let y1 := w64 ((v1.length : Int) - 1)
  spec_l01Reduce.g5 z k y1 (w64 ((v2.length : Int) - 1)) v1 v2 (fun v8 =>
   spec_l01Zero z k a0 fun v9 v10 =>
   spec_l01Reduce.g18 z k y1 0 v8 v10 (fun v13 =>
    Φ v9 v13))
def spec_l01Galois.g5 {A : Type} (z : A) : Nat → Int → Int → Int → List Int → List Int → (List Int → A) → A
 | 0, _, _, _, _, _, _ => z
 | k + 1, x0, x1, x2, x4, x6, K0 =>
  if x2 < (x4.length : Int) then
   gd z (x1 ≠ 0) <|
   let y1 := (w64 (x2 * x0)).tmod x1
   let y2 := w64 (y1 + x1)
   gd z (x1 ≠ 0) <|
   let y3 := y2.tmod x1
   inI z y3 (x6.length) fun j2 =>
   inI z x2 (x4.length) fun j3 =>
   inI z y3 (x6.length) fun j4 =>
   spec_l01Galois.g5 z k x0 x1 (w64 (x2 + 1)) x4 (x6.set j4 (w64 ((x6.getD j2 0) + (x4.getD j3 0)))) K0
  else
   K0 x6
def spec_l01Galois {A : Type} (z : A) : Nat → Int → List Int → Int → (Int → List Int → A) → A := step (fun _ _ _ _ => z) fun k a0 a1 a2 Φ =>
  mkI z 8 a0 fun m1 =>
  spec_l01Galois.g5 z k a2 a0 0 a1 (List.replicate m1 (0 : Int)) (fun v5 =>
   spec_l01Reduce z k a0 v5 Φ)
def spec_l02Images.g4 {A : Type} (z : A) : Nat → Int → Int → List Int → List (Int × List Int) → List Int → (List (Int × List Int) → List Int → A) → A
 | 0, _, _, _, _, _, _ => z
 | k + 1, x0, x1, x2, x3, x4, K0 =>
  if x0 ≤ x1 then
   spec_l01Gcd z k x0 x1 fun v1 =>
   if v1 = 1 then
    spec_l01Galois z k x1 x2 x0 fun v2 v3 =>
    apI z ((x3.length) + 1) 32 <|
    apI z ((x4.length) + 1) 8 <|
    spec_l02Images.g4 z k (w64 (x0 + 1)) x1 x2 (x3 ++ [(v2, v3)]) (x4 ++ [x0]) K0
   else
    spec_l02Images.g4 z k (w64 (x0 + 1)) x1 x2 x3 x4 K0
  else
   K0 x3 x4
def spec_l02Images {A : Type} (z : A) : Nat → Int → List Int → (List (Int × List Int) → List Int → A) → A := step (fun _ _ _ => z) fun k a0 a1 Φ =>
  spec_l02Images.g4 z k 1 a0 a1 [] [] Φ
def spec_l01Unit {A : Type} (z : A) : Nat → Int → Int → (Int → List Int → A) → A := step (fun _ _ _ => z) fun k a0 a1 Φ =>
  gd z (a0 ≠ 0) <|
  let y1 := w64 ((a1.tmod a0) + a0)
  gd z (a0 ≠ 0) <|
  let y2 := y1.tmod a0
  mkI z 8 (w64 (y2 + 1)) fun m1 =>
  inI z y2 ((List.replicate m1 (0 : Int)).length) fun j2 =>
  spec_l01Reduce z k a0 ((List.replicate m1 (0 : Int)).set j2 1) Φ
def spec_l01One {A : Type} (z : A) : Nat → Int → (Int → List Int → A) → A := step (fun _ _ => z) fun k a0 Φ =>
  spec_l01Unit z k a0 0 Φ
def spec_l01Same.g6 {A : Type} (z : A) : Nat → Int → List Int → List Int → (Bool → A) → A → A
 | 0, _, _, _, _, _ => z
 | k + 1, x0, x2, x4, K0, K1 =>
  if x0 < (x2.length : Int) then
   inI z x0 (x2.length) fun j1 =>
   inI z x0 (x4.length) fun j2 =>
   if (x2.getD j1 0) ≠ (x4.getD j2 0) then
    K0 false
   else
    spec_l01Same.g6 z k (w64 (x0 + 1)) x2 x4 K0 K1
  else
   K1
def spec_l01Same {A : Type} (z : A) : Nat → Int → List Int → Int → List Int → (Bool → A) → A := step (fun _ _ _ _ _ => z) fun k a0 a1 a2 a3 Φ =>
  if a0 ≠ a2 then
   Φ false
  else if (a1.length : Int) ≠ (a3.length : Int) then
   Φ false
  else
   spec_l01Same.g6 z k 0 a1 a3 Φ (Φ true)
def spec_l01Product.g9 {A : Type} (z : A) : Nat → List Int → Int → Int → List Int → List Int → (List Int → A) → A
 | 0, _, _, _, _, _, _ => z
 | k + 1, x0, x1, x2, x4, x6, K0 =>
  if x2 < (x0.length : Int) then
   inI z (w64 (x1 + x2)) (x6.length) fun j2 =>
   inI z x1 (x4.length) fun j3 =>
   inI z x2 (x0.length) fun j4 =>
   inI z (w64 (x1 + x2)) (x6.length) fun j5 =>
   spec_l01Product.g9 z k x0 x1 (w64 (x2 + 1)) x4 (x6.set j5 (w64 ((x6.getD j2 0) + (w64 ((x4.getD j3 0) * (x0.getD j4 0)))))) K0
  else
   K0 x6
def spec_l01Product.g4 {A : Type} (z : A) : Nat → List Int → Int → List Int → List Int → (List Int → A) → A
 | 0, _, _, _, _, _ => z
 | k + 1, x0, x1, x3, x5, K0 =>
  if x1 < (x3.length : Int) then
   spec_l01Product.g9 z k x0 x1 0 x3 x5 (fun v6 =>
    spec_l01Product.g4 z k x0 (w64 (x1 + 1)) x3 v6 K0)
  else
   K0 x5
def spec_l01Product {A : Type} (z : A) : Nat → Int → List Int → List Int → (Int → List Int → A) → A := step (fun _ _ _ _ => z) fun k a0 a1 a2 Φ =>
  mkI z 8 (w64 ((w64 ((a1.length : Int) + (a2.length : Int))) - 1)) fun m1 =>
  spec_l01Product.g4 z k a2 0 a1 (List.replicate m1 (0 : Int)) (fun v7 =>
   spec_l01Reduce z k a0 v7 Φ)
def spec_l01Times.g4 {A : Type} (z : A) : Nat → Int → List Int → List Int → List Int → (List Int → List Int → A) → A
 | 0, _, _, _, _, _ => z
 | k + 1, x0, x4, x6, x7, K0 =>
  if x0 < (x4.length : Int) then
   inI z x0 (x4.length) fun j1 =>
   apI z ((x6.length) + 1) 8 <|
   inI z x0 (x4.length) fun j2 =>
   apI z ((x7.length) + 1) 8 <|
   spec_l01Times.g4 z k (w64 (x0 + 1)) x4 (x6 ++ [((x4.getD j1 0).tmod 100000)]) (x7 ++ [(w64 ((x4.getD j2 0).tdiv 100000))]) K0
  else
   K0 x6 x7
def spec_l01Times.g13 {A : Type} (z : A) : Nat → Int → List Int → List Int → List Int → (Bool → List Int → A) → (List Int → A) → A
 | 0, _, _, _, _, _, _ => z
 | k + 1, x0, x6, x7, x8, K0, K1 =>
  if x0 < (x8.length : Int) then
   inI z x0 (x7.length) fun j11 =>
   spec_l01In z k (x7.getD j11 0) (-10000000000000) 10000000000000 fun v12 =>
   bif !v12 then
    K0 false x8
   else
    inI z x0 (x7.length) fun j13 =>
    inI z x0 (x6.length) fun j14 =>
    inI z x0 (x8.length) fun j15 =>
    spec_l01Times.g13 z k (w64 (x0 + 1)) x6 x7 (x8.set j15 (w64 ((w64 ((x7.getD j13 0) * 100000)) + (x6.getD j14 0)))) K0 K1
  else
   K1 x8
def spec_l01Times {A : Type} (z : A) : Nat → Int → List Int → Int → List Int → (Int → List Int → Bool → A) → A := step (fun _ _ _ _ _ => z) fun k a0 a1 a2 a3 Φ =>
  spec_l01Times.g4 z k 0 a3 [] [] (fun v3 v4 =>
   spec_l01Product z k a0 a1 v3 fun v5 v6 =>
   spec_l01Product z k a0 a1 v4 fun v7 v8 =>
   spec_l01Zero z k a0 fun v9 v10 =>
   spec_l01Times.g13 z k 0 v6 v8 v10 (fun v16 v17 =>
    Φ v9 v17 v16) (fun v18 =>
    spec_l01Fits z k v9 v18 fun v19 =>
    Φ v9 v18 v19))
def spec_l01Plus.g4 {A : Type} (z : A) : Nat → Int → Int → List Int → List Int → (List Int → A) → A
 | 0, _, _, _, _, _ => z
 | k + 1, x0, x1, x3, x7, K0 =>
  if x1 < (x3.length : Int) then
   inI z x1 (x7.length) fun j2 =>
   inI z x1 (x3.length) fun j3 =>
   inI z x1 (x7.length) fun j4 =>
   spec_l01Plus.g4 z k x0 (w64 (x1 + 1)) x3 (x7.set j4 (w64 ((x7.getD j2 0) + (w64 (x0 * (x3.getD j3 0)))))) K0
  else
   K0 x7
def spec_l01Plus {A : Type} (z : A) : Nat → Int → List Int → Int → List Int → Int → (Int → List Int → A) → A := step (fun _ _ _ _ _ _ => z) fun k a0 a1 a2 a3 a4 Φ =>
  spec_l01Own z k a1 fun v1 =>
  spec_l01Plus.g4 z k a4 0 a3 v1 (fun v5 =>
   Φ a0 v5)
def spec_l02Polynomial.g12 {A : Type} (z : A) : Nat → Int → Bool → Int → List (Int × List Int) → (Bool → A) → A
 | 0, _, _, _, _, _ => z
 | k + 1, x1, x2, x3, x6, K0 =>
  if x3 < x1 then
   bif x2 then
    spec_l02Polynomial.g12 z k x1 true (w64 (x3 + 1)) x6 K0
   else
    inI z x3 (x6.length) fun j5 =>
    inI z x1 (x6.length) fun j6 =>
    spec_l01Same z k ((x6.getD j5 (0, [])).1) ((x6.getD j5 (0, [])).2) ((x6.getD j6 (0, [])).1) ((x6.getD j6 (0, [])).2) fun v7 =>
    spec_l02Polynomial.g12 z k x1 v7 (w64 (x3 + 1)) x6 K0
  else
   K0 x2
mutual
def spec_l02Polynomial.g26 {A : Type} (z : A) : Nat → Bool → Int → Int → Int → List Int → List (Int × List Int) → List (Int × List Int) → List (Int × List Int) → Int → List Int → (Bool → List Int → A) → (Bool → Int → Int → Int → List Int → List (Int × List Int) → List (Int × List Int) → List (Int × List Int) → A) → A
 | 0, _, _, _, _, _, _, _, _, _, _, _, _ => z
 | k + 1, x0, x1, x2, x3, x4, x5, x6, x7, x8, x9, K0, K1 =>
  if x2 < (x6.length : Int) then
   inI z x1 (x5.length) fun j12 =>
   inI z x2 (x6.length) fun j13 =>
   spec_l01Times z k ((x5.getD j12 (0, [])).1) ((x5.getD j12 (0, [])).2) ((x6.getD j13 (0, [])).1) ((x6.getD j13 (0, [])).2) fun v14 v15 v16 =>
   bif !v16 then
    K0 false []
   else
    spec_l01Plus z k x8 x9 v14 v15 (-1) fun v17 v18 =>
    spec_l01Fits z k v17 v18 fun v19 =>
    bif !v19 then
     K0 false []
    else
     apI z ((x7.length) + 1) 32 <|
     K1 x0 x1 x2 x3 x4 x5 x6 (x7 ++ [(v17, v18)])
  else
   spec_l01Fits z k x8 x9 fun v20 =>
   bif !v20 then
    K0 false []
   else
    apI z ((x7.length) + 1) 32 <|
    K1 x0 x1 x2 x3 x4 x5 x6 (x7 ++ [(x8, x9)])
def spec_l02Polynomial.g26_1 {A : Type} (z : A) : Nat → Bool → Int → Int → Int → List Int → List (Int × List Int) → List (Int × List Int) → List (Int × List Int) → Int → List Int → (Bool → List Int → A) → (Bool → Int → Int → Int → List Int → List (Int × List Int) → List (Int × List Int) → List (Int × List Int) → A) → A
 | 0, _, _, _, _, _, _, _, _, _, _, _, _ => z
 | k + 1, x0, x1, x2, x3, x4, x5, x6, x7, x8, x9, K0, K1 =>
  if x2 < (x6.length : Int) then
   inI z x1 (x5.length) fun j31 =>
   inI z x2 (x6.length) fun j32 =>
   spec_l01Times z k ((x5.getD j31 (0, [])).1) ((x5.getD j31 (0, [])).2) ((x6.getD j32 (0, [])).1) ((x6.getD j32 (0, [])).2) fun v33 v34 v35 =>
   bif !v35 then
    K0 false []
   else
    spec_l01Plus z k x8 x9 v33 v34 (-1) fun v36 v37 =>
    spec_l01Fits z k v36 v37 fun v38 =>
    bif !v38 then
     K0 false []
    else
     apI z ((x7.length) + 1) 32 <|
     K1 x0 x1 x2 x3 x4 x5 x6 (x7 ++ [(v36, v37)])
  else
   spec_l01Fits z k x8 x9 fun v39 =>
   bif !v39 then
    K0 false []
   else
    apI z ((x7.length) + 1) 32 <|
    K1 x0 x1 x2 x3 x4 x5 x6 (x7 ++ [(x8, x9)])
end
def spec_l02Polynomial.g21 {A : Type} (z : A) : Nat → Bool → Int → Int → Int → List Int → List (Int × List Int) → List (Int × List Int) → List (Int × List Int) → (Bool → List Int → A) → (Bool → Int → Int → List Int → List (Int × List Int) → List (Int × List Int) → A) → A
 | 0, _, _, _, _, _, _, _, _, _, _ => z
 | k + 1, x0, x1, x2, x3, x4, x5, x6, x7, K0, K1 =>
  if x2 ≤ (x6.length : Int) then
   spec_l01Zero z k x3 fun v9 v10 =>
   if 0 < x2 then
    inI z (w64 (x2 - 1)) (x6.length) fun j11 =>
    spec_l02Polynomial.g26 z k x0 x1 x2 x3 x4 x5 x6 x7 ((x6.getD j11 (0, [])).1) ((x6.getD j11 (0, [])).2) K0 (fun v23 v24 v25 v26 v27 v28 v29 v30 =>
     spec_l02Polynomial.g21 z k v23 v24 (w64 (v25 + 1)) v26 v27 v28 v29 v30 K0 K1)
   else
    spec_l02Polynomial.g26_1 z k x0 x1 x2 x3 x4 x5 x6 x7 v9 v10 K0 (fun v42 v43 v44 v45 v46 v47 v48 v49 =>
     spec_l02Polynomial.g21 z k v42 v43 (w64 (v44 + 1)) v45 v46 v47 v48 v49 K0 K1)
  else
   K1 x0 x1 x3 x4 x5 x7
def spec_l02Polynomial.g5 {A : Type} (z : A) : Nat → Bool → Int → Int → List Int → List (Int × List Int) → List (Int × List Int) → (Bool → List Int → A) → (List (Int × List Int) → A) → A
 | 0, _, _, _, _, _, _, _, _ => z
 | k + 1, x0, x1, x2, x3, x4, x5, K0, K1 =>
  if x1 < (x4.length : Int) then
   spec_l02Polynomial.g12 z k x1 false 0 x4 (fun v8 =>
    bif v8 then
     bif x0 then
      spec_l02Polynomial.g5 z k x0 (w64 (x1 + 1)) x2 x3 x4 x5 K0 K1
     else
      spec_l02Polynomial.g21 z k x0 x1 0 x2 x3 x4 x5 [] K0 (fun v52 v53 v54 v55 v56 v57 =>
       spec_l02Polynomial.g5 z k v52 (w64 (v53 + 1)) v54 v55 v56 v57 K0 K1)
    else
     spec_l02Polynomial.g21 z k x0 x1 0 x2 x3 x4 x5 [] K0 (fun v60 v61 v62 v63 v64 v65 =>
      spec_l02Polynomial.g5 z k v60 (w64 (v61 + 1)) v62 v63 v64 v65 K0 K1))
  else
   K1 x5
def spec_l02Polynomial.g40 {A : Type} (z : A) : Nat → Int → List (Int × List Int) → List Int → (List Int → A) → A
 | 0, _, _, _, _ => z
 | k + 1, x0, x1, x2, K0 =>
  if x0 < (x1.length : Int) then
   inI z x0 (x1.length) fun j69 =>
   inI z 0 (((x1.getD j69 (0, [])).2).length) fun j70 =>
   apI z ((x2.length) + 1) 8 <|
   spec_l02Polynomial.g40 z k (w64 (x0 + 1)) x1 (x2 ++ [(((x1.getD j69 (0, [])).2).getD j70 0)]) K0
  else
   K0 x2
def spec_l02Polynomial {A : Type} (z : A) : Nat → Int → List Int → Bool → (List Int → Bool → A) → A := step (fun _ _ _ _ => z) fun k a0 a1 a2 Φ =>
  spec_l02Images z k a0 a1 fun v1 v2 =>
  spec_l01One z k a0 fun v3 v4 =>
  spec_l02Polynomial.g5 z k a2 0 a0 a1 v1 [(v3, v4)] (fun v66 v67 =>
   Φ v67 v66) (fun v68 =>
   spec_l02Polynomial.g40 z k 0 v68 [] (fun v71 =>
    Φ v71 true))
def spec_MinimalOf {A : Type} (z : A) : Nat → Int → List Int → (List Int → Int → A) → A := step (fun _ _ _ => z) fun k a0 a1 Φ =>
  spec_l01Is z k a0 a1 fun v1 =>
  bif !v1 then
   Φ [] 1
  else
   spec_l02Polynomial z k a0 a1 true fun v2 v3 =>
   bif !v3 then
    Φ [] 3
   else
    Φ v2 0
def impl_within {A : Type} (z : A) : Nat → Int → Int → Int → (Bool → A) → A := step (fun _ _ _ _ => z) fun k a0 a1 a2 Φ =>
  if a1 ≤ a0 then
   Φ (decide (a0 ≤ a2))
  else
   Φ false
def impl_isOrder {A : Type} (z : A) : Nat → Int → (Bool → A) → A := step (fun _ _ => z) fun k a0 Φ =>
  impl_within z k a0 1 16 Φ
def impl_size {A : Type} (z : A) : Nat → Int → (Int → A) → A := step (fun _ _ => z) fun k a0 Φ =>
  Φ (maxI a0 (w64 (0 - a0)))
def impl_gcd.g3 {A : Type} (z : A) : Nat → Int → Int → (Int → A) → A
 | 0, _, _, _ => z
 | k + 1, x0, x1, K0 =>
  if 0 < x1 then
   gd z (x1 ≠ 0) <|
   impl_gcd.g3 z k x1 (x0.tmod x1) K0
  else
   K0 x0
def impl_gcd {A : Type} (z : A) : Nat → Int → Int → (Int → A) → A := step (fun _ _ _ => z) fun k a0 a1 Φ =>
  impl_size z k a0 fun v1 =>
  impl_size z k a1 fun v2 =>
  impl_gcd.g3 z k v1 v2 Φ
def impl_totient.g4 {A : Type} (z : A) : Nat → Int → Int → Int → (Int → A) → A
 | 0, _, _, _, _ => z
 | k + 1, x0, x1, x2, K0 =>
  if x2 ≤ x0 then
   impl_gcd z k x2 x0 fun v1 =>
   if v1 = 1 then
    impl_totient.g4 z k x0 (w64 (x1 + 1)) (w64 (x2 + 1)) K0
   else
    impl_totient.g4 z k x0 x1 (w64 (x2 + 1)) K0
  else
   K0 x1
def impl_totient {A : Type} (z : A) : Nat → Int → (Int → A) → A := step (fun _ _ => z) fun k a0 Φ =>
  impl_totient.g4 z k a0 0 1 Φ
def impl_areSmall_1 {A : Type} (z : A) : Nat → Int → Int → (Bool → A) → A := step (fun _ _ _ => z) fun k a0 a1 Φ =>
  impl_within z k a0 (w64 (0 - a1)) a1 fun v1 =>
  Φ (!v1)
def slices_IndexFunc_Sint64_int64_c64.g3 {A : Type} (z : A) : Nat → List Int → Int → Int → Int → (Int → A) → A → A
 | 0, _, _, _, _, _, _ => z
 | k + 1, x0, x1, x2, x3, K0, K1 =>
  if x3 < x2 then
   inI z x3 (x0.length) fun j1 =>
   impl_areSmall_1 z k (x0.getD j1 0) x1 fun v2 =>
   bif v2 then
    K0 x3
   else
    slices_IndexFunc_Sint64_int64_c64.g3 z k x0 x1 x2 (w64 (x3 + 1)) K0 K1
  else
   K1
def slices_IndexFunc_Sint64_int64_c64 {A : Type} (z : A) : Nat → List Int → Int → (Int → A) → A := step (fun _ _ _ => z) fun k a0 a1 Φ =>
  slices_IndexFunc_Sint64_int64_c64.g3 z k a0 a1 (a0.length : Int) 0 Φ (Φ (-1))
def slices_ContainsFunc_Sint64_int64_c64 {A : Type} (z : A) : Nat → List Int → Int → (Bool → A) → A := step (fun _ _ _ => z) fun k a0 a1 Φ =>
  slices_IndexFunc_Sint64_int64_c64 z k a0 a1 fun v1 =>
  Φ (decide (0 ≤ v1))
def impl_areSmall {A : Type} (z : A) : Nat → List Int → Int → (Bool → A) → A := step (fun _ _ _ => z) fun k a0 a1 Φ =>
  slices_ContainsFunc_Sint64_int64_c64 z k a0 a1 fun v1 =>
  Φ (!v1)
def impl_IsCyclo {A : Type} (z : A) : Nat → Int → List Int → (Bool → A) → A := step (fun _ _ _ => z) fun k a0 a1 Φ =>
  impl_isOrder z k a0 fun v1 =>
  bif v1 then
   impl_totient z k a0 fun v2 =>
   if (a1.length : Int) = v2 then
    impl_areSmall z k a1 1000000000 Φ
   else
    Φ false
  else
   Φ false
def slices_Clone_Sint64_int64 {A : Type} (z : A) : Nat → List Int → (List Int → A) → A := step (fun _ _ => z) fun _ a0 Φ =>
  apI z a0.length 8 <| Φ a0
def impl_quotient.g11 {A : Type} (z : A) : Nat → Int → List Int → Int → Int → List Int → List Int → (List Int → A) → A
 | 0, _, _, _, _, _, _, _ => z
 | k + 1, x1, x2, x3, x4, x5, x6, K0 =>
  if x4 < x3 then
   inI z x4 (x2.length) fun j5 =>
   inI z (w64 (x1 + x4)) (x5.length) fun j6 =>
   inI z x1 (x6.length) fun j7 =>
   inI z (w64 (x1 + x4)) (x5.length) fun j8 =>
   impl_quotient.g11 z k x1 x2 x3 (w64 (x4 + 1)) (x5.set j8 (w64 ((x5.getD j6 0) - (w64 ((x6.getD j7 0) * (x2.getD j5 0)))))) x6 K0
  else
   K0 x5
def impl_quotient.g5 {A : Type} (z : A) : Nat → List Int → Int → List Int → List Int → (List Int → A) → A
 | 0, _, _, _, _, _ => z
 | k + 1, x0, x1, x2, x3, K0 =>
  if 0 ≤ x1 then
   inI z (w64 ((w64 (x1 + (x0.length : Int))) - 1)) (x2.length) fun j3 =>
   inI z x1 (x3.length) fun j4 =>
   impl_quotient.g11 z k x1 x0 (x0.length : Int) 0 x2 (x3.set j4 (x2.getD j3 0)) (fun v9 =>
    impl_quotient.g5 z k x0 (w64 (x1 - 1)) v9 (x3.set j4 (x2.getD j3 0)) K0)
  else
   K0 x3
def impl_quotient {A : Type} (z : A) : Nat → List Int → List Int → (List Int → A) → A := step (fun _ _ _ => z) fun k a0 a1 Φ =>
  slices_Clone_Sint64_int64 z k a0 fun v1 =>
  mkI z 8 (w64 ((w64 ((v1.length : Int) - (a1.length : Int))) + 1)) fun m2 =>
  impl_quotient.g5 z k a1 (w64 (((List.replicate m2 (0 : Int)).length : Int) - 1)) v1 (List.replicate m2 (0 : Int)) Φ
mutual
def impl_cyclotomic.g5 {A : Type} (z : A) : Nat → Int → Int → List Int → (List Int → A) → A
 | 0, _, _, _, _ => z
 | k + 1, x0, x1, x2, K0 =>
  if x1 < x0 then
   gd z (x1 ≠ 0) <|
   if (x0.tmod x1) = 0 then
    impl_cyclotomic z k x1 fun v4 =>
    impl_quotient z k x2 v4 fun v5 =>
    impl_cyclotomic.g5 z k x0 (w64 (x1 + 1)) v5 K0
   else
    impl_cyclotomic.g5 z k x0 (w64 (x1 + 1)) x2 K0
  else
   K0 x2
def impl_cyclotomic {A : Type} (z : A) : Nat → Int → (List Int → A) → A
 | 0, _, _ => z
 | k + 1, a0, Φ =>
  mkI z 8 (w64 (a0 + 1)) fun m1 =>
  inI z 0 ((List.replicate m1 (0 : Int)).length) fun j2 =>
  inI z a0 (((List.replicate m1 (0 : Int)).set j2 (-1)).length) fun j3 =>
  impl_cyclotomic.g5 z k a0 1 (((List.replicate m1 (0 : Int)).set j2 (-1)).set j3 1) Φ
end
def impl_powers.g20 {A : Type} (z : A) : Nat → Int → Int → Int → List Int → List Int → (List Int → A) → A
 | 0, _, _, _, _, _, _ => z
 | k + 1, x1, x4, x5, x6, x7, K0 =>
  if x5 < x4 then
   inI z x5 (x7.length) fun j9 =>
   inI z x5 (x6.length) fun j10 =>
   inI z x5 (x7.length) fun j11 =>
   impl_powers.g20 z k x1 x4 (w64 (x5 + 1)) x6 (x7.set j11 (w64 ((x7.getD j9 0) - (w64 (x1 * (x6.getD j10 0)))))) K0
  else
   K0 x7
def impl_powers.g11 {A : Type} (z : A) : Nat → Int → Int → Int → List Int → List Int → List (List Int) → (List (List Int) → A) → A
 | 0, _, _, _, _, _, _, _ => z
 | k + 1, x0, x1, x2, x3, x4, x5, K0 =>
  if x2 < x1 then
   slices_Clone_Sint64_int64 z k x4 fun v4 =>
   apI z ((x5.length) + 1) 24 <|
   inI z (w64 (x0 - 1)) (x4.length) fun j5 =>
   toI z 1 (x4.length) fun j6 =>
   toI z (w64 (x0 - 1)) (x4.length) fun j7 =>
   inI z 0 ((x4.take j6 ++ ((x4.drop 0).take j7).take ((x4.length) - j6) ++ x4.drop (j6 + (min (((x4.drop 0).take j7).length) ((x4.length) - j6)))).length) fun j8 =>
   impl_powers.g20 z k (x4.getD j5 0) (((x4.take j6 ++ ((x4.drop 0).take j7).take ((x4.length) - j6) ++ x4.drop (j6 + (min (((x4.drop 0).take j7).length) ((x4.length) - j6)))).set j8 0).length : Int) 0 x3 ((x4.take j6 ++ ((x4.drop 0).take j7).take ((x4.length) - j6) ++ x4.drop (j6 + (min (((x4.drop 0).take j7).length) ((x4.length) - j6)))).set j8 0) (fun v12 =>
    impl_powers.g11 z k x0 x1 (w64 (x2 + 1)) x3 v12 (x5 ++ [v4]) K0)
  else
   K0 x5
def impl_powers {A : Type} (z : A) : Nat → Int → (List (List Int) → A) → A := step (fun _ _ => z) fun k a0 Φ =>
  impl_cyclotomic z k a0 fun v1 =>
  let y1 := w64 ((v1.length : Int) - 1)
  mkI z 8 y1 fun m2 =>
  inI z 0 ((List.replicate m2 (0 : Int)).length) fun j3 =>
  if a0 = 1 then
   Φ [((List.replicate m2 (0 : Int)).set j3 1)]
  else
   impl_powers.g11 z k y1 a0 0 v1 ((List.replicate m2 (0 : Int)).set j3 1) [] Φ
def impl_fieldOf {A : Type} (z : A) : Nat → Int → (Int → Int → List (List Int) → A) → A := step (fun _ _ => z) fun k a0 Φ =>
  impl_powers z k a0 fun v1 =>
  inI z 0 (v1.length) fun j2 =>
  Φ a0 ((v1.getD j2 []).length : Int) v1
def impl_isPrimeTo {A : Type} (z : A) : Nat → Int → Int → (Bool → A) → A := step (fun _ _ _ => z) fun k a0 a1 Φ =>
  impl_within z k a0 1 a1 fun v1 =>
  bif v1 then
   impl_gcd z k a0 a1 fun v2 =>
   Φ (decide (v2 = 1))
  else
   Φ false
def impl_unitsOf.g4 {A : Type} (z : A) : Nat → Int → Int → List Int → (List Int → A) → A
 | 0, _, _, _, _ => z
 | k + 1, x0, x1, x2, K0 =>
  if x1 ≤ x0 then
   impl_isPrimeTo z k x1 x0 fun v1 =>
   bif v1 then
    apI z ((x2.length) + 1) 8 <|
    impl_unitsOf.g4 z k x0 (w64 (x1 + 1)) (x2 ++ [x1]) K0
   else
    impl_unitsOf.g4 z k x0 (w64 (x1 + 1)) x2 K0
  else
   K0 x2
def impl_unitsOf {A : Type} (z : A) : Nat → Int → (List Int → A) → A := step (fun _ _ => z) fun k a0 Φ =>
  impl_unitsOf.g4 z k a0 1 [] Φ
def impl_field_image_1 {A : Type} (z : A) : Nat → Int → Int → (Int → A) → A := step (fun _ _ _ => z) fun k a0 a1 Φ =>
  Φ (w64 (a1 * a0))
def impl_around {A : Type} (z : A) : Nat → Int → Int → (Int → A) → A := step (fun _ _ _ => z) fun k a0 a1 Φ =>
  gd z (a1 ≠ 0) <|
  gd z (a1 ≠ 0) <|
  Φ ((w64 ((a0.tmod a1) + a1)).tmod a1)
def impl_field_with_c73.g10 {A : Type} (z : A) : Nat → Int → List Int → Int → Int → List Int → (List Int → A) → A
 | 0, _, _, _, _, _, _ => z
 | k + 1, x4, x8, x9, x10, x11, K0 =>
  if x10 < x9 then
   inI z x10 (x8.length) fun j6 =>
   inI z x10 (x11.length) fun j7 =>
   inI z x10 (x11.length) fun j8 =>
   impl_field_with_c73.g10 z k x4 x8 x9 (w64 (x10 + 1)) (x11.set j8 (w64 ((x11.getD j7 0) + (w64 (x4 * (x8.getD j6 0)))))) K0
  else
   K0 x11
def impl_field_with_c73.g4 {A : Type} (z : A) : Nat → Int → List (List Int) → Int → List Int → Int → Int → List Int → (List Int → A) → A
 | 0, _, _, _, _, _, _, _, _ => z
 | k + 1, x0, x2, x3, x4, x5, x6, x7, K0 =>
  if x6 < x5 then
   inI z x6 (x4.length) fun j2 =>
   impl_field_image_1 z k x6 x3 fun v3 =>
   impl_around z k v3 x0 fun v4 =>
   inI z v4 (x2.length) fun j5 =>
   impl_field_with_c73.g10 z k (x4.getD j2 0) (x2.getD j5 []) ((x2.getD j5 []).length : Int) 0 x7 (fun v9 =>
    impl_field_with_c73.g4 z k x0 x2 x3 x4 x5 (w64 (x6 + 1)) v9 K0)
  else
   K0 x7
def impl_field_with_c73 {A : Type} (z : A) : Nat → Int → Int → List (List Int) → List Int → Int → (List Int → A) → A := step (fun _ _ _ _ _ _ => z) fun k a0 a1 a2 a3 a4 Φ =>
  mkI z 8 a1 fun m1 =>
  impl_field_with_c73.g4 z k a0 a2 a4 a3 (a3.length : Int) 0 (List.replicate m1 (0 : Int)) Φ
def impl_field_image {A : Type} (z : A) : Nat → Int → Int → List (List Int) → List Int → Int → (List Int → A) → A := step (fun _ _ _ _ _ _ => z) fun k a0 a1 a2 a3 a4 Φ =>
  impl_field_with_c73 z k a0 a1 a2 a3 a4 Φ
def impl_field_images.g4 {A : Type} (z : A) : Nat → Int → Int → List (List Int) → List Int → Int → Int → List (List Int) → List Int → (List (List Int) → A) → A
 | 0, _, _, _, _, _, _, _, _, _ => z
 | k + 1, x0, x1, x2, x3, x4, x5, x6, x7, K0 =>
  if x5 < x4 then
   inI z x5 (x7.length) fun j2 =>
   impl_field_image z k x0 x1 x2 x3 (x7.getD j2 0) fun v3 =>
   apI z ((x6.length) + 1) 24 <|
   impl_field_images.g4 z k x0 x1 x2 x3 x4 (w64 (x5 + 1)) (x6 ++ [v3]) x7 K0
  else
   K0 x6
def impl_field_images {A : Type} (z : A) : Nat → Int → Int → List (List Int) → List Int → (List (List Int) → A) → A := step (fun _ _ _ _ _ => z) fun k a0 a1 a2 a3 Φ =>
  impl_unitsOf z k a0 fun v1 =>
  impl_field_images.g4 z k a0 a1 a2 a3 (v1.length : Int) 0 [] v1 Φ
def slices_Equal_Sint64_int64.g6 {A : Type} (z : A) : Nat → List Int → List Int → Int → Int → (Bool → A) → A → A
 | 0, _, _, _, _, _, _ => z
 | k + 1, x0, x1, x2, x3, K0, K1 =>
  if x3 < x2 then
   inI z x3 (x0.length) fun j1 =>
   inI z x3 (x1.length) fun j2 =>
   if (x0.getD j1 0) ≠ (x1.getD j2 0) then
    K0 false
   else
    slices_Equal_Sint64_int64.g6 z k x0 x1 x2 (w64 (x3 + 1)) K0 K1
  else
   K1
def slices_Equal_Sint64_int64 {A : Type} (z : A) : Nat → List Int → List Int → (Bool → A) → A := step (fun _ _ _ => z) fun k a0 a1 Φ =>
  if (a0.length : Int) ≠ (a1.length : Int) then
   Φ false
  else
   slices_Equal_Sint64_int64.g6 z k a0 a1 (a0.length : Int) 0 Φ (Φ true)
def impl_different_1 {A : Type} (z : A) : Nat → List Int → List Int → (Bool → A) → A := step (fun _ _ _ => z) fun k a0 a1 Φ =>
  slices_Equal_Sint64_int64 z k a1 a0 Φ
def slices_IndexFunc_SSint64_Sint64_c59.g3 {A : Type} (z : A) : Nat → List (List Int) → List Int → Int → Int → (Int → A) → A → A
 | 0, _, _, _, _, _, _ => z
 | k + 1, x0, x1, x2, x3, K0, K1 =>
  if x3 < x2 then
   inI z x3 (x0.length) fun j1 =>
   impl_different_1 z k (x0.getD j1 []) x1 fun v2 =>
   bif v2 then
    K0 x3
   else
    slices_IndexFunc_SSint64_Sint64_c59.g3 z k x0 x1 x2 (w64 (x3 + 1)) K0 K1
  else
   K1
def slices_IndexFunc_SSint64_Sint64_c59 {A : Type} (z : A) : Nat → List (List Int) → List Int → (Int → A) → A := step (fun _ _ _ => z) fun k a0 a1 Φ =>
  slices_IndexFunc_SSint64_Sint64_c59.g3 z k a0 a1 (a0.length : Int) 0 Φ (Φ (-1))
def slices_ContainsFunc_SSint64_Sint64_c59 {A : Type} (z : A) : Nat → List (List Int) → List Int → (Bool → A) → A := step (fun _ _ _ => z) fun k a0 a1 Φ =>
  slices_IndexFunc_SSint64_Sint64_c59 z k a0 a1 fun v1 =>
  Φ (decide (0 ≤ v1))
def impl_different.g4 {A : Type} (z : A) : Nat → List (List Int) → Int → Int → List (List Int) → (List (List Int) → A) → A
 | 0, _, _, _, _, _ => z
 | k + 1, x0, x1, x2, x3, K0 =>
  if x2 < x1 then
   inI z x2 (x0.length) fun j1 =>
   slices_ContainsFunc_SSint64_Sint64_c59 z k x3 (x0.getD j1 []) fun v2 =>
   bif !v2 then
    apI z ((x3.length) + 1) 24 <|
    impl_different.g4 z k x0 x1 (w64 (x2 + 1)) (x3 ++ [(x0.getD j1 [])]) K0
   else
    impl_different.g4 z k x0 x1 (w64 (x2 + 1)) x3 K0
  else
   K0 x3
def impl_different {A : Type} (z : A) : Nat → List (List Int) → (List (List Int) → A) → A := step (fun _ _ => z) fun k a0 Φ =>
  impl_different.g4 z k a0 (a0.length : Int) 0 [] Φ
def impl_field_whole {A : Type} (z : A) : Nat → Int → Int → List (List Int) → Int → (List Int → A) → A := step (fun _ _ _ _ _ => z) fun k a0 a1 a2 a3 Φ =>
  mkI z 8 a1 fun m1 =>
  inI z 0 ((List.replicate m1 (0 : Int)).length) fun j2 =>
  Φ ((List.replicate m1 (0 : Int)).set j2 a3)
def impl_sum_add {A : Type} (z : A) : Nat → Int → Nat → Int → Int → (Int → Nat → A) → A := step (fun _ _ _ _ _ => z) fun k a0 a1 a2 a3 Φ =>
  optN z ((FloatKind.format .f64).mul (FloatKind.nearest .f64 a2) (FloatKind.nearest .f64 a3)) fun f1 =>
  optN z ((FloatKind.format .f64).add a1 f1) fun f2 =>
  Φ (w64 (a0 + (w64 (a2 * a3)))) f2
def impl_field_product.g15 {A : Type} (z : A) : Nat → Int → Int → List Int → Int → Int → List (Int × Nat) → (List (Int × Nat) → A) → A
 | 0, _, _, _, _, _, _, _ => z
 | k + 1, x5, x6, x13, x14, x15, x16, K0 =>
  if x15 < x14 then
   inI z x15 (x13.length) fun j4 =>
   if (x13.getD j4 0) ≠ 0 then
    inI z x15 (x16.length) fun j5 =>
    impl_sum_add z k ((x16.getD j5 (0, 0)).1) ((x16.getD j5 (0, 0)).2) (w64 ((x13.getD j4 0) * x5)) x6 fun v6 v7 =>
    impl_field_product.g15 z k x5 x6 x13 x14 (w64 (x15 + 1)) (x16.set j5 (v6, v7)) K0
   else
    impl_field_product.g15 z k x5 x6 x13 x14 (w64 (x15 + 1)) x16 K0
  else
   K0 x16
def impl_field_product.g7 {A : Type} (z : A) : Nat → Int → List (List Int) → Int → Int → List Int → Int → Int → List (Int × Nat) → (List (Int × Nat) → A) → A
 | 0, _, _, _, _, _, _, _, _, _ => z
 | k + 1, x0, x2, x4, x5, x9, x10, x11, x12, K0 =>
  if x11 < x10 then
   inI z x11 (x9.length) fun j2 =>
   if x5 = 0 then
    impl_field_product.g7 z k x0 x2 x4 x5 x9 x10 (w64 (x11 + 1)) x12 K0
   else if (x9.getD j2 0) = 0 then
    impl_field_product.g7 z k x0 x2 x4 x5 x9 x10 (w64 (x11 + 1)) x12 K0
   else
    gd z (x0 ≠ 0) <|
    inI z ((w64 (x4 + x11)).tmod x0) (x2.length) fun j3 =>
    impl_field_product.g15 z k x5 (x9.getD j2 0) (x2.getD j3 []) ((x2.getD j3 []).length : Int) 0 x12 (fun v8 =>
     impl_field_product.g7 z k x0 x2 x4 x5 x9 x10 (w64 (x11 + 1)) v8 K0)
  else
   K0 x12
def impl_field_product.g1 {A : Type} (z : A) : Nat → Int → List (List Int) → List Int → List Int → Int → Int → List (Int × Nat) → (List (Int × Nat) → A) → A
 | 0, _, _, _, _, _, _, _, _ => z
 | k + 1, x0, x2, x3, x4, x5, x6, x7, K0 =>
  if x6 < x5 then
   inI z x6 (x4.length) fun j1 =>
   impl_field_product.g7 z k x0 x2 x6 (x4.getD j1 0) x3 (x3.length : Int) 0 x7 (fun v9 =>
    impl_field_product.g1 z k x0 x2 x3 x4 x5 (w64 (x6 + 1)) v9 K0)
  else
   K0 x7
def impl_field_product {A : Type} (z : A) : Nat → Int → Int → List (List Int) → List (Int × Nat) → List Int → List Int → (List (Int × Nat) → A) → A := step (fun _ _ _ _ _ _ _ => z) fun k a0 a1 a2 a3 a4 a5 Φ =>
  impl_field_product.g1 z k a0 a2 a5 a4 (a4.length : Int) 0 a3 Φ
def impl_sum_value {A : Type} (z : A) : Nat → Int → Nat → (Int → Bool → A) → A := step (fun _ _ _ => z) fun k a0 a1 Φ =>
  impl_within z k a0 (-1000000000) 1000000000 fun v1 =>
  bif v1 then
   bif (FloatKind.format .f64).order a1 4876203697187506176 == some .lt then
    Φ a0 ((FloatKind.format .f64).order a1 14099575734042281984 == some .gt)
   else
    Φ a0 false
  else
   Φ a0 false
def impl_values.g4 {A : Type} (z : A) : Nat → List (Int × Nat) → Bool → Int → Int → List Int → (Bool → List Int → A) → A
 | 0, _, _, _, _, _, _ => z
 | k + 1, x0, x1, x2, x3, x4, K0 =>
  if x3 < x2 then
   inI z x3 (x0.length) fun j1 =>
   impl_sum_value z k ((x0.getD j1 (0, 0)).1) ((x0.getD j1 (0, 0)).2) fun v2 v3 =>
   apI z ((x4.length) + 1) 8 <|
   bif x1 then
    impl_values.g4 z k x0 v3 x2 (w64 (x3 + 1)) (x4 ++ [v2]) K0
   else
    impl_values.g4 z k x0 false x2 (w64 (x3 + 1)) (x4 ++ [v2]) K0
  else
   K0 x1 x4
def impl_values {A : Type} (z : A) : Nat → List (Int × Nat) → (List Int → Bool → A) → A := step (fun _ _ => z) fun k a0 Φ =>
  impl_values.g4 z k a0 true (a0.length : Int) 0 [] (fun v4 v5 =>
   Φ v5 v4)
def impl_field_times {A : Type} (z : A) : Nat → Int → Int → List (List Int) → List Int → List Int → (List Int → Bool → A) → A := step (fun _ _ _ _ _ _ => z) fun k a0 a1 a2 a3 a4 Φ =>
  mkI z 16 a1 fun m1 =>
  impl_field_product z k a0 a1 a2 (List.replicate m1 ((0 : Int), (0 : Nat))) a3 a4 fun v2 =>
  impl_values z k v2 Φ
def impl_field_rooted.g27 {A : Type} (z : A) : Nat → Int → Int → List Int → List Int → (List Int → A) → A
 | 0, _, _, _, _, _ => z
 | k + 1, x9, x10, x13, x14, K0 =>
  if x10 < x9 then
   inI z x10 (x14.length) fun j9 =>
   inI z x10 (x13.length) fun j10 =>
   inI z x10 (x13.length) fun j11 =>
   impl_field_rooted.g27 z k x9 (w64 (x10 + 1)) (x13.set j11 (w64 ((x13.getD j10 0) - (x14.getD j9 0)))) x14 K0
  else
   K0 x13
def impl_field_rooted.g18 {A : Type} (z : A) : Nat → Int → Int → List (List Int) → List Int → Int → List (List Int) → List (List Int) → List Int → (Bool → List Int → A) → (List (List Int) → A) → A
 | 0, _, _, _, _, _, _, _, _, _, _ => z
 | k + 1, x0, x1, x2, x3, x4, x10, x11, x12, K0, K1 =>
  if x4 < (x10.length : Int) then
   inI z x4 (x10.length) fun j6 =>
   impl_field_times z k x0 x1 x2 x3 (x10.getD j6 []) fun v7 v8 =>
   bif !v8 then
    K0 false []
   else
    impl_field_rooted.g27 z k (v7.length : Int) 0 x12 v7 (fun v12 =>
     impl_areSmall z k v12 1000000000 fun v13 =>
     bif !v13 then
      K0 false []
     else
      apI z ((x11.length) + 1) 24 <|
      K1 (x11 ++ [v12]))
  else
   impl_areSmall z k x12 1000000000 fun v14 =>
   bif !v14 then
    K0 false []
   else
    apI z ((x11.length) + 1) 24 <|
    K1 (x11 ++ [x12])
def impl_field_rooted.g12 {A : Type} (z : A) : Nat → Int → Int → List (List Int) → List Int → Int → Int → List (List Int) → List (List Int) → (Bool → List Int → A) → (List (List Int) → A) → A
 | 0, _, _, _, _, _, _, _, _, _, _ => z
 | k + 1, x0, x1, x2, x3, x7, x8, x9, x10, K0, K1 =>
  if x8 < x7 then
   mkI z 8 x1 fun m3 =>
   if 0 < x8 then
    inI z (w64 (x8 - 1)) (x9.length) fun j4 =>
    slices_Clone_Sint64_int64 z k (x9.getD j4 []) fun v5 =>
    impl_field_rooted.g18 z k x0 x1 x2 x3 x8 x9 x10 v5 K0 (fun v17 =>
     impl_field_rooted.g12 z k x0 x1 x2 x3 x7 (w64 (x8 + 1)) x9 v17 K0 K1)
   else
    impl_field_rooted.g18 z k x0 x1 x2 x3 x8 x9 x10 (List.replicate m3 (0 : Int)) K0 (fun v20 =>
     impl_field_rooted.g12 z k x0 x1 x2 x3 x7 (w64 (x8 + 1)) x9 v20 K0 K1)
  else
   K1 x10
def impl_field_rooted.g4 {A : Type} (z : A) : Nat → Int → Int → List (List Int) → List (List Int) → Int → Int → List (List Int) → (Bool → List Int → A) → (List (List Int) → A) → A
 | 0, _, _, _, _, _, _, _, _, _ => z
 | k + 1, x0, x1, x2, x3, x4, x5, x6, K0, K1 =>
  if x5 < x4 then
   inI z x5 (x3.length) fun j2 =>
   impl_field_rooted.g12 z k x0 x1 x2 (x3.getD j2 []) (w64 ((x6.length : Int) + 1)) 0 x6 [] K0 (fun v23 =>
    impl_field_rooted.g4 z k x0 x1 x2 x3 x4 (w64 (x5 + 1)) v23 K0 K1)
  else
   K1 x6
def impl_field_rooted.g38 {A : Type} (z : A) : Nat → Int → Int → List Int → List (List Int) → (List Int → A) → A
 | 0, _, _, _, _, _ => z
 | k + 1, x0, x1, x2, x3, K0 =>
  if x1 < x0 then
   inI z x1 (x3.length) fun j27 =>
   inI z 0 ((x3.getD j27 []).length) fun j28 =>
   apI z ((x2.length) + 1) 8 <|
   impl_field_rooted.g38 z k x0 (w64 (x1 + 1)) (x2 ++ [((x3.getD j27 []).getD j28 0)]) x3 K0
  else
   K0 x2
def impl_field_rooted {A : Type} (z : A) : Nat → Int → Int → List (List Int) → List (List Int) → (List Int → Bool → A) → A := step (fun _ _ _ _ _ => z) fun k a0 a1 a2 a3 Φ =>
  impl_field_whole z k a0 a1 a2 1 fun v1 =>
  impl_field_rooted.g4 z k a0 a1 a2 a3 (a3.length : Int) 0 [v1] (fun v24 v25 =>
   Φ v25 v24) (fun v26 =>
   impl_field_rooted.g38 z k (v26.length : Int) 0 [] v26 (fun v29 =>
    Φ v29 true))
def impl_polynomial.g6 {A : Type} (z : A) : Nat → Int → Int → List (List Int) → List (List Int) → (Int → List Int → A) → A
 | 0, _, _, _, _, _ => z
 | k + 1, x0, x1, x2, x3, K0 =>
  impl_field_rooted z k x0 x1 x2 x3 fun v7 v8 =>
  bif !v8 then
   K0 3 []
  else
   K0 0 v7
def impl_polynomial {A : Type} (z : A) : Nat → Int → List Int → Bool → (List Int → Int → A) → A := step (fun _ _ _ _ => z) fun k a0 a1 a2 Φ =>
  impl_IsCyclo z k a0 a1 fun v1 =>
  bif !v1 then
   Φ [] 1
  else
   impl_fieldOf z k a0 fun v2 v3 v4 =>
   impl_field_images z k v2 v3 v4 a1 fun v5 =>
   bif a2 then
    impl_different z k v5 fun v6 =>
    impl_polynomial.g6 z k v2 v3 v4 v6 (fun v9 v10 =>
     Φ v10 v9)
   else
    impl_polynomial.g6 z k v2 v3 v4 v5 (fun v11 v12 =>
     Φ v12 v11)
def impl_MinimalOf {A : Type} (z : A) : Nat → Int → List Int → (List Int → Int → A) → A := step (fun _ _ _ => z) fun k a0 a1 Φ =>
  impl_polynomial z k a0 a1 true Φ
def laws_eqInt64S.g6 {A : Type} (z : A) : Nat → List Int → List Int → Int → (Bool → A) → A → A
 | 0, _, _, _, _, _ => z
 | k + 1, x0, x1, x2, K0, K1 =>
  if x2 < (x0.length : Int) then
   inI z x2 (x0.length) fun j1 =>
   inI z x2 (x1.length) fun j2 =>
   if (x0.getD j1 0) ≠ (x1.getD j2 0) then
    K0 false
   else
    laws_eqInt64S.g6 z k x0 x1 (w64 (x2 + 1)) K0 K1
  else
   K1
def laws_eqInt64S {A : Type} (z : A) : Nat → List Int → List Int → (Bool → A) → A := step (fun _ _ _ => z) fun k a0 a1 Φ =>
  if (a0.length : Int) ≠ (a1.length : Int) then
   Φ false
  else
   laws_eqInt64S.g6 z k a0 a1 0 Φ (Φ true)
def laws_eqCyclo {A : Type} (z : A) : Nat → Int → List Int → Int → List Int → (Bool → A) → A := step (fun _ _ _ _ _ => z) fun k a0 a1 a2 a3 Φ =>
  if a0 ≠ a2 then
   Φ false
  else
   laws_eqInt64S z k a1 a3 fun v1 =>
   bif !v1 then
    Φ false
   else
    Φ true
def laws_markInt64S.g3 {A : Type} (z : A) : Nat → Int → Int → List Int → (Int → List Int → A) → A
 | 0, _, _, _, _ => z
 | k + 1, x0, x1, x2, K0 =>
  if x1 < (x2.length : Int) then
   inI z x1 (x2.length) fun j1 =>
   laws_markInt64S.g3 z k (w64 (x0 + 1)) (w64 (x1 + 1)) (x2.set j1 x0) K0
  else
   K0 x0 x2
def laws_markInt64S {A : Type} (z : A) : Nat → List Int → Int → (List Int → Int → A) → A := step (fun _ _ _ => z) fun k a0 a1 Φ =>
  laws_markInt64S.g3 z k a1 0 a0 (fun v2 v3 =>
   Φ v3 v2)
def laws_markCyclo {A : Type} (z : A) : Nat → Int → List Int → Int → (List Int → Int → A) → A := step (fun _ _ _ _ => z) fun k a0 a1 a2 Φ =>
  laws_markInt64S z k a1 a2 Φ
def laws_heldInt64S.g3 {A : Type} (z : A) : Nat → List Int → Int → Int → (Int → A) → (Int → A) → A
 | 0, _, _, _, _, _ => z
 | k + 1, x0, x1, x2, K0, K1 =>
  if x2 < (x0.length : Int) then
   inI z x2 (x0.length) fun j1 =>
   if (x0.getD j1 0) ≠ x1 then
    K0 (-1)
   else
    laws_heldInt64S.g3 z k x0 (w64 (x1 + 1)) (w64 (x2 + 1)) K0 K1
  else
   K1 x1
def laws_heldInt64S {A : Type} (z : A) : Nat → List Int → Int → (Int → A) → A := step (fun _ _ _ => z) fun k a0 a1 Φ =>
  laws_heldInt64S.g3 z k a0 a1 0 Φ Φ
def laws_FnExactMinimalOf {A : Type} (z : A) : Nat → Int → List Int → (Bool → A) → A := step (fun _ _ _ => z) fun k a0 a1 Φ =>
  laws_szCyclo z k a0 a1 1048576 fun v1 =>
  if v1 < 0 then
   Φ true
  else
   laws_toCyclo z k a0 a1 fun v2 v3 =>
   spec_MinimalOf z k v2 v3 fun v4 v5 =>
   laws_toCyclo z k a0 a1 fun v6 v7 =>
   impl_MinimalOf z k v6 v7 fun v8 v9 =>
   laws_eqInt64S z k v8 v4 fun v10 =>
   bif !v10 then
    Φ false
   else if v9 ≠ v5 then
    Φ false
   else
    laws_toCyclo z k a0 a1 fun v11 v12 =>
    laws_eqCyclo z k v6 v7 v11 v12 fun v13 =>
    bif !v13 then
     Φ false
    else
     laws_markCyclo z k v6 v7 1 fun v14 v15 =>
     if v15 < 0 then
      Φ false
     else
      laws_eqInt64S z k v8 v4 fun v16 =>
      bif !v16 then
       Φ false
      else if v9 ≠ v5 then
       Φ false
      else
       laws_markInt64S z k v8 1 fun v17 v18 =>
       laws_heldInt64S z k v17 1 fun v19 =>
       if v19 < 0 then
        Φ false
       else if v19 ≠ v18 then
        Φ false
       else
        laws_toCyclo z k a0 a1 fun v20 v21 =>
        impl_MinimalOf z k v20 v21 fun v22 v23 =>
        laws_eqInt64S z k v22 v4 fun v24 =>
        bif !v24 then
         Φ false
        else if v23 ≠ v5 then
         Φ false
        else
         laws_heldInt64S z k v17 1 fun v25 =>
         if v25 < 0 then
          Φ false
         else if v25 ≠ v18 then
          Φ false
         else
          Φ true
end Go.Proofs.Ytlohlekofckcgaa.R
