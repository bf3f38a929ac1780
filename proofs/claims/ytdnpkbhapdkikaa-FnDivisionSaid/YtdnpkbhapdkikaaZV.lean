/- What the functions tell, printed by a program of this repo. -/
import Derived.Test.YtdnpkbhapdkikaaZR5
/- x -/
namespace Go.Proofs.Ytdnpkbhapdkikaa.R
set_option linter.unusedVariables false
def laws_big {A : Type} (z : A) : Nat → List Int → (Bool → A) → A := step (fun _ _ => z) fun k a0 Φ =>
  Φ (decide (4096 < (a0.length : Int)))
def spec_l01From.g4 {A : Type} (z : A) : Nat → List Int → Int → Int → (Int → A) → A
 | 0, _, _, _, _ => z
 | k + 1, x0, x1, x4, K0 =>
  if x1 < (x0.length : Int) then
   if x1 < 4096 then
    inI z x1 (x0.length) fun j1 =>
    spec_l01From.g4 z k x0 (w64 (x1 + 1)) (wu64 ((wu64 ((wu64 (x4 * 1099511628211)) + (wu64 (x0.getD j1 0)))) + 131)) K0
   else
    K0 x4
  else
   K0 x4
def spec_l01From {A : Type} (z : A) : Nat → List Int → (List Int → Int → Int → A) → A := step (fun _ _ => z) fun k a0 Φ =>
  spec_l01From.g4 z k a0 0 (wu64 (13131 + (wu64 (a0.length : Int)))) (fun v2 =>
   Φ a0 0 v2)
def spec_l01Next {A : Type} (z : A) : Nat → List Int → Int → Int → Int → (List Int → Int → Int → Int → A) → A := step (fun _ _ _ _ _ => z) fun k a0 a1 a2 a3 Φ =>
  if a3 < 1 then
   Φ a0 a1 a2 0
  else
   let y1 := wu64 (a2 * 6364136223846793005)
   let y2 := wu64 (y1 + 1442695040888963407)
   let y3 := y2.fdiv (2 ^ (31))
   let y4 := wu64 ((BitVec.ofInt 64 y3 &&& BitVec.ofInt 64 1073741823).toNat : Int)
   if a1 < (a0.length : Int) then
    inI z a1 (a0.length) fun j1 =>
    gd z (a3 ≠ 0) <|
    Φ a0 (w64 (a1 + 1)) y2 ((w64 ((w64 y4) + (w64 (a0.getD j1 0)))).tmod a3)
   else
    gd z (a3 ≠ 0) <|
    Φ a0 a1 y2 ((w64 y4).tmod a3)
def spec_l01Pick {A : Type} (z : A) : Nat → List Int → Int → Int → List Int → (List Int → Int → Int → Int → A) → A := step (fun _ _ _ _ _ => z) fun k a0 a1 a2 a3 Φ =>
  spec_l01Next z k a0 a1 a2 (a3.length : Int) fun v1 v2 v3 v4 =>
  inI z v4 (a3.length) fun j5 =>
  Φ v1 v2 v3 (a3.getD j5 0)
def spec_l01DrawOrder {A : Type} (z : A) : Nat → List Int → Int → Int → (List Int → Int → Int → Int → A) → A := step (fun _ _ _ _ => z) fun k a0 a1 a2 Φ =>
  spec_l01Next z k a0 a1 a2 16 fun v1 v2 v3 v4 =>
  spec_l01Pick z k v1 v2 v3 [1, 2, 3, 3, 4, 4, 5, 5, 6, 7, 8, 9, 10, 12, (w64 (1 + v4))] Φ
def spec_l01Gcd.g2 {A : Type} (z : A) : Nat → Int → Int → (Int → A) → A
 | 0, _, _, _ => z
 | k + 1, x0, x1, K0 =>
  if x1 ≠ 0 then
   gd z (x1 ≠ 0) <|
   spec_l01Gcd.g2 z k x1 (x0.tmod x1) K0
  else
   K0 x0
def spec_l01Gcd {A : Type} (z : A) : Nat → Int → Int → (Int → A) → A := step (fun _ _ _ => z) fun k a0 a1 Φ =>
  spec_l01Gcd.g2 z k a0 a1 (fun v1 =>
   Φ (maxI v1 (w64 (0 - v1))))
def spec_l01Phi.g4 {A : Type} (z : A) : Nat → Int → Int → Int → (Int → A) → A
 | 0, _, _, _, _ => z
 | k + 1, x0, x1, x2, K0 =>
  if x2 ≤ x0 then
   spec_l01Gcd z k x2 x0 fun v1 =>
   if v1 = 1 then
    spec_l01Phi.g4 z k x0 (w64 (x1 + 1)) (w64 (x2 + 1)) K0
   else
    spec_l01Phi.g4 z k x0 x1 (w64 (x2 + 1)) K0
  else
   K0 x1
def spec_l01Phi {A : Type} (z : A) : Nat → Int → (Int → A) → A := step (fun _ _ => z) fun k a0 Φ =>
  spec_l01Phi.g4 z k a0 0 1 Φ
def spec_l01Zero {A : Type} (z : A) : Nat → Int → (Int → List Int → A) → A := step (fun _ _ => z) fun k a0 Φ =>
  spec_l01Phi z k a0 fun v1 =>
  mkI z 8 v1 fun m2 =>
  Φ a0 (List.replicate m2 (0 : Int))
def spec_l01DrawPart {A : Type} (z : A) : Nat → List Int → Int → Int → Int → (List Int → Int → Int → Int → A) → A := step (fun _ _ _ _ _ => z) fun k a0 a1 a2 a3 Φ =>
  spec_l01Next z k a0 a1 a2 (w64 ((w64 (2 * a3)) + 1)) fun v1 v2 v3 v4 =>
  Φ v1 v2 v3 (w64 (v4 - a3))
def spec_l01DrawOf.g4 {A : Type} (z : A) : Nat → Int → Int → List Int → Int → Int → List Int → (List Int → Int → Int → List Int → A) → A
 | 0, _, _, _, _, _, _, _ => z
 | k + 1, x0, x1, x2, x3, x4, x8, K0 =>
  if x1 < (x8.length : Int) then
   spec_l01DrawPart z k x2 x3 x4 x0 fun v3 v4 v5 v6 =>
   spec_l01Pick z k v3 v4 v5 [0, 1, 1] fun v7 v8 v9 v10 =>
   inI z x1 (x8.length) fun j11 =>
   spec_l01DrawOf.g4 z k x0 (w64 (x1 + 1)) v7 v8 v9 (x8.set j11 (w64 (v6 * v10))) K0
  else
   K0 x2 x3 x4 x8
def spec_l01DrawOf {A : Type} (z : A) : Nat → List Int → Int → Int → Int → Int → (List Int → Int → Int → Int → List Int → A) → A := step (fun _ _ _ _ _ _ => z) fun k a0 a1 a2 a3 a4 Φ =>
  spec_l01Zero z k a3 fun v1 v2 =>
  spec_l01DrawOf.g4 z k a4 0 a0 a1 a2 v2 (fun v12 v13 v14 v15 =>
   Φ v12 v13 v14 v1 v15)
def spec_l01Draw {A : Type} (z : A) : Nat → List Int → Int → Int → (List Int → Int → Int → Int → List Int → A) → A := step (fun _ _ _ _ => z) fun k a0 a1 a2 Φ =>
  spec_l01DrawOrder z k a0 a1 a2 fun v1 v2 v3 v4 =>
  spec_l01Pick z k v1 v2 v3 [1, 2, 3, 9, 1000, 400000000] fun v5 v6 v7 v8 =>
  spec_l01DrawOf z k v5 v6 v7 v4 v8 Φ
def spec_l01Own {A : Type} (z : A) : Nat → List Int → (List Int → A) → A := step (fun _ _ => z) fun k a0 Φ =>
  apI z (0 + (a0.length)) 8 <|
  Φ ([] ++ a0)
def spec_l01Bad {A : Type} (z : A) : Nat → List Int → Int → Int → Int → List Int → (List Int → Int → Int → Int → List Int → A) → A := step (fun _ _ _ _ _ _ => z) fun k a0 a1 a2 a3 a4 Φ =>
  spec_l01Next z k a0 a1 a2 50 fun v1 v2 v3 v4 =>
  if v4 = 0 then
   spec_l01Pick z k v1 v2 v3 [0, 17, (-1)] fun v5 v6 v7 v8 =>
   Φ v5 v6 v7 v8 a4
  else if v4 = 1 then
   spec_l01Own z k a4 fun v9 =>
   apI z ((v9.length) + 1) 8 <|
   Φ v1 v2 v3 a3 (v9 ++ [0])
  else if v4 = 2 then
   spec_l01Own z k a4 fun v10 =>
   spec_l01Pick z k v1 v2 v3 [1000000001, (-1000000001), 1099511627776] fun v11 v12 v13 v14 =>
   inI z 0 (v10.length) fun j15 =>
   Φ v11 v12 v13 a3 (v10.set j15 v14)
  else
   Φ v1 v2 v3 a3 a4
def spec_l01Spoil {A : Type} (z : A) : Nat → List Int → Int → Int → (List Int → Int → Int → Int → List Int → A) → A := step (fun _ _ _ _ => z) fun k a0 a1 a2 Φ =>
  spec_l01Draw z k a0 a1 a2 fun v1 v2 v3 v4 v5 =>
  spec_l01Bad z k v1 v2 v3 v4 v5 Φ
def spec_l02Draw {A : Type} (z : A) : Nat → List Int → Int → Int → (List Int → Int → Int → Int → List Int → A) → A := step (fun _ _ _ _ => z) fun k a0 a1 a2 Φ =>
  spec_l01Next z k a0 a1 a2 8 fun v1 v2 v3 v4 =>
  if v4 = 0 then
   spec_l01Spoil z k v1 v2 v3 Φ
  else
   spec_l01DrawOrder z k v1 v2 v3 fun v10 v11 v12 v13 =>
   spec_l01Pick z k v10 v11 v12 [1, 1, 2, 3] fun v14 v15 v16 v17 =>
   spec_l01DrawOf z k v14 v15 v16 v13 v17 Φ
def spec_l01In {A : Type} (z : A) : Nat → Int → Int → Int → (Bool → A) → A := step (fun _ _ _ _ => z) fun k a0 a1 a2 Φ =>
  if a1 ≤ a0 then
   Φ (decide (a0 ≤ a2))
  else
   Φ false
def spec_l01Fits.g3 {A : Type} (z : A) : Nat → Int → List Int → (Bool → A) → A → A
 | 0, _, _, _, _ => z
 | k + 1, x0, x2, K0, K1 =>
  if x0 < (x2.length : Int) then
   inI z x0 (x2.length) fun j1 =>
   spec_l01In z k (x2.getD j1 0) (-1000000000) 1000000000 fun v2 =>
   bif !v2 then
    K0 false
   else
    spec_l01Fits.g3 z k (w64 (x0 + 1)) x2 K0 K1
  else
   K1
def spec_l01Fits {A : Type} (z : A) : Nat → Int → List Int → (Bool → A) → A := step (fun _ _ _ => z) fun k a0 a1 Φ =>
  spec_l01Fits.g3 z k 0 a1 Φ (Φ true)
def spec_l01Is {A : Type} (z : A) : Nat → Int → List Int → (Bool → A) → A := step (fun _ _ _ => z) fun k a0 a1 Φ =>
  spec_l01In z k a0 1 16 fun v1 =>
  bif v1 then
   spec_l01Phi z k a0 fun v2 =>
   if (a1.length : Int) = v2 then
    spec_l01Fits z k a0 a1 Φ
   else
    Φ false
  else
   Φ false
def spec_l02Pair {A : Type} (z : A) : Nat → List Int → Int → Int → (List Int → Int → Int → Int → List Int → Int → List Int → A) → A := step (fun _ _ _ _ => z) fun k a0 a1 a2 Φ =>
  spec_l02Draw z k a0 a1 a2 fun v1 v2 v3 v4 v5 =>
  spec_l01Next z k v1 v2 v3 24 fun v6 v7 v8 v9 =>
  if v9 = 0 then
   spec_l02Draw z k v6 v7 v8 fun v10 v11 v12 v13 v14 =>
   Φ v10 v11 v12 v4 v5 v13 v14
  else
   spec_l01Is z k v4 v5 fun v15 =>
   bif !v15 then
    spec_l02Draw z k v6 v7 v8 fun v16 v17 v18 v19 v20 =>
    Φ v16 v17 v18 v4 v5 v19 v20
   else
    spec_l01Pick z k v6 v7 v8 [1, 1, 2] fun v21 v22 v23 v24 =>
    spec_l01DrawOf z k v21 v22 v23 v4 v24 fun v25 v26 v27 v28 v29 =>
    Φ v25 v26 v27 v4 v5 v28 v29
def spec_l01Like {A : Type} (z : A) : Nat → Int → List Int → Int → List Int → (Int → A) → A := step (fun _ _ _ _ _ => z) fun k a0 a1 a2 a3 Φ =>
  spec_l01Is z k a0 a1 fun v1 =>
  bif !v1 then
   Φ 1
  else
   spec_l01Is z k a2 a3 fun v2 =>
   bif !v2 then
    Φ 1
   else if a0 ≠ a2 then
    Φ 2
   else
    Φ 0
def spec_l01Quotient.g11 {A : Type} (z : A) : Nat → List Int → Int → Int → List Int → List Int → (List Int → A) → A
 | 0, _, _, _, _, _, _ => z
 | k + 1, x0, x1, x2, x3, x4, K0 =>
  if x2 < (x0.length : Int) then
   inI z (w64 (x1 + x2)) (x3.length) fun j5 =>
   inI z x1 (x4.length) fun j6 =>
   inI z x2 (x0.length) fun j7 =>
   inI z (w64 (x1 + x2)) (x3.length) fun j8 =>
   spec_l01Quotient.g11 z k x0 x1 (w64 (x2 + 1)) (x3.set j8 (w64 ((x3.getD j5 0) - (w64 ((x4.getD j6 0) * (x0.getD j7 0)))))) x4 K0
  else
   K0 x3
def spec_l01Quotient.g5 {A : Type} (z : A) : Nat → List Int → Int → List Int → List Int → (List Int → A) → A
 | 0, _, _, _, _, _ => z
 | k + 1, x0, x1, x2, x3, K0 =>
  if 0 ≤ x1 then
   inI z (w64 ((w64 (x1 + (x0.length : Int))) - 1)) (x2.length) fun j3 =>
   inI z x1 (x3.length) fun j4 =>
   spec_l01Quotient.g11 z k x0 x1 0 x2 (x3.set j4 (x2.getD j3 0)) (fun v9 =>
    spec_l01Quotient.g5 z k x0 (w64 (x1 - 1)) v9 (x3.set j4 (x2.getD j3 0)) K0)
  else
   K0 x3
def spec_l01Quotient {A : Type} (z : A) : Nat → List Int → List Int → (List Int → A) → A := step (fun _ _ _ => z) fun k a0 a1 Φ =>
  spec_l01Own z k a0 fun v1 =>
  let y1 := w64 ((a0.length : Int) - (a1.length : Int))
  mkI z 8 (w64 (y1 + 1)) fun m2 =>
  spec_l01Quotient.g5 z k a1 y1 v1 (List.replicate m2 (0 : Int)) Φ
mutual
def spec_l01Cyclotomic.g6 {A : Type} (z : A) : Nat → Int → Int → List Int → (List Int → A) → A
 | 0, _, _, _, _ => z
 | k + 1, x0, x1, x2, K0 =>
  if x1 < x0 then
   gd z (x1 ≠ 0) <|
   if (x0.tmod x1) = 0 then
    spec_l01Cyclotomic z k x1 fun v4 =>
    spec_l01Quotient z k x2 v4 fun v5 =>
    spec_l01Cyclotomic.g6 z k x0 (w64 (x1 + 1)) v5 K0
   else
    spec_l01Cyclotomic.g6 z k x0 (w64 (x1 + 1)) x2 K0
  else
   K0 x2
def spec_l01Cyclotomic {A : Type} (z : A) : Nat → Int → (List Int → A) → A
 | 0, _, _ => z
 | k + 1, a0, Φ =>
  mkI z 8 (w64 (a0 + 1)) fun m1 =>
  inI z 0 ((List.replicate m1 (0 : Int)).length) fun j2 =>
  inI z a0 (((List.replicate m1 (0 : Int)).set j2 (-1)).length) fun j3 =>
  spec_l01Cyclotomic.g6 z k a0 1 (((List.replicate m1 (0 : Int)).set j2 (-1)).set j3 1) Φ
end
def spec_l01Reduce.g11 {A : Type} (z : A) : Nat → Int → Int → Int → Int → List Int → List Int → (List Int → A) → A
 | 0, _, _, _, _, _, _, _ => z
 | k + 1, x1, x2, x3, x4, x6, x7, K0 =>
  if x4 ≤ x1 then
   inI z (w64 ((w64 (x2 - x1)) + x4)) (x7.length) fun j4 =>
   inI z x4 (x6.length) fun j5 =>
   inI z (w64 ((w64 (x2 - x1)) + x4)) (x7.length) fun j6 =>
   spec_l01Reduce.g11 z k x1 x2 x3 (w64 (x4 + 1)) x6 (x7.set j6 (w64 ((x7.getD j4 0) - (w64 (x3 * (x6.getD j5 0)))))) K0
  else
   K0 x7
def spec_l01Reduce.g5 {A : Type} (z : A) : Nat → Int → Int → List Int → List Int → (List Int → A) → A
 | 0, _, _, _, _, _ => z
 | k + 1, x1, x2, x4, x5, K0 =>
  if x1 ≤ x2 then
   inI z x2 (x5.length) fun j3 =>
   spec_l01Reduce.g11 z k x1 x2 (x5.getD j3 0) 0 x4 x5 (fun v7 =>
    spec_l01Reduce.g5 z k x1 (w64 (x2 - 1)) x4 v7 K0)
  else
   K0 x5
def spec_l01Reduce.g18 {A : Type} (z : A) : Nat → Int → Int → List Int → List Int → (List Int → A) → A
 | 0, _, _, _, _, _ => z
 | k + 1, x0, x1, x3, x6, K0 =>
  if x1 < x0 then
   if x1 < (x3.length : Int) then
    inI z x1 (x3.length) fun j11 =>
    inI z x1 (x6.length) fun j12 =>
    spec_l01Reduce.g18 z k x0 (w64 (x1 + 1)) x3 (x6.set j12 (x3.getD j11 0)) K0
   else
    K0 x6
  else
   K0 x6
def spec_l01Reduce {A : Type} (z : A) : Nat → Int → List Int → (Int → List Int → A) → A := step (fun _ _ _ => z) fun k a0 a1 Φ =>
  spec_l01Cyclotomic z k a0 fun v1 =>
  spec_l01Own z k a1 fun v2 =>
  let y1 := w64 ((v1.length : Int) - 1)
  spec_l01Reduce.g5 z k y1 (w64 ((v2.length : Int) - 1)) v1 v2 (fun v8 =>
   spec_l01Zero z k a0 fun v9 v10 =>
   spec_l01Reduce.g18 z k y1 0 v8 v10 (fun v13 =>
    Φ v9 v13))
def spec_l01Product.g9 {A : Type} (z : A) : Nat → List Int → Int → Int → List Int → List Int → (List Int → A) → A
 | 0, _, _, _, _, _, _ => z
 | k + 1, x0, x1, x2, x4, x6, K0 =>
  if x2 < (x0.length : Int) then
   inI z (w64 (x1 + x2)) (x6.length) fun j2 =>
   inI z x1 (x4.length) fun j3 =>
   inI z x2 (x0.length) fun j4 =>
   inI z (w64 (x1 + x2)) (x6.length) fun j5 =>
   spec_l01Product.g9 z k x0 x1 (w64 (x2 + 1)) x4 (x6.set j5 (w64 ((x6.getD j2 0) + (w64 ((x4.getD j3 0) * (x0.getD j4 0)))))) K0
  else
   K0 x6
def spec_l01Product.g4 {A : Type} (z : A) : Nat → List Int → Int → List Int → List Int → (List Int → A) → A
 | 0, _, _, _, _, _ => z
 | k + 1, x0, x1, x3, x5, K0 =>
  if x1 < (x3.length : Int) then
   spec_l01Product.g9 z k x0 x1 0 x3 x5 (fun v6 =>
    spec_l01Product.g4 z k x0 (w64 (x1 + 1)) x3 v6 K0)
  else
   K0 x5
def spec_l01Product {A : Type} (z : A) : Nat → Int → List Int → List Int → (Int → List Int → A) → A := step (fun _ _ _ _ => z) fun k a0 a1 a2 Φ =>
  mkI z 8 (w64 ((w64 ((a1.length : Int) + (a2.length : Int))) - 1)) fun m1 =>
  spec_l01Product.g4 z k a2 0 a1 (List.replicate m1 (0 : Int)) (fun v7 =>
   spec_l01Reduce z k a0 v7 Φ)
def spec_l01Times.g4 {A : Type} (z : A) : Nat → Int → List Int → List Int → List Int → (List Int → List Int → A) → A
 | 0, _, _, _, _, _ => z
 | k + 1, x0, x4, x6, x7, K0 =>
  if x0 < (x4.length : Int) then
   inI z x0 (x4.length) fun j1 =>
   apI z ((x6.length) + 1) 8 <|
   inI z x0 (x4.length) fun j2 =>
   apI z ((x7.length) + 1) 8 <|
   spec_l01Times.g4 z k (w64 (x0 + 1)) x4 (x6 ++ [((x4.getD j1 0).tmod 100000)]) (x7 ++ [(w64 ((x4.getD j2 0).tdiv 100000))]) K0
  else
   K0 x6 x7
def spec_l01Times.g13 {A : Type} (z : A) : Nat → Int → List Int → List Int → List Int → (Bool → List Int → A) → (List Int → A) → A
 | 0, _, _, _, _, _, _ => z
 | k + 1, x0, x6, x7, x8, K0, K1 =>
  if x0 < (x8.length : Int) then
   inI z x0 (x7.length) fun j11 =>
   spec_l01In z k (x7.getD j11 0) (-10000000000000) 10000000000000 fun v12 =>
   bif !v12 then
    K0 false x8
   else
    inI z x0 (x7.length) fun j13 =>
    inI z x0 (x6.length) fun j14 =>
    inI z x0 (x8.length) fun j15 =>
    spec_l01Times.g13 z k (w64 (x0 + 1)) x6 x7 (x8.set j15 (w64 ((w64 ((x7.getD j13 0) * 100000)) + (x6.getD j14 0)))) K0 K1
  else
   K1 x8
def spec_l01Times {A : Type} (z : A) : Nat → Int → List Int → Int → List Int → (Int → List Int → Bool → A) → A := step (fun _ _ _ _ _ => z) fun k a0 a1 a2 a3 Φ =>
  spec_l01Times.g4 z k 0 a3 [] [] (fun v3 v4 =>
   spec_l01Product z k a0 a1 v3 fun v5 v6 =>
   spec_l01Product z k a0 a1 v4 fun v7 v8 =>
   spec_l01Zero z k a0 fun v9 v10 =>
   spec_l01Times.g13 z k 0 v6 v8 v10 (fun v16 v17 =>
    Φ v9 v17 v16) (fun v18 =>
    spec_l01Fits z k v9 v18 fun v19 =>
    Φ v9 v18 v19))
def spec_MultiplyCyclos {A : Type} (z : A) : Nat → Int → List Int → Int → List Int → (Int → List Int → Int → A) → A := step (fun _ _ _ _ _ => z) fun k a0 a1 a2 a3 Φ =>
  spec_l01Like z k a0 a1 a2 a3 fun v1 =>
  if v1 ≠ 0 then
   Φ 0 [] v1
  else
   spec_l01Times z k a0 a1 a2 a3 fun v2 v3 v4 =>
   bif !v4 then
    Φ 0 [] 3
   else
    Φ v2 v3 0
def spec_DrawDivideCyclos {A : Type} (z : A) : Nat → List Int → (Int → List Int → Int → List Int → A) → A := step (fun _ _ => z) fun k a0 Φ =>
  spec_l01From z k a0 fun v1 v2 v3 =>
  spec_l02Pair z k v1 v2 v3 fun v4 v5 v6 v7 v8 v9 v10 =>
  spec_MultiplyCyclos z k v7 v8 v9 v10 fun v11 v12 v13 =>
  if v13 = 0 then
   spec_l01Next z k v4 v5 v6 3 fun v14 v15 v16 v17 =>
   if 0 < v17 then
    Φ v11 v12 v9 v10
   else
    Φ v7 v8 v9 v10
  else
   Φ v7 v8 v9 v10
def impl_within {A : Type} (z : A) : Nat → Int → Int → Int → (Bool → A) → A := step (fun _ _ _ _ => z) fun k a0 a1 a2 Φ =>
  if a1 ≤ a0 then
   Φ (decide (a0 ≤ a2))
  else
   Φ false
def impl_isOrder {A : Type} (z : A) : Nat → Int → (Bool → A) → A := step (fun _ _ => z) fun k a0 Φ =>
  impl_within z k a0 1 16 Φ
def impl_size {A : Type} (z : A) : Nat → Int → (Int → A) → A := step (fun _ _ => z) fun k a0 Φ =>
  Φ (maxI a0 (w64 (0 - a0)))
def impl_gcd.g3 {A : Type} (z : A) : Nat → Int → Int → (Int → A) → A
 | 0, _, _, _ => z
 | k + 1, x0, x1, K0 =>
  if 0 < x1 then
   gd z (x1 ≠ 0) <|
   impl_gcd.g3 z k x1 (x0.tmod x1) K0
  else
   K0 x0
def impl_gcd {A : Type} (z : A) : Nat → Int → Int → (Int → A) → A := step (fun _ _ _ => z) fun k a0 a1 Φ =>
  impl_size z k a0 fun v1 =>
  impl_size z k a1 fun v2 =>
  impl_gcd.g3 z k v1 v2 Φ
def impl_totient.g4 {A : Type} (z : A) : Nat → Int → Int → Int → (Int → A) → A
 | 0, _, _, _, _ => z
 | k + 1, x0, x1, x2, K0 =>
  if x2 ≤ x0 then
   impl_gcd z k x2 x0 fun v1 =>
   if v1 = 1 then
    impl_totient.g4 z k x0 (w64 (x1 + 1)) (w64 (x2 + 1)) K0
   else
    impl_totient.g4 z k x0 x1 (w64 (x2 + 1)) K0
  else
   K0 x1
def impl_totient {A : Type} (z : A) : Nat → Int → (Int → A) → A := step (fun _ _ => z) fun k a0 Φ =>
  impl_totient.g4 z k a0 0 1 Φ
def impl_areSmall_1 {A : Type} (z : A) : Nat → Int → Int → (Bool → A) → A := step (fun _ _ _ => z) fun k a0 a1 Φ =>
  impl_within z k a0 (w64 (0 - a1)) a1 fun v1 =>
  Φ (!v1)
def slices_IndexFunc_Sint64_int64_c191.g3 {A : Type} (z : A) : Nat → List Int → Int → Int → Int → (Int → A) → A → A
 | 0, _, _, _, _, _, _ => z
 | k + 1, x0, x1, x2, x3, K0, K1 =>
  if x3 < x2 then
   inI z x3 (x0.length) fun j1 =>
   impl_areSmall_1 z k (x0.getD j1 0) x1 fun v2 =>
   bif v2 then
    K0 x3
   else
    slices_IndexFunc_Sint64_int64_c191.g3 z k x0 x1 x2 (w64 (x3 + 1)) K0 K1
  else
   K1
def slices_IndexFunc_Sint64_int64_c191 {A : Type} (z : A) : Nat → List Int → Int → (Int → A) → A := step (fun _ _ _ => z) fun k a0 a1 Φ =>
  slices_IndexFunc_Sint64_int64_c191.g3 z k a0 a1 (a0.length : Int) 0 Φ (Φ (-1))
def slices_ContainsFunc_Sint64_int64_c191 {A : Type} (z : A) : Nat → List Int → Int → (Bool → A) → A := step (fun _ _ _ => z) fun k a0 a1 Φ =>
  slices_IndexFunc_Sint64_int64_c191 z k a0 a1 fun v1 =>
  Φ (decide (0 ≤ v1))
def impl_areSmall {A : Type} (z : A) : Nat → List Int → Int → (Bool → A) → A := step (fun _ _ _ => z) fun k a0 a1 Φ =>
  slices_ContainsFunc_Sint64_int64_c191 z k a0 a1 fun v1 =>
  Φ (!v1)
def impl_IsCyclo {A : Type} (z : A) : Nat → Int → List Int → (Bool → A) → A := step (fun _ _ _ => z) fun k a0 a1 Φ =>
  impl_isOrder z k a0 fun v1 =>
  bif v1 then
   impl_totient z k a0 fun v2 =>
   if (a1.length : Int) = v2 then
    impl_areSmall z k a1 1000000000 Φ
   else
    Φ false
  else
   Φ false
def impl_twoCode {A : Type} (z : A) : Nat → Int → List Int → Int → List Int → (Int → A) → A := step (fun _ _ _ _ _ => z) fun k a0 a1 a2 a3 Φ =>
  impl_IsCyclo z k a0 a1 fun v1 =>
  bif !v1 then
   Φ 1
  else
   impl_IsCyclo z k a2 a3 fun v2 =>
   bif !v2 then
    Φ 1
   else if a0 ≠ a2 then
    Φ 2
   else
    Φ 0
def impl_isZero {A : Type} (z : A) : Nat → List Int → (Bool → A) → A := step (fun _ _ => z) fun k a0 Φ =>
  impl_areSmall z k a0 0 Φ
def slices_Clone_Sint64_int64 {A : Type} (z : A) : Nat → List Int → (List Int → A) → A := step (fun _ _ => z) fun _ a0 Φ =>
  apI z a0.length 8 <| Φ a0
def impl_quotient.g11 {A : Type} (z : A) : Nat → Int → List Int → Int → Int → List Int → List Int → (List Int → A) → A
 | 0, _, _, _, _, _, _, _ => z
 | k + 1, x1, x2, x3, x4, x5, x6, K0 =>
  if x4 < x3 then
   inI z x4 (x2.length) fun j5 =>
   inI z (w64 (x1 + x4)) (x5.length) fun j6 =>
   inI z x1 (x6.length) fun j7 =>
   inI z (w64 (x1 + x4)) (x5.length) fun j8 =>
   impl_quotient.g11 z k x1 x2 x3 (w64 (x4 + 1)) (x5.set j8 (w64 ((x5.getD j6 0) - (w64 ((x6.getD j7 0) * (x2.getD j5 0)))))) x6 K0
  else
   K0 x5
def impl_quotient.g5 {A : Type} (z : A) : Nat → List Int → Int → List Int → List Int → (List Int → A) → A
 | 0, _, _, _, _, _ => z
 | k + 1, x0, x1, x2, x3, K0 =>
  if 0 ≤ x1 then
   inI z (w64 ((w64 (x1 + (x0.length : Int))) - 1)) (x2.length) fun j3 =>
   inI z x1 (x3.length) fun j4 =>
   impl_quotient.g11 z k x1 x0 (x0.length : Int) 0 x2 (x3.set j4 (x2.getD j3 0)) (fun v9 =>
    impl_quotient.g5 z k x0 (w64 (x1 - 1)) v9 (x3.set j4 (x2.getD j3 0)) K0)
  else
   K0 x3
def impl_quotient {A : Type} (z : A) : Nat → List Int → List Int → (List Int → A) → A := step (fun _ _ _ => z) fun k a0 a1 Φ =>
  slices_Clone_Sint64_int64 z k a0 fun v1 =>
  mkI z 8 (w64 ((w64 ((v1.length : Int) - (a1.length : Int))) + 1)) fun m2 =>
  impl_quotient.g5 z k a1 (w64 (((List.replicate m2 (0 : Int)).length : Int) - 1)) v1 (List.replicate m2 (0 : Int)) Φ
mutual
def impl_cyclotomic.g5 {A : Type} (z : A) : Nat → Int → Int → List Int → (List Int → A) → A
 | 0, _, _, _, _ => z
 | k + 1, x0, x1, x2, K0 =>
  if x1 < x0 then
   gd z (x1 ≠ 0) <|
   if (x0.tmod x1) = 0 then
    impl_cyclotomic z k x1 fun v4 =>
    impl_quotient z k x2 v4 fun v5 =>
    impl_cyclotomic.g5 z k x0 (w64 (x1 + 1)) v5 K0
   else
    impl_cyclotomic.g5 z k x0 (w64 (x1 + 1)) x2 K0
  else
   K0 x2
def impl_cyclotomic {A : Type} (z : A) : Nat → Int → (List Int → A) → A
 | 0, _, _ => z
 | k + 1, a0, Φ =>
  mkI z 8 (w64 (a0 + 1)) fun m1 =>
  inI z 0 ((List.replicate m1 (0 : Int)).length) fun j2 =>
  inI z a0 (((List.replicate m1 (0 : Int)).set j2 (-1)).length) fun j3 =>
  impl_cyclotomic.g5 z k a0 1 (((List.replicate m1 (0 : Int)).set j2 (-1)).set j3 1) Φ
end
def impl_powers.g20 {A : Type} (z : A) : Nat → Int → Int → Int → List Int → List Int → (List Int → A) → A
 | 0, _, _, _, _, _, _ => z
 | k + 1, x1, x4, x5, x6, x7, K0 =>
  if x5 < x4 then
   inI z x5 (x7.length) fun j9 =>
   inI z x5 (x6.length) fun j10 =>
   inI z x5 (x7.length) fun j11 =>
   impl_powers.g20 z k x1 x4 (w64 (x5 + 1)) x6 (x7.set j11 (w64 ((x7.getD j9 0) - (w64 (x1 * (x6.getD j10 0)))))) K0
  else
   K0 x7
def impl_powers.g11 {A : Type} (z : A) : Nat → Int → Int → Int → List Int → List Int → List (List Int) → (List (List Int) → A) → A
 | 0, _, _, _, _, _, _, _ => z
 | k + 1, x0, x1, x2, x3, x4, x5, K0 =>
  if x2 < x1 then
   slices_Clone_Sint64_int64 z k x4 fun v4 =>
   apI z ((x5.length) + 1) 24 <|
   inI z (w64 (x0 - 1)) (x4.length) fun j5 =>
   toI z 1 (x4.length) fun j6 =>
   toI z (w64 (x0 - 1)) (x4.length) fun j7 =>
   inI z 0 ((x4.take j6 ++ ((x4.drop 0).take j7).take ((x4.length) - j6) ++ x4.drop (j6 + (min (((x4.drop 0).take j7).length) ((x4.length) - j6)))).length) fun j8 =>
   impl_powers.g20 z k (x4.getD j5 0) (((x4.take j6 ++ ((x4.drop 0).take j7).take ((x4.length) - j6) ++ x4.drop (j6 + (min (((x4.drop 0).take j7).length) ((x4.length) - j6)))).set j8 0).length : Int) 0 x3 ((x4.take j6 ++ ((x4.drop 0).take j7).take ((x4.length) - j6) ++ x4.drop (j6 + (min (((x4.drop 0).take j7).length) ((x4.length) - j6)))).set j8 0) (fun v12 =>
    impl_powers.g11 z k x0 x1 (w64 (x2 + 1)) x3 v12 (x5 ++ [v4]) K0)
  else
   K0 x5
def impl_powers {A : Type} (z : A) : Nat → Int → (List (List Int) → A) → A := step (fun _ _ => z) fun k a0 Φ =>
  impl_cyclotomic z k a0 fun v1 =>
  let y1 := w64 ((v1.length : Int) - 1)
  mkI z 8 y1 fun m2 =>
  inI z 0 ((List.replicate m2 (0 : Int)).length) fun j3 =>
  if a0 = 1 then
   Φ [((List.replicate m2 (0 : Int)).set j3 1)]
  else
   impl_powers.g11 z k y1 a0 0 v1 ((List.replicate m2 (0 : Int)).set j3 1) [] Φ
def impl_fieldOf {A : Type} (z : A) : Nat → Int → (Int → Int → List (List Int) → A) → A := step (fun _ _ => z) fun k a0 Φ =>
  impl_powers z k a0 fun v1 =>
  inI z 0 (v1.length) fun j2 =>
  Φ a0 ((v1.getD j2 []).length : Int) v1
def impl_isPrimeTo {A : Type} (z : A) : Nat → Int → Int → (Bool → A) → A := step (fun _ _ _ => z) fun k a0 a1 Φ =>
  impl_within z k a0 1 a1 fun v1 =>
  bif v1 then
   impl_gcd z k a0 a1 fun v2 =>
   Φ (decide (v2 = 1))
  else
   Φ false
def impl_unitsOf.g4 {A : Type} (z : A) : Nat → Int → Int → List Int → (List Int → A) → A
 | 0, _, _, _, _ => z
 | k + 1, x0, x1, x2, K0 =>
  if x1 ≤ x0 then
   impl_isPrimeTo z k x1 x0 fun v1 =>
   bif v1 then
    apI z ((x2.length) + 1) 8 <|
    impl_unitsOf.g4 z k x0 (w64 (x1 + 1)) (x2 ++ [x1]) K0
   else
    impl_unitsOf.g4 z k x0 (w64 (x1 + 1)) x2 K0
  else
   K0 x2
def impl_unitsOf {A : Type} (z : A) : Nat → Int → (List Int → A) → A := step (fun _ _ => z) fun k a0 Φ =>
  impl_unitsOf.g4 z k a0 1 [] Φ
def impl_field_image_1 {A : Type} (z : A) : Nat → Int → Int → (Int → A) → A := step (fun _ _ _ => z) fun k a0 a1 Φ =>
  Φ (w64 (a1 * a0))
def impl_around {A : Type} (z : A) : Nat → Int → Int → (Int → A) → A := step (fun _ _ _ => z) fun k a0 a1 Φ =>
  gd z (a1 ≠ 0) <|
  gd z (a1 ≠ 0) <|
  Φ ((w64 ((a0.tmod a1) + a1)).tmod a1)
def impl_field_with_c178.g10 {A : Type} (z : A) : Nat → Int → List Int → Int → Int → List Int → (List Int → A) → A
 | 0, _, _, _, _, _, _ => z
 | k + 1, x4, x8, x9, x10, x11, K0 =>
  if x10 < x9 then
   inI z x10 (x8.length) fun j6 =>
   inI z x10 (x11.length) fun j7 =>
   inI z x10 (x11.length) fun j8 =>
   impl_field_with_c178.g10 z k x4 x8 x9 (w64 (x10 + 1)) (x11.set j8 (w64 ((x11.getD j7 0) + (w64 (x4 * (x8.getD j6 0)))))) K0
  else
   K0 x11
def impl_field_with_c178.g4 {A : Type} (z : A) : Nat → Int → List (List Int) → Int → List Int → Int → Int → List Int → (List Int → A) → A
 | 0, _, _, _, _, _, _, _, _ => z
 | k + 1, x0, x2, x3, x4, x5, x6, x7, K0 =>
  if x6 < x5 then
   inI z x6 (x4.length) fun j2 =>
   impl_field_image_1 z k x6 x3 fun v3 =>
   impl_around z k v3 x0 fun v4 =>
   inI z v4 (x2.length) fun j5 =>
   impl_field_with_c178.g10 z k (x4.getD j2 0) (x2.getD j5 []) ((x2.getD j5 []).length : Int) 0 x7 (fun v9 =>
    impl_field_with_c178.g4 z k x0 x2 x3 x4 x5 (w64 (x6 + 1)) v9 K0)
  else
   K0 x7
def impl_field_with_c178 {A : Type} (z : A) : Nat → Int → Int → List (List Int) → List Int → Int → (List Int → A) → A := step (fun _ _ _ _ _ _ => z) fun k a0 a1 a2 a3 a4 Φ =>
  mkI z 8 a1 fun m1 =>
  impl_field_with_c178.g4 z k a0 a2 a4 a3 (a3.length : Int) 0 (List.replicate m1 (0 : Int)) Φ
def impl_field_image {A : Type} (z : A) : Nat → Int → Int → List (List Int) → List Int → Int → (List Int → A) → A := step (fun _ _ _ _ _ _ => z) fun k a0 a1 a2 a3 a4 Φ =>
  impl_field_with_c178 z k a0 a1 a2 a3 a4 Φ
def impl_field_images.g4 {A : Type} (z : A) : Nat → Int → Int → List (List Int) → List Int → Int → Int → List (List Int) → List Int → (List (List Int) → A) → A
 | 0, _, _, _, _, _, _, _, _, _ => z
 | k + 1, x0, x1, x2, x3, x4, x5, x6, x7, K0 =>
  if x5 < x4 then
   inI z x5 (x7.length) fun j2 =>
   impl_field_image z k x0 x1 x2 x3 (x7.getD j2 0) fun v3 =>
   apI z ((x6.length) + 1) 24 <|
   impl_field_images.g4 z k x0 x1 x2 x3 x4 (w64 (x5 + 1)) (x6 ++ [v3]) x7 K0
  else
   K0 x6
def impl_field_images {A : Type} (z : A) : Nat → Int → Int → List (List Int) → List Int → (List (List Int) → A) → A := step (fun _ _ _ _ _ => z) fun k a0 a1 a2 a3 Φ =>
  impl_unitsOf z k a0 fun v1 =>
  impl_field_images.g4 z k a0 a1 a2 a3 (v1.length : Int) 0 [] v1 Φ
def impl_field_whole {A : Type} (z : A) : Nat → Int → Int → List (List Int) → Int → (List Int → A) → A := step (fun _ _ _ _ _ => z) fun k a0 a1 a2 a3 Φ =>
  mkI z 8 a1 fun m1 =>
  inI z 0 ((List.replicate m1 (0 : Int)).length) fun j2 =>
  Φ ((List.replicate m1 (0 : Int)).set j2 a3)
def impl_sum_add {A : Type} (z : A) : Nat → Int → Nat → Int → Int → (Int → Nat → A) → A := step (fun _ _ _ _ _ => z) fun k a0 a1 a2 a3 Φ =>
  optN z ((FloatKind.format .f64).mul (FloatKind.nearest .f64 a2) (FloatKind.nearest .f64 a3)) fun f1 =>
  optN z ((FloatKind.format .f64).add a1 f1) fun f2 =>
  Φ (w64 (a0 + (w64 (a2 * a3)))) f2
def impl_field_product.g15 {A : Type} (z : A) : Nat → Int → Int → List Int → Int → Int → List (Int × Nat) → (List (Int × Nat) → A) → A
 | 0, _, _, _, _, _, _, _ => z
 | k + 1, x5, x6, x13, x14, x15, x16, K0 =>
  if x15 < x14 then
   inI z x15 (x13.length) fun j4 =>
   if (x13.getD j4 0) ≠ 0 then
    inI z x15 (x16.length) fun j5 =>
    impl_sum_add z k ((x16.getD j5 (0, 0)).1) ((x16.getD j5 (0, 0)).2) (w64 ((x13.getD j4 0) * x5)) x6 fun v6 v7 =>
    impl_field_product.g15 z k x5 x6 x13 x14 (w64 (x15 + 1)) (x16.set j5 (v6, v7)) K0
   else
    impl_field_product.g15 z k x5 x6 x13 x14 (w64 (x15 + 1)) x16 K0
  else
   K0 x16
def impl_field_product.g7 {A : Type} (z : A) : Nat → Int → List (List Int) → Int → Int → List Int → Int → Int → List (Int × Nat) → (List (Int × Nat) → A) → A
 | 0, _, _, _, _, _, _, _, _, _ => z
 | k + 1, x0, x2, x4, x5, x9, x10, x11, x12, K0 =>
  if x11 < x10 then
   inI z x11 (x9.length) fun j2 =>
   if x5 = 0 then
    impl_field_product.g7 z k x0 x2 x4 x5 x9 x10 (w64 (x11 + 1)) x12 K0
   else if (x9.getD j2 0) = 0 then
    impl_field_product.g7 z k x0 x2 x4 x5 x9 x10 (w64 (x11 + 1)) x12 K0
   else
    gd z (x0 ≠ 0) <|
    inI z ((w64 (x4 + x11)).tmod x0) (x2.length) fun j3 =>
    impl_field_product.g15 z k x5 (x9.getD j2 0) (x2.getD j3 []) ((x2.getD j3 []).length : Int) 0 x12 (fun v8 =>
     impl_field_product.g7 z k x0 x2 x4 x5 x9 x10 (w64 (x11 + 1)) v8 K0)
  else
   K0 x12
def impl_field_product.g1 {A : Type} (z : A) : Nat → Int → List (List Int) → List Int → List Int → Int → Int → List (Int × Nat) → (List (Int × Nat) → A) → A
 | 0, _, _, _, _, _, _, _, _ => z
 | k + 1, x0, x2, x3, x4, x5, x6, x7, K0 =>
  if x6 < x5 then
   inI z x6 (x4.length) fun j1 =>
   impl_field_product.g7 z k x0 x2 x6 (x4.getD j1 0) x3 (x3.length : Int) 0 x7 (fun v9 =>
    impl_field_product.g1 z k x0 x2 x3 x4 x5 (w64 (x6 + 1)) v9 K0)
  else
   K0 x7
def impl_field_product {A : Type} (z : A) : Nat → Int → Int → List (List Int) → List (Int × Nat) → List Int → List Int → (List (Int × Nat) → A) → A := step (fun _ _ _ _ _ _ _ => z) fun k a0 a1 a2 a3 a4 a5 Φ =>
  impl_field_product.g1 z k a0 a2 a5 a4 (a4.length : Int) 0 a3 Φ
def impl_sum_value {A : Type} (z : A) : Nat → Int → Nat → (Int → Bool → A) → A := step (fun _ _ _ => z) fun k a0 a1 Φ =>
  impl_within z k a0 (-1000000000) 1000000000 fun v1 =>
  bif v1 then
   bif (FloatKind.format .f64).order a1 4876203697187506176 == some .lt then
    Φ a0 ((FloatKind.format .f64).order a1 14099575734042281984 == some .gt)
   else
    Φ a0 false
  else
   Φ a0 false
def impl_values.g4 {A : Type} (z : A) : Nat → List (Int × Nat) → Bool → Int → Int → List Int → (Bool → List Int → A) → A
 | 0, _, _, _, _, _, _ => z
 | k + 1, x0, x1, x2, x3, x4, K0 =>
  if x3 < x2 then
   inI z x3 (x0.length) fun j1 =>
   impl_sum_value z k ((x0.getD j1 (0, 0)).1) ((x0.getD j1 (0, 0)).2) fun v2 v3 =>
   apI z ((x4.length) + 1) 8 <|
   bif x1 then
    impl_values.g4 z k x0 v3 x2 (w64 (x3 + 1)) (x4 ++ [v2]) K0
   else
    impl_values.g4 z k x0 false x2 (w64 (x3 + 1)) (x4 ++ [v2]) K0
  else
   K0 x1 x4
def impl_values {A : Type} (z : A) : Nat → List (Int × Nat) → (List Int → Bool → A) → A := step (fun _ _ => z) fun k a0 Φ =>
  impl_values.g4 z k a0 true (a0.length : Int) 0 [] (fun v4 v5 =>
   Φ v5 v4)
def impl_field_times {A : Type} (z : A) : Nat → Int → Int → List (List Int) → List Int → List Int → (List Int → Bool → A) → A := step (fun _ _ _ _ _ _ => z) fun k a0 a1 a2 a3 a4 Φ =>
  mkI z 16 a1 fun m1 =>
  impl_field_product z k a0 a1 a2 (List.replicate m1 ((0 : Int), (0 : Nat))) a3 a4 fun v2 =>
  impl_values z k v2 Φ
def impl_field_all.g4 {A : Type} (z : A) : Nat → Int → Int → List (List Int) → List (List Int) → Int → Int → List Int → (Bool → List Int → A) → (List Int → A) → A
 | 0, _, _, _, _, _, _, _, _, _ => z
 | k + 1, x0, x1, x2, x3, x4, x5, x6, K0, K1 =>
  if x5 < x4 then
   inI z x5 (x3.length) fun j2 =>
   impl_field_times z k x0 x1 x2 x6 (x3.getD j2 []) fun v3 v4 =>
   bif !v4 then
    K0 false []
   else
    impl_field_all.g4 z k x0 x1 x2 x3 x4 (w64 (x5 + 1)) v3 K0 K1
  else
   K1 x6
def impl_field_all {A : Type} (z : A) : Nat → Int → Int → List (List Int) → List (List Int) → (List Int → Bool → A) → A := step (fun _ _ _ _ _ => z) fun k a0 a1 a2 a3 Φ =>
  impl_field_whole z k a0 a1 a2 1 fun v1 =>
  impl_field_all.g4 z k a0 a1 a2 a3 (a3.length : Int) 0 v1 (fun v5 v6 =>
   Φ v6 v5) (fun v7 =>
   Φ v7 true)
def impl_field_norm {A : Type} (z : A) : Nat → Int → Int → List (List Int) → List Int → (Int → Bool → A) → A := step (fun _ _ _ _ _ => z) fun k a0 a1 a2 a3 Φ =>
  impl_field_images z k a0 a1 a2 a3 fun v1 =>
  impl_field_all z k a0 a1 a2 v1 fun v2 v3 =>
  bif !v3 then
   Φ 0 false
  else
   inI z 0 (v2.length) fun j4 =>
   Φ (v2.getD j4 0) true
def impl_field_divide.g12 {A : Type} (z : A) : Nat → Int → Int → Int → List Int → (Int → List Int → A) → (List Int → A) → A
 | 0, _, _, _, _, _, _ => z
 | k + 1, x0, x1, x2, x3, K0, K1 =>
  if x2 < x1 then
   inI z x2 (x3.length) fun j9 =>
   gd z (x0 ≠ 0) <|
   if ((x3.getD j9 0).tmod x0) ≠ 0 then
    K0 4 []
   else
    gd z (x0 ≠ 0) <|
    inI z x2 (x3.length) fun j10 =>
    impl_field_divide.g12 z k x0 x1 (w64 (x2 + 1)) (x3.set j10 (w64 ((x3.getD j9 0).tdiv x0))) K0 K1
  else
   K1 x3
def impl_field_divide {A : Type} (z : A) : Nat → Int → Int → List (List Int) → List Int → List Int → (List Int → Int → A) → A := step (fun _ _ _ _ _ _ => z) fun k a0 a1 a2 a3 a4 Φ =>
  impl_field_images z k a0 a1 a2 a4 fun v1 =>
  toI z 1 (v1.length) fun j2 =>
  impl_field_all z k a0 a1 a2 ((v1.drop j2).take ((v1.length) - j2)) fun v3 v4 =>
  impl_field_norm z k a0 a1 a2 a4 fun v5 v6 =>
  bif !v4 then
   Φ [] 3
  else bif !v6 then
   Φ [] 3
  else
   impl_field_times z k a0 a1 a2 a3 v3 fun v7 v8 =>
   bif !v8 then
    Φ [] 3
   else
    impl_field_divide.g12 z k v5 (v7.length : Int) 0 v7 (fun v11 v12 =>
     Φ v12 v11) (fun v13 =>
     Φ v13 0)
def impl_cycloOf {A : Type} (z : A) : Nat → Int → List Int → (Int → List Int → Int → A) → A := step (fun _ _ _ => z) fun k a0 a1 Φ =>
  impl_areSmall z k a1 1000000000 fun v1 =>
  bif !v1 then
   Φ 0 [] 3
  else
   Φ a0 a1 0
def impl_DivideCyclos {A : Type} (z : A) : Nat → Int → List Int → Int → List Int → (Int → List Int → Int → A) → A := step (fun _ _ _ _ _ => z) fun k a0 a1 a2 a3 Φ =>
  impl_twoCode z k a0 a1 a2 a3 fun v1 =>
  if v1 ≠ 0 then
   Φ 0 [] v1
  else
   impl_isZero z k a3 fun v2 =>
   bif v2 then
    Φ 0 [] 5
   else
    impl_fieldOf z k a0 fun v3 v4 v5 =>
    impl_field_divide z k v3 v4 v5 a1 a3 fun v6 v7 =>
    if v7 ≠ 0 then
     Φ 0 [] v7
    else
     impl_cycloOf z k a0 v6 Φ
def spec_l01Same.g6 {A : Type} (z : A) : Nat → Int → List Int → List Int → (Bool → A) → A → A
 | 0, _, _, _, _, _ => z
 | k + 1, x0, x2, x4, K0, K1 =>
  if x0 < (x2.length : Int) then
   inI z x0 (x2.length) fun j1 =>
   inI z x0 (x4.length) fun j2 =>
   if (x2.getD j1 0) ≠ (x4.getD j2 0) then
    K0 false
   else
    spec_l01Same.g6 z k (w64 (x0 + 1)) x2 x4 K0 K1
  else
   K1
def spec_l01Same {A : Type} (z : A) : Nat → Int → List Int → Int → List Int → (Bool → A) → A := step (fun _ _ _ _ _ => z) fun k a0 a1 a2 a3 Φ =>
  if a0 ≠ a2 then
   Φ false
  else if (a1.length : Int) ≠ (a3.length : Int) then
   Φ false
  else
   spec_l01Same.g6 z k 0 a1 a3 Φ (Φ true)
def spec_l02Null {A : Type} (z : A) : Nat → Int → List Int → (Bool → A) → A := step (fun _ _ _ => z) fun k a0 a1 Φ =>
  spec_l01Zero z k a0 fun v1 v2 =>
  spec_l01Same z k a0 a1 v1 v2 Φ
def spec_l01Galois.g5 {A : Type} (z : A) : Nat → Int → Int → Int → List Int → List Int → (List Int → A) → A
 | 0, _, _, _, _, _, _ => z
 | k + 1, x0, x1, x2, x4, x6, K0 =>
  if x2 < (x4.length : Int) then
   gd z (x1 ≠ 0) <|
   let y1 := (w64 (x2 * x0)).tmod x1
   let y2 := w64 (y1 + x1)
   gd z (x1 ≠ 0) <|
   let y3 := y2.tmod x1
   inI z y3 (x6.length) fun j2 =>
   inI z x2 (x4.length) fun j3 =>
   inI z y3 (x6.length) fun j4 =>
   spec_l01Galois.g5 z k x0 x1 (w64 (x2 + 1)) x4 (x6.set j4 (w64 ((x6.getD j2 0) + (x4.getD j3 0)))) K0
  else
   K0 x6
def spec_l01Galois {A : Type} (z : A) : Nat → Int → List Int → Int → (Int → List Int → A) → A := step (fun _ _ _ _ => z) fun k a0 a1 a2 Φ =>
  mkI z 8 a0 fun m1 =>
  spec_l01Galois.g5 z k a2 a0 0 a1 (List.replicate m1 (0 : Int)) (fun v5 =>
   spec_l01Reduce z k a0 v5 Φ)
def spec_l02Images.g4 {A : Type} (z : A) : Nat → Int → Int → List Int → List (Int × List Int) → List Int → (List (Int × List Int) → List Int → A) → A
 | 0, _, _, _, _, _, _ => z
 | k + 1, x0, x1, x2, x3, x4, K0 =>
  if x0 ≤ x1 then
   spec_l01Gcd z k x0 x1 fun v1 =>
   if v1 = 1 then
    spec_l01Galois z k x1 x2 x0 fun v2 v3 =>
    apI z ((x3.length) + 1) 32 <|
    apI z ((x4.length) + 1) 8 <|
    spec_l02Images.g4 z k (w64 (x0 + 1)) x1 x2 (x3 ++ [(v2, v3)]) (x4 ++ [x0]) K0
   else
    spec_l02Images.g4 z k (w64 (x0 + 1)) x1 x2 x3 x4 K0
  else
   K0 x3 x4
def spec_l02Images {A : Type} (z : A) : Nat → Int → List Int → (List (Int × List Int) → List Int → A) → A := step (fun _ _ _ => z) fun k a0 a1 Φ =>
  spec_l02Images.g4 z k 1 a0 a1 [] [] Φ
def spec_l01Unit {A : Type} (z : A) : Nat → Int → Int → (Int → List Int → A) → A := step (fun _ _ _ => z) fun k a0 a1 Φ =>
  gd z (a0 ≠ 0) <|
  let y1 := w64 ((a1.tmod a0) + a0)
  gd z (a0 ≠ 0) <|
  let y2 := y1.tmod a0
  mkI z 8 (w64 (y2 + 1)) fun m1 =>
  inI z y2 ((List.replicate m1 (0 : Int)).length) fun j2 =>
  spec_l01Reduce z k a0 ((List.replicate m1 (0 : Int)).set j2 1) Φ
def spec_l01One {A : Type} (z : A) : Nat → Int → (Int → List Int → A) → A := step (fun _ _ => z) fun k a0 Φ =>
  spec_l01Unit z k a0 0 Φ
def spec_l02Product.g5 {A : Type} (z : A) : Nat → Int → List (Int × List Int) → Int → List Int → (Bool → Int → List Int → A) → (Int → List Int → A) → A
 | 0, _, _, _, _, _, _ => z
 | k + 1, x0, x2, x3, x5, K0, K1 =>
  if x0 < (x2.length : Int) then
   inI z x0 (x2.length) fun j5 =>
   spec_l01Times z k x3 x5 ((x2.getD j5 (0, [])).1) ((x2.getD j5 (0, [])).2) fun v6 v7 v8 =>
   bif !v8 then
    K0 false 0 []
   else
    spec_l02Product.g5 z k (w64 (x0 + 1)) x2 v6 v7 K0 K1
  else
   K1 x3 x5
def spec_l02Product {A : Type} (z : A) : Nat → Int → List Int → Int → (Int → List Int → Bool → A) → A := step (fun _ _ _ _ => z) fun k a0 a1 a2 Φ =>
  spec_l02Images z k a0 a1 fun v1 v2 =>
  spec_l01One z k a0 fun v3 v4 =>
  spec_l02Product.g5 z k a2 v1 v3 v4 (fun v9 v10 v11 =>
   Φ v10 v11 v9) (fun v12 v13 =>
   Φ v12 v13 true)
def spec_l02Divide.g13 {A : Type} (z : A) : Nat → Int → List Int → List Int → List Int → (Int → Int → List Int → A) → (List Int → A) → A
 | 0, _, _, _, _, _, _ => z
 | k + 1, x0, x6, x7, x8, K0, K1 =>
  if x0 < (x8.length : Int) then
   inI z x0 (x7.length) fun j12 =>
   inI z 0 (x6.length) fun j13 =>
   gd z ((x6.getD j13 0) ≠ 0) <|
   if ((x7.getD j12 0).tmod (x6.getD j13 0)) ≠ 0 then
    K0 4 0 []
   else
    inI z x0 (x7.length) fun j14 =>
    inI z 0 (x6.length) fun j15 =>
    gd z ((x6.getD j15 0) ≠ 0) <|
    inI z x0 (x8.length) fun j16 =>
    spec_l02Divide.g13 z k (w64 (x0 + 1)) x6 x7 (x8.set j16 (w64 ((x7.getD j14 0).tdiv (x6.getD j15 0)))) K0 K1
  else
   K1 x8
def spec_l02Divide {A : Type} (z : A) : Nat → Int → List Int → Int → List Int → (Int → List Int → Int → A) → A := step (fun _ _ _ _ _ => z) fun k a0 a1 a2 a3 Φ =>
  spec_l02Product z k a2 a3 1 fun v1 v2 v3 =>
  spec_l02Product z k a2 a3 0 fun v4 v5 v6 =>
  bif !v3 then
   Φ 0 [] 3
  else bif !v6 then
   Φ 0 [] 3
  else
   spec_l01Times z k a0 a1 v1 v2 fun v7 v8 v9 =>
   bif !v9 then
    Φ 0 [] 3
   else
    spec_l01Zero z k a0 fun v10 v11 =>
    spec_l02Divide.g13 z k 0 v5 v8 v11 (fun v17 v18 v19 =>
     Φ v18 v19 v17) (fun v20 =>
     Φ v10 v20 0)
def spec_DivideCyclos.g2 {A : Type} (z : A) : Nat → Int → Int → List Int → Int → List Int → (Int → Int → List Int → A) → A
 | 0, _, _, _, _, _, _ => z
 | k + 1, x0, x1, x2, x3, x4, K0 =>
  if x0 ≠ 0 then
   K0 x0 0 []
  else
   spec_l02Divide z k x1 x2 x3 x4 fun v3 v4 v5 =>
   K0 v5 v3 v4
def spec_DivideCyclos {A : Type} (z : A) : Nat → Int → List Int → Int → List Int → (Int → List Int → Int → A) → A := step (fun _ _ _ _ _ => z) fun k a0 a1 a2 a3 Φ =>
  spec_l01Like z k a0 a1 a2 a3 fun v1 =>
  if v1 = 0 then
   spec_l02Null z k a2 a3 fun v2 =>
   bif v2 then
    spec_DivideCyclos.g2 z k 5 a0 a1 a2 a3 (fun v6 v7 v8 =>
     Φ v7 v8 v6)
   else
    spec_DivideCyclos.g2 z k v1 a0 a1 a2 a3 (fun v9 v10 v11 =>
     Φ v10 v11 v9)
  else
   spec_DivideCyclos.g2 z k v1 a0 a1 a2 a3 (fun v12 v13 v14 =>
    Φ v13 v14 v12)
def laws_likeInts.g6 {A : Type} (z : A) : Nat → List Int → List Int → Int → (Bool → A) → A → A
 | 0, _, _, _, _, _ => z
 | k + 1, x0, x1, x2, K0, K1 =>
  if x2 < (x0.length : Int) then
   inI z x2 (x0.length) fun j1 =>
   inI z x2 (x1.length) fun j2 =>
   if (x0.getD j1 0) ≠ (x1.getD j2 0) then
    K0 false
   else
    laws_likeInts.g6 z k x0 x1 (w64 (x2 + 1)) K0 K1
  else
   K1
def laws_likeInts {A : Type} (z : A) : Nat → List Int → List Int → (Bool → A) → A := step (fun _ _ _ => z) fun k a0 a1 Φ =>
  if (a0.length : Int) ≠ (a1.length : Int) then
   Φ false
  else
   laws_likeInts.g6 z k a0 a1 0 Φ (Φ true)
def laws_cyclo9 {A : Type} (z : A) : Nat → Int → List Int → Int → List Int → (Bool → A) → A := step (fun _ _ _ _ _ => z) fun k a0 a1 a2 a3 Φ =>
  if a0 = a2 then
   laws_likeInts z k a1 a3 Φ
  else
   Φ false
def spec_l01Plus.g4 {A : Type} (z : A) : Nat → Int → Int → List Int → List Int → (List Int → A) → A
 | 0, _, _, _, _, _ => z
 | k + 1, x0, x1, x3, x7, K0 =>
  if x1 < (x3.length : Int) then
   inI z x1 (x7.length) fun j2 =>
   inI z x1 (x3.length) fun j3 =>
   inI z x1 (x7.length) fun j4 =>
   spec_l01Plus.g4 z k x0 (w64 (x1 + 1)) x3 (x7.set j4 (w64 ((x7.getD j2 0) + (w64 (x0 * (x3.getD j3 0)))))) K0
  else
   K0 x7
def spec_l01Plus {A : Type} (z : A) : Nat → Int → List Int → Int → List Int → Int → (Int → List Int → A) → A := step (fun _ _ _ _ _ _ => z) fun k a0 a1 a2 a3 a4 Φ =>
  spec_l01Own z k a1 fun v1 =>
  spec_l01Plus.g4 z k a4 0 a3 v1 (fun v5 =>
   Φ a0 v5)
def spec_l02Unit.g9 {A : Type} (z : A) : Nat → Int → Int → Int → Int → List Int → (Int → List Int → A) → A
 | 0, _, _, _, _, _, _ => z
 | k + 1, x0, x1, x2, x7, x9, K0 =>
  if x2 ≤ x1 then
   spec_l01Unit z k x0 x2 fun v21 v22 =>
   spec_l01Plus z k x7 x9 v21 v22 1 fun v23 v24 =>
   spec_l02Unit.g9 z k x0 x1 (w64 (x2 + 1)) v23 v24 K0
  else
   K0 x7 x9
def spec_l02Unit {A : Type} (z : A) : Nat → List Int → Int → Int → (List Int → Int → Int → Int → List Int → A) → A := step (fun _ _ _ _ => z) fun k a0 a1 a2 Φ =>
  spec_l01DrawOrder z k a0 a1 a2 fun v1 v2 v3 v4 =>
  spec_l01Next z k v1 v2 v3 40 fun v5 v6 v7 v8 =>
  spec_l01Unit z k v4 v8 fun v9 v10 =>
  spec_l01Next z k v5 v6 v7 5 fun v11 v12 v13 v14 =>
  spec_l01Next z k v11 v12 v13 2 fun v15 v16 v17 v18 =>
  if v18 = 0 then
   spec_l01Zero z k v4 fun v19 v20 =>
   spec_l02Unit.g9 z k v4 v14 0 v19 v20 (fun v25 v26 =>
    Φ v15 v16 v17 v25 v26)
  else
   spec_l01Next z k v15 v16 v17 4 fun v27 v28 v29 v30 =>
   if v30 = 0 then
    spec_l02Draw z k v27 v28 v29 Φ
   else
    Φ v27 v28 v29 v9 v10
def spec_DrawIsUnit {A : Type} (z : A) : Nat → List Int → (Int → List Int → A) → A := step (fun _ _ => z) fun k a0 Φ =>
  spec_l01From z k a0 fun v1 v2 v3 =>
  spec_l02Unit z k v1 v2 v3 fun v4 v5 v6 v7 v8 =>
  Φ v7 v8
def impl_NormOf {A : Type} (z : A) : Nat → Int → List Int → (Int → Int → A) → A := step (fun _ _ _ => z) fun k a0 a1 Φ =>
  impl_IsCyclo z k a0 a1 fun v1 =>
  bif !v1 then
   Φ 0 1
  else
   impl_fieldOf z k a0 fun v2 v3 v4 =>
   impl_field_norm z k v2 v3 v4 a1 fun v5 v6 =>
   bif !v6 then
    Φ 0 3
   else
    Φ v5 0
def impl_IsUnit {A : Type} (z : A) : Nat → Int → List Int → (Bool → Int → A) → A := step (fun _ _ _ => z) fun k a0 a1 Φ =>
  impl_NormOf z k a0 a1 fun v1 v2 =>
  impl_size z k v1 fun v3 =>
  Φ (decide (v3 = 1)) v2
def spec_NormOf {A : Type} (z : A) : Nat → Int → List Int → (Int → Int → A) → A := step (fun _ _ _ => z) fun k a0 a1 Φ =>
  spec_l01Is z k a0 a1 fun v1 =>
  bif !v1 then
   Φ 0 1
  else
   spec_l02Product z k a0 a1 0 fun v2 v3 v4 =>
   bif !v4 then
    Φ 0 3
   else
    inI z 0 (v3.length) fun j5 =>
    Φ (v3.getD j5 0) 0
def spec_IsUnit {A : Type} (z : A) : Nat → Int → List Int → (Bool → Int → A) → A := step (fun _ _ _ => z) fun k a0 a1 Φ =>
  spec_NormOf z k a0 a1 fun v1 v2 =>
  if v2 ≠ 0 then
   Φ false v2
  else if v1 = 1 then
   Φ true 0
  else
   Φ (decide (v1 = (-1))) 0
def spec_DrawInverseOf {A : Type} (z : A) : Nat → List Int → (Int → List Int → A) → A := step (fun _ _ => z) fun k a0 Φ =>
  spec_l01From z k a0 fun v1 v2 v3 =>
  spec_l02Unit z k v1 v2 v3 fun v4 v5 v6 v7 v8 =>
  Φ v7 v8
def impl_InverseOf {A : Type} (z : A) : Nat → Int → List Int → (Int → List Int → Int → A) → A := step (fun _ _ _ => z) fun k a0 a1 Φ =>
  impl_IsCyclo z k a0 a1 fun v1 =>
  bif !v1 then
   Φ 0 [] 1
  else
   impl_isZero z k a1 fun v2 =>
   bif v2 then
    Φ 0 [] 5
   else
    impl_fieldOf z k a0 fun v3 v4 v5 =>
    impl_field_whole z k v3 v4 v5 1 fun v6 =>
    impl_field_divide z k v3 v4 v5 v6 a1 fun v7 v8 =>
    if v8 ≠ 0 then
     Φ 0 [] v8
    else
     impl_cycloOf z k a0 v7 Φ
def spec_InverseOf {A : Type} (z : A) : Nat → Int → List Int → (Int → List Int → Int → A) → A := step (fun _ _ _ => z) fun k a0 a1 Φ =>
  spec_l01Is z k a0 a1 fun v1 =>
  bif !v1 then
   Φ 0 [] 1
  else
   spec_l02Null z k a0 a1 fun v2 =>
   bif v2 then
    Φ 0 [] 5
   else
    spec_l01One z k a0 fun v3 v4 =>
    spec_l02Divide z k v3 v4 a0 a1 Φ
def spec_DrawAreAssociated {A : Type} (z : A) : Nat → List Int → (Int → List Int → Int → List Int → A) → A := step (fun _ _ => z) fun k a0 Φ =>
  spec_l01From z k a0 fun v1 v2 v3 =>
  spec_l02Pair z k v1 v2 v3 fun v4 v5 v6 v7 v8 v9 v10 =>
  spec_l01Is z k v7 v8 fun v11 =>
  bif v11 then
   spec_l01Next z k v4 v5 v6 2 fun v12 v13 v14 v15 =>
   if v15 = 0 then
    spec_l01Next z k v12 v13 v14 20 fun v16 v17 v18 v19 =>
    spec_l01Unit z k v7 v19 fun v20 v21 =>
    spec_l01Times z k v7 v8 v20 v21 fun v22 v23 v24 =>
    Φ v7 v8 v22 v23
   else
    Φ v7 v8 v9 v10
  else
   Φ v7 v8 v9 v10
def impl_AreAssociated {A : Type} (z : A) : Nat → Int → List Int → Int → List Int → (Bool → Int → A) → A := step (fun _ _ _ _ _ => z) fun k a0 a1 a2 a3 Φ =>
  impl_twoCode z k a0 a1 a2 a3 fun v1 =>
  if v1 ≠ 0 then
   Φ false v1
  else
   impl_isZero z k a1 fun v2 =>
   bif v2 then
    impl_isZero z k a1 fun v3 =>
    bif v3 then
     impl_isZero z k a3 fun v4 =>
     Φ v4 0
    else
     Φ false 0
   else
    impl_isZero z k a3 fun v5 =>
    bif v5 then
     impl_isZero z k a1 fun v6 =>
     bif v6 then
      impl_isZero z k a3 fun v7 =>
      Φ v7 0
     else
      Φ false 0
    else
     impl_fieldOf z k a0 fun v8 v9 v10 =>
     impl_field_divide z k v8 v9 v10 a1 a3 fun v11 v12 =>
     impl_field_divide z k v8 v9 v10 a3 a1 fun v13 v14 =>
     if v12 = 3 then
      Φ false 3
     else if v14 = 3 then
      Φ false 3
     else if v12 = 0 then
      Φ (decide (v14 = 0)) 0
     else
      Φ false 0
def spec_AreAssociated {A : Type} (z : A) : Nat → Int → List Int → Int → List Int → (Bool → Int → A) → A := step (fun _ _ _ _ _ => z) fun k a0 a1 a2 a3 Φ =>
  spec_l01Like z k a0 a1 a2 a3 fun v1 =>
  if v1 ≠ 0 then
   Φ false v1
  else
   spec_l02Null z k a0 a1 fun v2 =>
   bif v2 then
    spec_l02Null z k a0 a1 fun v3 =>
    bif v3 then
     spec_l02Null z k a2 a3 fun v4 =>
     Φ v4 0
    else
     Φ false 0
   else
    spec_l02Null z k a2 a3 fun v5 =>
    bif v5 then
     spec_l02Null z k a0 a1 fun v6 =>
     bif v6 then
      spec_l02Null z k a2 a3 fun v7 =>
      Φ v7 0
     else
      Φ false 0
    else
     spec_l02Divide z k a0 a1 a2 a3 fun v8 v9 v10 =>
     spec_l02Divide z k a2 a3 a0 a1 fun v11 v12 v13 =>
     if v10 = 3 then
      Φ false 3
     else if v13 = 3 then
      Φ false 3
     else if v10 = 0 then
      Φ (decide (v13 = 0)) 0
     else
      Φ false 0
def impl_MultiplyCyclos {A : Type} (z : A) : Nat → Int → List Int → Int → List Int → (Int → List Int → Int → A) → A := step (fun _ _ _ _ _ => z) fun k a0 a1 a2 a3 Φ =>
  impl_twoCode z k a0 a1 a2 a3 fun v1 =>
  if v1 ≠ 0 then
   Φ 0 [] v1
  else
   impl_fieldOf z k a0 fun v2 v3 v4 =>
   impl_field_times z k v2 v3 v4 a1 a3 fun v5 v6 =>
   bif !v6 then
    Φ 0 [] 3
   else
    impl_cycloOf z k a0 v5 Φ
def impl_PowerOfZ_1 {A : Type} (z : A) : Nat → Int → Int → (Int → A) → A := step (fun _ _ _ => z) fun k a0 a1 Φ =>
  Φ a1
def impl_field_with_c155.g10 {A : Type} (z : A) : Nat → Int → List Int → Int → Int → List Int → (List Int → A) → A
 | 0, _, _, _, _, _, _ => z
 | k + 1, x4, x8, x9, x10, x11, K0 =>
  if x10 < x9 then
   inI z x10 (x8.length) fun j6 =>
   inI z x10 (x11.length) fun j7 =>
   inI z x10 (x11.length) fun j8 =>
   impl_field_with_c155.g10 z k x4 x8 x9 (w64 (x10 + 1)) (x11.set j8 (w64 ((x11.getD j7 0) + (w64 (x4 * (x8.getD j6 0)))))) K0
  else
   K0 x11
def impl_field_with_c155.g4 {A : Type} (z : A) : Nat → Int → List (List Int) → Int → List Int → Int → Int → List Int → (List Int → A) → A
 | 0, _, _, _, _, _, _, _, _ => z
 | k + 1, x0, x2, x3, x4, x5, x6, x7, K0 =>
  if x6 < x5 then
   inI z x6 (x4.length) fun j2 =>
   impl_PowerOfZ_1 z k x6 x3 fun v3 =>
   impl_around z k v3 x0 fun v4 =>
   inI z v4 (x2.length) fun j5 =>
   impl_field_with_c155.g10 z k (x4.getD j2 0) (x2.getD j5 []) ((x2.getD j5 []).length : Int) 0 x7 (fun v9 =>
    impl_field_with_c155.g4 z k x0 x2 x3 x4 x5 (w64 (x6 + 1)) v9 K0)
  else
   K0 x7
def impl_field_with_c155 {A : Type} (z : A) : Nat → Int → Int → List (List Int) → List Int → Int → (List Int → A) → A := step (fun _ _ _ _ _ _ => z) fun k a0 a1 a2 a3 a4 Φ =>
  mkI z 8 a1 fun m1 =>
  impl_field_with_c155.g4 z k a0 a2 a4 a3 (a3.length : Int) 0 (List.replicate m1 (0 : Int)) Φ
def impl_PowerOfZ {A : Type} (z : A) : Nat → Int → Int → (Int → List Int → Int → A) → A := step (fun _ _ _ => z) fun k a0 a1 Φ =>
  impl_isOrder z k a0 fun v1 =>
  bif !v1 then
   Φ 0 [] 2
  else
   impl_within z k a1 (-1000) 1000 fun v2 =>
   bif !v2 then
    Φ 0 [] 2
   else
    impl_fieldOf z k a0 fun v3 v4 v5 =>
    impl_field_with_c155 z k v3 v4 v5 [1] a1 fun v6 =>
    impl_cycloOf z k a0 v6 Φ
def laws_FnDivision.g34 {A : Type} (z : A) : Nat → Int → Int → List Int → Int → List Int → Int → List Int → (Bool → A) → A
 | 0, _, _, _, _, _, _, _, _ => z
 | k + 1, x0, x1, x2, x3, x4, x5, x6, K0 =>
  if x0 ≠ 0 then
   K0 (decide ((x6.length : Int) = 0))
  else
   impl_MultiplyCyclos z k x5 x6 x3 x4 fun v47 v48 v49 =>
   if v49 = 0 then
    laws_cyclo9 z k v47 v48 x1 x2 K0
   else
    K0 false
def laws_FnDivision.g28 {A : Type} (z : A) : Nat → Int → Int → Int → List Int → Int → List Int → Int → List Int → Int → List Int → Int → List Int → (Bool → A) → A
 | 0, _, _, _, _, _, _, _, _, _, _, _, _, _ => z
 | k + 1, x0, x1, x2, x3, x4, x5, x6, x7, x8, x9, x10, x11, K0 =>
  if x1 = 0 then
   impl_MultiplyCyclos z k x8 x9 x10 x11 fun v40 v41 v42 =>
   impl_PowerOfZ z k x8 0 fun v43 v44 v45 =>
   if v42 ≠ 0 then
    K0 false
   else if v45 ≠ 0 then
    K0 false
   else
    laws_cyclo9 z k v40 v41 v43 v44 fun v46 =>
    bif !v46 then
     K0 false
    else
     laws_FnDivision.g34 z k x0 x2 x3 x4 x5 x6 x7 K0
  else
   laws_FnDivision.g34 z k x0 x2 x3 x4 x5 x6 x7 K0
def laws_FnDivision {A : Type} (z : A) : Nat → List Int → (Bool → A) → A := step (fun _ _ => z) fun k a0 Φ =>
  laws_big z k a0 fun v1 =>
  bif v1 then
   Φ true
  else
   spec_DrawDivideCyclos z k a0 fun v2 v3 v4 v5 =>
   impl_DivideCyclos z k v2 v3 v4 v5 fun v6 v7 v8 =>
   spec_DivideCyclos z k v2 v3 v4 v5 fun v9 v10 v11 =>
   if v8 ≠ v11 then
    Φ false
   else
    laws_cyclo9 z k v6 v7 v9 v10 fun v12 =>
    bif !v12 then
     Φ false
    else
     spec_DrawIsUnit z k a0 fun v13 v14 =>
     impl_IsUnit z k v13 v14 fun v15 v16 =>
     spec_IsUnit z k v13 v14 fun v17 v18 =>
     if v16 ≠ v18 then
      Φ false
     else if v15 ≠ v17 then
      Φ false
     else
      spec_DrawInverseOf z k a0 fun v19 v20 =>
      impl_InverseOf z k v19 v20 fun v21 v22 v23 =>
      spec_InverseOf z k v19 v20 fun v24 v25 v26 =>
      if v23 ≠ v26 then
       Φ false
      else
       laws_cyclo9 z k v21 v22 v24 v25 fun v27 =>
       bif !v27 then
        Φ false
       else
        spec_DrawAreAssociated z k a0 fun v28 v29 v30 v31 =>
        impl_AreAssociated z k v28 v29 v30 v31 fun v32 v33 =>
        spec_AreAssociated z k v28 v29 v30 v31 fun v34 v35 =>
        if v33 ≠ v35 then
         Φ false
        else if v32 ≠ v34 then
         Φ false
        else if v33 = 0 then
         bif v32 then
          impl_NormOf z k v28 v29 fun v36 v37 =>
          impl_NormOf z k v30 v31 fun v38 v39 =>
          if v37 = 0 then
           if v39 = 0 then
            if v36 ≠ v38 then
             if v36 ≠ (w64 (0 - v38)) then
              Φ false
             else
              laws_FnDivision.g28 z k v8 v23 v2 v3 v4 v5 v6 v7 v19 v20 v21 v22 Φ
            else
             laws_FnDivision.g28 z k v8 v23 v2 v3 v4 v5 v6 v7 v19 v20 v21 v22 Φ
           else
            laws_FnDivision.g28 z k v8 v23 v2 v3 v4 v5 v6 v7 v19 v20 v21 v22 Φ
          else
           laws_FnDivision.g28 z k v8 v23 v2 v3 v4 v5 v6 v7 v19 v20 v21 v22 Φ
         else
          laws_FnDivision.g28 z k v8 v23 v2 v3 v4 v5 v6 v7 v19 v20 v21 v22 Φ
        else
         laws_FnDivision.g28 z k v8 v23 v2 v3 v4 v5 v6 v7 v19 v20 v21 v22 Φ
end Go.Proofs.Ytdnpkbhapdkikaa.R
