/- What the functions tell, printed by a program of this repo. -/
import Derived.Test.YtbgbokflmekhmaaGreatZR5
/- x -/
namespace Go.Proofs.YtbgbokflmekhmaaGreat.R
set_option linter.unusedVariables false
def laws_big {A : Type} (z : A) : Nat → List Int → (Bool → A) → A := step (fun _ _ => z) fun k a0 Φ =>
  Φ (decide (4096 < (a0.length : Int)))
def spec_l01From.g4 {A : Type} (z : A) : Nat → List Int → Int → Int → (Int → A) → A
 | 0, _, _, _, _ => z
 | k + 1, x0, x1, x4, K0 =>
  if x1 < (x0.length : Int) then
   if x1 < 4096 then
    inI z x1 (x0.length) fun j1 =>
    spec_l01From.g4 z k x0 (w64 (x1 + 1)) (wu64 ((wu64 ((wu64 (x4 * 1099511628211)) + (wu64 (x0.getD j1 0)))) + 131)) K0
   else
    K0 x4
  else
   K0 x4
def spec_l01From {A : Type} (z : A) : Nat → List Int → (List Int → Int → Int → A) → A := step (fun _ _ => z) fun k a0 Φ =>
  spec_l01From.g4 z k a0 0 (wu64 (13131 + (wu64 (a0.length : Int)))) (fun v2 =>
   Φ a0 0 v2)
def spec_l01Next {A : Type} (z : A) : Nat → List Int → Int → Int → Int → (List Int → Int → Int → Int → A) → A := step (fun _ _ _ _ _ => z) fun k a0 a1 a2 a3 Φ =>
  if a3 < 1 then
   Φ a0 a1 a2 0
  else
   let y1 := wu64 (a2 * 6364136223846793005)
   let y2 := wu64 (y1 + 1442695040888963407)
   let y3 := y2.fdiv (2 ^ (31))
   let y4 := wu64 ((BitVec.ofInt 64 y3 &&& BitVec.ofInt 64 1073741823).toNat : Int)
   if a1 < (a0.length : Int) then
    inI z a1 (a0.length) fun j1 =>
    gd z (a3 ≠ 0) <|
    Φ a0 (w64 (a1 + 1)) y2 ((w64 ((w64 y4) + (w64 (a0.getD j1 0)))).tmod a3)
   else
    gd z (a3 ≠ 0) <|
    Φ a0 a1 y2 ((w64 y4).tmod a3)
def spec_l01Pick {A : Type} (z : A) : Nat → List Int → Int → Int → List Int → (List Int → Int → Int → Int → A) → A := step (fun _ _ _ _ _ => z) fun k a0 a1 a2 a3 Φ =>
  spec_l01Next z k a0 a1 a2 (a3.length : Int) fun v1 v2 v3 v4 =>
  inI z v4 (a3.length) fun j5 =>
  Φ v1 v2 v3 (a3.getD j5 0)
def spec_l03DrawPrime {A : Type} (z : A) : Nat → List Int → Int → Int → (List Int → Int → Int → Int → A) → A := step (fun _ _ _ _ => z) fun k a0 a1 a2 Φ =>
  spec_l01Pick z k a0 a1 a2 [3, 5, 7, 7, 11, 13, 13, 17, 19, 31, 37, 41, 43, 61] Φ
def spec_l03DrawOrder.g4 {A : Type} (z : A) : Nat → Int → Int → List Int → (List Int → A) → A
 | 0, _, _, _, _ => z
 | k + 1, x0, x1, x5, K0 =>
  if x1 ≤ 16 then
   gd z (x1 ≠ 0) <|
   if ((w64 (x0 - 1)).tmod x1) = 0 then
    apI z ((x5.length) + 1) 8 <|
    spec_l03DrawOrder.g4 z k x0 (w64 (x1 + 1)) (x5 ++ [x1]) K0
   else
    spec_l03DrawOrder.g4 z k x0 (w64 (x1 + 1)) x5 K0
  else
   K0 x5
def spec_l03DrawOrder {A : Type} (z : A) : Nat → List Int → Int → Int → Int → (List Int → Int → Int → Int → A) → A := step (fun _ _ _ _ _ => z) fun k a0 a1 a2 a3 Φ =>
  spec_l03DrawOrder.g4 z k a3 1 [] (fun v1 =>
   spec_l01Next z k a0 a1 a2 (v1.length : Int) fun v2 v3 v4 v5 =>
   inI z v5 (v1.length) fun j6 =>
   Φ v2 v3 v4 (v1.getD j6 0))
def spec_l03DrawOf {A : Type} (z : A) : Nat → List Int → Int → Int → Int → Int → (List Int → Int → Int → Int → Int → Int → A) → A := step (fun _ _ _ _ _ _ => z) fun k a0 a1 a2 a3 a4 Φ =>
  spec_l01Next z k a0 a1 a2 a4 fun v1 v2 v3 v4 =>
  Φ v1 v2 v3 a3 a4 v4
def spec_l03Draw {A : Type} (z : A) : Nat → List Int → Int → Int → (List Int → Int → Int → Int → Int → Int → A) → A := step (fun _ _ _ _ => z) fun k a0 a1 a2 Φ =>
  spec_l03DrawPrime z k a0 a1 a2 fun v1 v2 v3 v4 =>
  spec_l03DrawOrder z k v1 v2 v3 v4 fun v5 v6 v7 v8 =>
  spec_l03DrawOf z k v5 v6 v7 v4 v8 Φ
def spec_l03Bad {A : Type} (z : A) : Nat → List Int → Int → Int → Int → Int → Int → (List Int → Int → Int → Int → Int → Int → A) → A := step (fun _ _ _ _ _ _ _ => z) fun k a0 a1 a2 a3 a4 a5 Φ =>
  spec_l01Next z k a0 a1 a2 50 fun v1 v2 v3 v4 =>
  if v4 = 0 then
   spec_l01Pick z k v1 v2 v3 [0, 2, 9, 67, 1099511627776] fun v5 v6 v7 v8 =>
   Φ v5 v6 v7 v8 a4 a5
  else if v4 = 1 then
   spec_l01Pick z k v1 v2 v3 [0, 17, a3, (-1)] fun v9 v10 v11 v12 =>
   Φ v9 v10 v11 a3 v12 a5
  else if v4 = 2 then
   spec_l01Pick z k v1 v2 v3 [(-1), a4] fun v13 v14 v15 v16 =>
   Φ v13 v14 v15 a3 a4 v16
  else
   Φ v1 v2 v3 a3 a4 a5
def spec_l03Two {A : Type} (z : A) : Nat → List Int → (Int → Int → Int → Int → Int → Int → A) → A := step (fun _ _ => z) fun k a0 Φ =>
  spec_l01From z k a0 fun v1 v2 v3 =>
  spec_l03Draw z k v1 v2 v3 fun v4 v5 v6 v7 v8 v9 =>
  spec_l03DrawOf z k v4 v5 v6 v7 v8 fun v10 v11 v12 v13 v14 v15 =>
  spec_l01Next z k v10 v11 v12 16 fun v16 v17 v18 v19 =>
  if v19 = 0 then
   spec_l03Draw z k v16 v17 v18 fun v20 v21 v22 v23 v24 v25 =>
   spec_l03Bad z k v20 v21 v22 v7 v8 v9 fun v26 v27 v28 v29 v30 v31 =>
   spec_l03Bad z k v26 v27 v28 v23 v24 v25 fun v32 v33 v34 v35 v36 v37 =>
   Φ v29 v30 v31 v35 v36 v37
  else if v19 = 1 then
   if v19 = 1 then
    spec_l03Bad z k v16 v17 v18 v7 v8 v9 fun v38 v39 v40 v41 v42 v43 =>
    spec_l03Bad z k v38 v39 v40 v7 v8 v9 fun v44 v45 v46 v47 v48 v49 =>
    Φ v41 v42 v43 v47 v48 v49
   else
    spec_l03Bad z k v16 v17 v18 v7 v8 v9 fun v50 v51 v52 v53 v54 v55 =>
    spec_l03Bad z k v50 v51 v52 v13 v14 v15 fun v56 v57 v58 v59 v60 v61 =>
    Φ v53 v54 v55 v59 v60 v61
  else if v19 = 2 then
   spec_l03Bad z k v16 v17 v18 v7 v8 v9 fun v62 v63 v64 v65 v66 v67 =>
   spec_l03Bad z k v62 v63 v64 v7 v8 v9 fun v68 v69 v70 v71 v72 v73 =>
   Φ v65 v66 v67 v71 v72 v73
  else
   spec_l03Bad z k v16 v17 v18 v7 v8 v9 fun v74 v75 v76 v77 v78 v79 =>
   spec_l03Bad z k v74 v75 v76 v13 v14 v15 fun v80 v81 v82 v83 v84 v85 =>
   Φ v77 v78 v79 v83 v84 v85
def spec_DrawMultiplyCharacters {A : Type} (z : A) : Nat → List Int → (Int → Int → Int → Int → Int → Int → A) → A := step (fun _ _ => z) fun k a0 Φ =>
  spec_l03Two z k a0 Φ
def impl_within {A : Type} (z : A) : Nat → Int → Int → Int → (Bool → A) → A := step (fun _ _ _ _ => z) fun k a0 a1 a2 Φ =>
  if a1 ≤ a0 then
   Φ (decide (a0 ≤ a2))
  else
   Φ false
def impl_isPrime.g3 {A : Type} (z : A) : Nat → Int → Int → (Bool → A) → A → A
 | 0, _, _, _, _ => z
 | k + 1, x0, x1, K0, K1 =>
  if (w64 (x1 * x1)) ≤ x0 then
   gd z (x1 ≠ 0) <|
   if (x0.tmod x1) = 0 then
    K0 false
   else
    impl_isPrime.g3 z k x0 (w64 (x1 + 1)) K0 K1
  else
   K1
def impl_isPrime {A : Type} (z : A) : Nat → Int → (Bool → A) → A := step (fun _ _ => z) fun k a0 Φ =>
  impl_isPrime.g3 z k a0 2 Φ (impl_within z k a0 3 61 Φ)
def impl_isOrder {A : Type} (z : A) : Nat → Int → (Bool → A) → A := step (fun _ _ => z) fun k a0 Φ =>
  impl_within z k a0 1 16 Φ
def impl_areOf {A : Type} (z : A) : Nat → Int → Int → (Bool → A) → A := step (fun _ _ _ => z) fun k a0 a1 Φ =>
  impl_isPrime z k a0 fun v1 =>
  bif v1 then
   impl_isOrder z k a1 fun v2 =>
   bif v2 then
    gd z (a1 ≠ 0) <|
    Φ (decide (((w64 (a0 - 1)).tmod a1) = 0))
   else
    Φ false
  else
   Φ false
def impl_IsCharacter {A : Type} (z : A) : Nat → Int → Int → Int → (Bool → A) → A := step (fun _ _ _ _ => z) fun k a0 a1 a2 Φ =>
  impl_areOf z k a0 a1 fun v1 =>
  bif v1 then
   impl_within z k a2 0 (w64 (a1 - 1)) Φ
  else
   Φ false
def impl_pairCode {A : Type} (z : A) : Nat → Int → Int → Int → Int → Int → Int → (Int → A) → A := step (fun _ _ _ _ _ _ _ => z) fun k a0 a1 a2 a3 a4 a5 Φ =>
  impl_IsCharacter z k a0 a1 a2 fun v1 =>
  bif !v1 then
   Φ 1
  else
   impl_IsCharacter z k a3 a4 a5 fun v2 =>
   bif !v2 then
    Φ 1
   else if a0 ≠ a3 then
    Φ 2
   else if a1 ≠ a4 then
    Φ 2
   else
    Φ 0
def impl_around {A : Type} (z : A) : Nat → Int → Int → (Int → A) → A := step (fun _ _ _ => z) fun k a0 a1 Φ =>
  gd z (a1 ≠ 0) <|
  gd z (a1 ≠ 0) <|
  Φ ((w64 ((a0.tmod a1) + a1)).tmod a1)
def impl_withPower {A : Type} (z : A) : Nat → Int → Int → Int → Int → (Int → Int → Int → A) → A := step (fun _ _ _ _ _ => z) fun k a0 a1 a2 a3 Φ =>
  impl_around z k a3 a1 fun v1 =>
  Φ a0 a1 v1
def impl_MultiplyCharacters {A : Type} (z : A) : Nat → Int → Int → Int → Int → Int → Int → (Int → Int → Int → Int → A) → A := step (fun _ _ _ _ _ _ _ => z) fun k a0 a1 a2 a3 a4 a5 Φ =>
  impl_pairCode z k a0 a1 a2 a3 a4 a5 fun v1 =>
  if v1 ≠ 0 then
   Φ 0 0 0 v1
  else
   impl_withPower z k a0 a1 a2 (w64 (a2 + a5)) fun v2 v3 v4 =>
   Φ v2 v3 v4 0
def spec_l01In {A : Type} (z : A) : Nat → Int → Int → Int → (Bool → A) → A := step (fun _ _ _ _ => z) fun k a0 a1 a2 Φ =>
  if a1 ≤ a0 then
   Φ (decide (a0 ≤ a2))
  else
   Φ false
def spec_l03Prime.g6 {A : Type} (z : A) : Nat → Int → Int → (Bool → A) → A → A
 | 0, _, _, _, _ => z
 | k + 1, x0, x1, K0, K1 =>
  if (w64 (x1 * x1)) ≤ x0 then
   gd z (x1 ≠ 0) <|
   if (x0.tmod x1) = 0 then
    K0 false
   else
    spec_l03Prime.g6 z k x0 (w64 (x1 + 1)) K0 K1
  else
   K1
def spec_l03Prime {A : Type} (z : A) : Nat → Int → (Bool → A) → A := step (fun _ _ => z) fun k a0 Φ =>
  spec_l01In z k a0 3 61 fun v1 =>
  bif !v1 then
   Φ false
  else
   spec_l03Prime.g6 z k a0 2 Φ (Φ true)
def spec_l03Order {A : Type} (z : A) : Nat → Int → Int → (Bool → A) → A := step (fun _ _ _ => z) fun k a0 a1 Φ =>
  spec_l01In z k a1 1 16 fun v1 =>
  bif v1 then
   gd z (a1 ≠ 0) <|
   Φ (decide (((w64 (a0 - 1)).tmod a1) = 0))
  else
   Φ false
def spec_l03Is {A : Type} (z : A) : Nat → Int → Int → Int → (Bool → A) → A := step (fun _ _ _ _ => z) fun k a0 a1 a2 Φ =>
  spec_l03Prime z k a0 fun v1 =>
  bif v1 then
   spec_l03Order z k a0 a1 fun v2 =>
   bif v2 then
    spec_l01In z k a2 0 (w64 (a1 - 1)) Φ
   else
    Φ false
  else
   Φ false
def spec_l03Like {A : Type} (z : A) : Nat → Int → Int → Int → Int → Int → Int → (Int → A) → A := step (fun _ _ _ _ _ _ _ => z) fun k a0 a1 a2 a3 a4 a5 Φ =>
  spec_l03Is z k a0 a1 a2 fun v1 =>
  bif !v1 then
   Φ 1
  else
   spec_l03Is z k a3 a4 a5 fun v2 =>
   bif !v2 then
    Φ 1
   else if a0 ≠ a3 then
    Φ 2
   else if a1 ≠ a4 then
    Φ 2
   else
    Φ 0
def spec_l03Times {A : Type} (z : A) : Nat → Int → Int → Int → Int → Int → Int → (Int → Int → Int → A) → A := step (fun _ _ _ _ _ _ _ => z) fun k a0 a1 a2 a3 a4 a5 Φ =>
  gd z (a1 ≠ 0) <|
  Φ a0 a1 ((w64 (a2 + a5)).tmod a1)
def spec_MultiplyCharacters {A : Type} (z : A) : Nat → Int → Int → Int → Int → Int → Int → (Int → Int → Int → Int → A) → A := step (fun _ _ _ _ _ _ _ => z) fun k a0 a1 a2 a3 a4 a5 Φ =>
  spec_l03Like z k a0 a1 a2 a3 a4 a5 fun v1 =>
  if v1 ≠ 0 then
   Φ 0 0 0 v1
  else
   spec_l03Times z k a0 a1 a2 a3 a4 a5 fun v2 v3 v4 =>
   Φ v2 v3 v4 0
def spec_IsCharacter {A : Type} (z : A) : Nat → Int → Int → Int → (Bool → A) → A := step (fun _ _ _ _ => z) fun k a0 a1 a2 Φ =>
  spec_l03Is z k a0 a1 a2 Φ
def impl_InverseCharacter {A : Type} (z : A) : Nat → Int → Int → Int → (Int → Int → Int → Int → A) → A := step (fun _ _ _ _ => z) fun k a0 a1 a2 Φ =>
  impl_IsCharacter z k a0 a1 a2 fun v1 =>
  bif !v1 then
   Φ 0 0 0 1
  else
   impl_withPower z k a0 a1 a2 (w64 (0 - a2)) fun v2 v3 v4 =>
   Φ v2 v3 v4 0
def math_bits_Mul64 {A : Type} (z : A) : Nat → Int → Int → (Int → Int → A) → A := step (fun _ _ _ => z) fun k a0 a1 Φ =>
  let y1 := wu64 ((BitVec.ofInt 64 a0 &&& BitVec.ofInt 64 4294967295).toNat : Int)
  let y2 := wu64 ((BitVec.ofInt 64 a1 &&& BitVec.ofInt 64 4294967295).toNat : Int)
  let y3 := wu64 (y1 * y2)
  let y4 := wu64 ((a0.fdiv (2 ^ (32))) * y2)
  let y5 := y3.fdiv (2 ^ (32))
  let y6 := wu64 (y4 + y5)
  Φ (wu64 ((wu64 ((wu64 ((a0.fdiv (2 ^ (32))) * (a1.fdiv (2 ^ (32))))) + (y6.fdiv (2 ^ (32))))) + ((wu64 ((wu64 ((BitVec.ofInt 64 y6 &&& BitVec.ofInt 64 4294967295).toNat : Int)) + (wu64 (y1 * (a1.fdiv (2 ^ (32))))))).fdiv (2 ^ (32))))) (wu64 (a0 * a1))
def math_bits_Mul {A : Type} (z : A) : Nat → Int → Int → (Int → Int → A) → A := step (fun _ _ _ => z) fun k a0 a1 Φ =>
  math_bits_Mul64 z k a0 a1 Φ
def slices_Repeat_Sint64_int64.g9 {A : Type} (z : A) : Nat → Int → List Int → (List Int → A) → A
 | 0, _, _, _ => z
 | k + 1, x0, x1, K0 =>
  if x0 < (x1.length : Int) then
   toI z x0 (x1.length) fun j4 =>
   toI z x0 (x1.length) fun j5 =>
   slices_Repeat_Sint64_int64.g9 z k (w64 (x0 + (((min (((x1.drop 0).take j5).length) ((x1.length) - j4)) : Nat) : Int))) (x1.take j4 ++ ((x1.drop 0).take j5).take ((x1.length) - j4) ++ x1.drop (j4 + (min (((x1.drop 0).take j5).length) ((x1.length) - j4)))) K0
  else
   K0 x1
def slices_Repeat_Sint64_int64.g4 {A : Type} (z : A) : Nat → List Int → Int → (List Int → A) → A
 | 0, _, _, _ => z
 | k + 1, x0, x1, K0 =>
  mkI z 8 (w64 x1) fun m3 =>
  slices_Repeat_Sint64_int64.g9 z k (((min (x0.length) ((List.replicate m3 (0 : Int)).length)) : Nat) : Int) ((List.replicate m3 (0 : Int)).take 0 ++ x0.take ((List.replicate m3 (0 : Int)).length) ++ (List.replicate m3 (0 : Int)).drop (0 + (min (x0.length) ((List.replicate m3 (0 : Int)).length)))) K0
def slices_Repeat_Sint64_int64.g1 {A : Type} (z : A) : Nat → List Int → Int → (List Int → A) → A
 | 0, _, _, _ => z
 | k + 1, x0, x1, K0 =>
  math_bits_Mul z k (wu64 (x0.length : Int)) (wu64 x1) fun v1 v2 =>
  if 0 < v1 then
   z
  else if 9223372036854775807 < v2 then
   z
  else
   slices_Repeat_Sint64_int64.g4 z k x0 v2 K0
def slices_Repeat_Sint64_int64 {A : Type} (z : A) : Nat → List Int → Int → (List Int → A) → A := step (fun _ _ _ => z) fun k a0 a1 Φ =>
  if a1 < 0 then
   z
  else
   slices_Repeat_Sint64_int64.g1 z k a0 a1 Φ
def impl_indices.g7 {A : Type} (z : A) : Nat → Int → Int → Int → Int → List Int → (Int → List Int → A) → A
 | 0, _, _, _, _, _, _ => z
 | k + 1, x0, x1, x2, x3, x4, K0 =>
  inI z x2 (x4.length) fun j2 =>
  if (x4.getD j2 0) < 0 then
   inI z x2 (x4.length) fun j3 =>
   gd z (x0 ≠ 0) <|
   impl_indices.g7 z k x0 x1 ((w64 (x2 * x1)).tmod x0) (w64 (x3 + 1)) (x4.set j3 x3) K0
  else
   K0 x3 x4
def impl_indices.g2 {A : Type} (z : A) : Nat → Int → Int → (Int → List Int → A) → A
 | 0, _, _, _ => z
 | k + 1, x0, x1, K0 =>
  slices_Repeat_Sint64_int64 z k [(-1)] x0 fun v1 =>
  impl_indices.g7 z k x0 x1 1 0 v1 (fun v4 v5 =>
   if v4 = (w64 (x0 - 1)) then
    K0 x1 v5
   else
    impl_indices.g2 z k x0 (w64 (x1 + 1)) K0)
def impl_indices {A : Type} (z : A) : Nat → Int → (List Int → Int → A) → A := step (fun _ _ => z) fun k a0 Φ =>
  impl_indices.g2 z k a0 1 (fun v6 v7 =>
   Φ v7 v6)
def impl_exponents.g4 {A : Type} (z : A) : Nat → Int → Int → Int → Int → List Int → (List Int → A) → A
 | 0, _, _, _, _, _, _ => z
 | k + 1, x0, x1, x3, x4, x5, K0 =>
  if x1 < x0 then
   inI z x1 (x5.length) fun j3 =>
   if 0 < x1 then
    gd z (x3 ≠ 0) <|
    inI z x1 (x5.length) fun j4 =>
    impl_exponents.g4 z k x0 (w64 (x1 + 1)) x3 x4 (x5.set j4 ((w64 ((x5.getD j3 0) * x4)).tmod x3)) K0
   else
    impl_exponents.g4 z k x0 (w64 (x1 + 1)) x3 x4 x5 K0
  else
   K0 x5
def impl_exponents {A : Type} (z : A) : Nat → Int → Int → Int → (List Int → A) → A := step (fun _ _ _ _ => z) fun k a0 a1 a2 Φ =>
  impl_indices z k a0 fun v1 v2 =>
  impl_exponents.g4 z k (v1.length : Int) 0 a1 a2 v1 Φ
def impl_KernelOf.g7 {A : Type} (z : A) : Nat → Int → Int → List Int → List Int → (List Int → A) → A
 | 0, _, _, _, _, _ => z
 | k + 1, x0, x1, x2, x3, K0 =>
  if x1 < x0 then
   inI z x1 (x3.length) fun j3 =>
   if (x3.getD j3 0) = 0 then
    apI z ((x2.length) + 1) 8 <|
    impl_KernelOf.g7 z k x0 (w64 (x1 + 1)) (x2 ++ [x1]) x3 K0
   else
    impl_KernelOf.g7 z k x0 (w64 (x1 + 1)) x2 x3 K0
  else
   K0 x2
def impl_KernelOf {A : Type} (z : A) : Nat → Int → Int → Int → (List Int → Int → A) → A := step (fun _ _ _ _ => z) fun k a0 a1 a2 Φ =>
  impl_IsCharacter z k a0 a1 a2 fun v1 =>
  bif !v1 then
   Φ [] 1
  else
   impl_exponents z k a0 a1 a2 fun v2 =>
   impl_KernelOf.g7 z k (v2.length : Int) 0 [] v2 (fun v4 =>
    Φ v4 0)
def impl_size {A : Type} (z : A) : Nat → Int → (Int → A) → A := step (fun _ _ => z) fun k a0 Φ =>
  Φ (maxI a0 (w64 (0 - a0)))
def impl_gcd.g3 {A : Type} (z : A) : Nat → Int → Int → (Int → A) → A
 | 0, _, _, _ => z
 | k + 1, x0, x1, K0 =>
  if 0 < x1 then
   gd z (x1 ≠ 0) <|
   impl_gcd.g3 z k x1 (x0.tmod x1) K0
  else
   K0 x0
def impl_gcd {A : Type} (z : A) : Nat → Int → Int → (Int → A) → A := step (fun _ _ _ => z) fun k a0 a1 Φ =>
  impl_size z k a0 fun v1 =>
  impl_size z k a1 fun v2 =>
  impl_gcd.g3 z k v1 v2 Φ
def impl_ExactOrder {A : Type} (z : A) : Nat → Int → Int → Int → (Int → Int → A) → A := step (fun _ _ _ _ => z) fun k a0 a1 a2 Φ =>
  impl_IsCharacter z k a0 a1 a2 fun v1 =>
  bif !v1 then
   Φ 0 1
  else
   impl_gcd z k a1 a2 fun v2 =>
   gd z (v2 ≠ 0) <|
   Φ (w64 (a1.tdiv v2)) 0
def impl_ExponentsOf {A : Type} (z : A) : Nat → Int → Int → Int → (List Int → Int → A) → A := step (fun _ _ _ _ => z) fun k a0 a1 a2 Φ =>
  impl_IsCharacter z k a0 a1 a2 fun v1 =>
  bif !v1 then
   Φ [] 1
  else
   impl_exponents z k a0 a1 a2 fun v2 =>
   toI z 1 (v2.length) fun j3 =>
   Φ ((v2.drop j3).take ((v2.length) - j3)) 0
def impl_IsEvenCharacter {A : Type} (z : A) : Nat → Int → Int → Int → (Bool → Int → A) → A := step (fun _ _ _ _ => z) fun k a0 a1 a2 Φ =>
  impl_IsCharacter z k a0 a1 a2 fun v1 =>
  bif !v1 then
   Φ false 1
  else
   impl_exponents z k a0 a1 a2 fun v2 =>
   inI z (w64 (a0 - 1)) (v2.length) fun j3 =>
   Φ (decide ((v2.getD j3 0) = 0)) 0
def slices_Clone_Sint64_int64 {A : Type} (z : A) : Nat → List Int → (List Int → A) → A := step (fun _ _ => z) fun _ a0 Φ =>
  apI z a0.length 8 <| Φ a0
def impl_quotient.g11 {A : Type} (z : A) : Nat → Int → List Int → Int → Int → List Int → List Int → (List Int → A) → A
 | 0, _, _, _, _, _, _, _ => z
 | k + 1, x1, x2, x3, x4, x5, x6, K0 =>
  if x4 < x3 then
   inI z x4 (x2.length) fun j5 =>
   inI z (w64 (x1 + x4)) (x5.length) fun j6 =>
   inI z x1 (x6.length) fun j7 =>
   inI z (w64 (x1 + x4)) (x5.length) fun j8 =>
   impl_quotient.g11 z k x1 x2 x3 (w64 (x4 + 1)) (x5.set j8 (w64 ((x5.getD j6 0) - (w64 ((x6.getD j7 0) * (x2.getD j5 0)))))) x6 K0
  else
   K0 x5
def impl_quotient.g5 {A : Type} (z : A) : Nat → List Int → Int → List Int → List Int → (List Int → A) → A
 | 0, _, _, _, _, _ => z
 | k + 1, x0, x1, x2, x3, K0 =>
  if 0 ≤ x1 then
   inI z (w64 ((w64 (x1 + (x0.length : Int))) - 1)) (x2.length) fun j3 =>
   inI z x1 (x3.length) fun j4 =>
   impl_quotient.g11 z k x1 x0 (x0.length : Int) 0 x2 (x3.set j4 (x2.getD j3 0)) (fun v9 =>
    impl_quotient.g5 z k x0 (w64 (x1 - 1)) v9 (x3.set j4 (x2.getD j3 0)) K0)
  else
   K0 x3
def impl_quotient {A : Type} (z : A) : Nat → List Int → List Int → (List Int → A) → A := step (fun _ _ _ => z) fun k a0 a1 Φ =>
  slices_Clone_Sint64_int64 z k a0 fun v1 =>
  mkI z 8 (w64 ((w64 ((v1.length : Int) - (a1.length : Int))) + 1)) fun m2 =>
  impl_quotient.g5 z k a1 (w64 (((List.replicate m2 (0 : Int)).length : Int) - 1)) v1 (List.replicate m2 (0 : Int)) Φ
mutual
def impl_cyclotomic.g5 {A : Type} (z : A) : Nat → Int → Int → List Int → (List Int → A) → A
 | 0, _, _, _, _ => z
 | k + 1, x0, x1, x2, K0 =>
  if x1 < x0 then
   gd z (x1 ≠ 0) <|
   if (x0.tmod x1) = 0 then
    impl_cyclotomic z k x1 fun v4 =>
    impl_quotient z k x2 v4 fun v5 =>
    impl_cyclotomic.g5 z k x0 (w64 (x1 + 1)) v5 K0
   else
    impl_cyclotomic.g5 z k x0 (w64 (x1 + 1)) x2 K0
  else
   K0 x2
def impl_cyclotomic {A : Type} (z : A) : Nat → Int → (List Int → A) → A
 | 0, _, _ => z
 | k + 1, a0, Φ =>
  mkI z 8 (w64 (a0 + 1)) fun m1 =>
  inI z 0 ((List.replicate m1 (0 : Int)).length) fun j2 =>
  inI z a0 (((List.replicate m1 (0 : Int)).set j2 (-1)).length) fun j3 =>
  impl_cyclotomic.g5 z k a0 1 (((List.replicate m1 (0 : Int)).set j2 (-1)).set j3 1) Φ
end
def impl_powers.g20 {A : Type} (z : A) : Nat → Int → Int → Int → List Int → List Int → (List Int → A) → A
 | 0, _, _, _, _, _, _ => z
 | k + 1, x1, x4, x5, x6, x7, K0 =>
  if x5 < x4 then
   inI z x5 (x7.length) fun j9 =>
   inI z x5 (x6.length) fun j10 =>
   inI z x5 (x7.length) fun j11 =>
   impl_powers.g20 z k x1 x4 (w64 (x5 + 1)) x6 (x7.set j11 (w64 ((x7.getD j9 0) - (w64 (x1 * (x6.getD j10 0)))))) K0
  else
   K0 x7
def impl_powers.g11 {A : Type} (z : A) : Nat → Int → Int → Int → List Int → List Int → List (List Int) → (List (List Int) → A) → A
 | 0, _, _, _, _, _, _, _ => z
 | k + 1, x0, x1, x2, x3, x4, x5, K0 =>
  if x2 < x1 then
   slices_Clone_Sint64_int64 z k x4 fun v4 =>
   apI z ((x5.length) + 1) 24 <|
   inI z (w64 (x0 - 1)) (x4.length) fun j5 =>
   toI z 1 (x4.length) fun j6 =>
   toI z (w64 (x0 - 1)) (x4.length) fun j7 =>
   inI z 0 ((x4.take j6 ++ ((x4.drop 0).take j7).take ((x4.length) - j6) ++ x4.drop (j6 + (min (((x4.drop 0).take j7).length) ((x4.length) - j6)))).length) fun j8 =>
   impl_powers.g20 z k (x4.getD j5 0) (((x4.take j6 ++ ((x4.drop 0).take j7).take ((x4.length) - j6) ++ x4.drop (j6 + (min (((x4.drop 0).take j7).length) ((x4.length) - j6)))).set j8 0).length : Int) 0 x3 ((x4.take j6 ++ ((x4.drop 0).take j7).take ((x4.length) - j6) ++ x4.drop (j6 + (min (((x4.drop 0).take j7).length) ((x4.length) - j6)))).set j8 0) (fun v12 =>
    impl_powers.g11 z k x0 x1 (w64 (x2 + 1)) x3 v12 (x5 ++ [v4]) K0)
  else
   K0 x5
def impl_powers {A : Type} (z : A) : Nat → Int → (List (List Int) → A) → A := step (fun _ _ => z) fun k a0 Φ =>
  impl_cyclotomic z k a0 fun v1 =>
  let y1 := w64 ((v1.length : Int) - 1)
  mkI z 8 y1 fun m2 =>
  inI z 0 ((List.replicate m2 (0 : Int)).length) fun j3 =>
  if a0 = 1 then
   Φ [((List.replicate m2 (0 : Int)).set j3 1)]
  else
   impl_powers.g11 z k y1 a0 0 v1 ((List.replicate m2 (0 : Int)).set j3 1) [] Φ
def impl_fieldOf {A : Type} (z : A) : Nat → Int → (Int → Int → List (List Int) → A) → A := step (fun _ _ => z) fun k a0 Φ =>
  impl_powers z k a0 fun v1 =>
  inI z 0 (v1.length) fun j2 =>
  Φ a0 ((v1.getD j2 []).length : Int) v1
def impl_counted_1 {A : Type} (z : A) : Nat → Int → (Int → A) → A := step (fun _ _ => z) fun k a0 Φ =>
  Φ a0
def impl_field_with_c80.g10 {A : Type} (z : A) : Nat → Int → List Int → Int → Int → List Int → (List Int → A) → A
 | 0, _, _, _, _, _, _ => z
 | k + 1, x3, x7, x8, x9, x10, K0 =>
  if x9 < x8 then
   inI z x9 (x7.length) fun j6 =>
   inI z x9 (x10.length) fun j7 =>
   inI z x9 (x10.length) fun j8 =>
   impl_field_with_c80.g10 z k x3 x7 x8 (w64 (x9 + 1)) (x10.set j8 (w64 ((x10.getD j7 0) + (w64 (x3 * (x7.getD j6 0)))))) K0
  else
   K0 x10
def impl_field_with_c80.g4 {A : Type} (z : A) : Nat → Int → List (List Int) → List Int → Int → Int → List Int → (List Int → A) → A
 | 0, _, _, _, _, _, _, _ => z
 | k + 1, x0, x2, x3, x4, x5, x6, K0 =>
  if x5 < x4 then
   inI z x5 (x3.length) fun j2 =>
   impl_counted_1 z k x5 fun v3 =>
   impl_around z k v3 x0 fun v4 =>
   inI z v4 (x2.length) fun j5 =>
   impl_field_with_c80.g10 z k (x3.getD j2 0) (x2.getD j5 []) ((x2.getD j5 []).length : Int) 0 x6 (fun v9 =>
    impl_field_with_c80.g4 z k x0 x2 x3 x4 (w64 (x5 + 1)) v9 K0)
  else
   K0 x6
def impl_field_with_c80 {A : Type} (z : A) : Nat → Int → Int → List (List Int) → List Int → (List Int → A) → A := step (fun _ _ _ _ _ => z) fun k a0 a1 a2 a3 Φ =>
  mkI z 8 a1 fun m1 =>
  impl_field_with_c80.g4 z k a0 a2 a3 (a3.length : Int) 0 (List.replicate m1 (0 : Int)) Φ
def impl_counted {A : Type} (z : A) : Nat → Int → List Int → (List Int → A) → A := step (fun _ _ _ => z) fun k a0 a1 Φ =>
  impl_fieldOf z k a0 fun v1 v2 v3 =>
  impl_field_with_c80 z k v1 v2 v3 a1 Φ
def impl_CharacterAt {A : Type} (z : A) : Nat → Int → Int → Int → Int → (Int → List Int → Int → A) → A := step (fun _ _ _ _ _ => z) fun k a0 a1 a2 a3 Φ =>
  impl_IsCharacter z k a0 a1 a2 fun v1 =>
  bif !v1 then
   Φ 0 [] 1
  else
   impl_within z k a3 (-1000000) 1000000 fun v2 =>
   bif !v2 then
    Φ 0 [] 2
   else
    mkI z 8 a1 fun m3 =>
    impl_exponents z k a0 a1 a2 fun v4 =>
    impl_around z k a3 a0 fun v5 =>
    inI z v5 (v4.length) fun j6 =>
    if 0 ≤ (v4.getD j6 0) then
     inI z (v4.getD j6 0) ((List.replicate m3 (0 : Int)).length) fun j7 =>
     impl_counted z k a1 ((List.replicate m3 (0 : Int)).set j7 1) fun v8 =>
     Φ a1 v8 0
    else
     impl_counted z k a1 (List.replicate m3 (0 : Int)) fun v9 =>
     Φ a1 v9 0
def impl_totient.g4 {A : Type} (z : A) : Nat → Int → Int → Int → (Int → A) → A
 | 0, _, _, _, _ => z
 | k + 1, x0, x1, x2, K0 =>
  if x2 ≤ x0 then
   impl_gcd z k x2 x0 fun v1 =>
   if v1 = 1 then
    impl_totient.g4 z k x0 (w64 (x1 + 1)) (w64 (x2 + 1)) K0
   else
    impl_totient.g4 z k x0 x1 (w64 (x2 + 1)) K0
  else
   K0 x1
def impl_totient {A : Type} (z : A) : Nat → Int → (Int → A) → A := step (fun _ _ => z) fun k a0 Φ =>
  impl_totient.g4 z k a0 0 1 Φ
def impl_areSmall_1 {A : Type} (z : A) : Nat → Int → Int → (Bool → A) → A := step (fun _ _ _ => z) fun k a0 a1 Φ =>
  impl_within z k a0 (w64 (0 - a1)) a1 fun v1 =>
  Φ (!v1)
def slices_IndexFunc_Sint64_int64_c96.g3 {A : Type} (z : A) : Nat → List Int → Int → Int → Int → (Int → A) → A → A
 | 0, _, _, _, _, _, _ => z
 | k + 1, x0, x1, x2, x3, K0, K1 =>
  if x3 < x2 then
   inI z x3 (x0.length) fun j1 =>
   impl_areSmall_1 z k (x0.getD j1 0) x1 fun v2 =>
   bif v2 then
    K0 x3
   else
    slices_IndexFunc_Sint64_int64_c96.g3 z k x0 x1 x2 (w64 (x3 + 1)) K0 K1
  else
   K1
def slices_IndexFunc_Sint64_int64_c96 {A : Type} (z : A) : Nat → List Int → Int → (Int → A) → A := step (fun _ _ _ => z) fun k a0 a1 Φ =>
  slices_IndexFunc_Sint64_int64_c96.g3 z k a0 a1 (a0.length : Int) 0 Φ (Φ (-1))
def slices_ContainsFunc_Sint64_int64_c96 {A : Type} (z : A) : Nat → List Int → Int → (Bool → A) → A := step (fun _ _ _ => z) fun k a0 a1 Φ =>
  slices_IndexFunc_Sint64_int64_c96 z k a0 a1 fun v1 =>
  Φ (decide (0 ≤ v1))
def impl_areSmall {A : Type} (z : A) : Nat → List Int → Int → (Bool → A) → A := step (fun _ _ _ => z) fun k a0 a1 Φ =>
  slices_ContainsFunc_Sint64_int64_c96 z k a0 a1 fun v1 =>
  Φ (!v1)
def impl_IsCyclo {A : Type} (z : A) : Nat → Int → List Int → (Bool → A) → A := step (fun _ _ _ => z) fun k a0 a1 Φ =>
  impl_isOrder z k a0 fun v1 =>
  bif v1 then
   impl_totient z k a0 fun v2 =>
   if (a1.length : Int) = v2 then
    impl_areSmall z k a1 1000000000 Φ
   else
    Φ false
  else
   Φ false
def impl_twoCode {A : Type} (z : A) : Nat → Int → List Int → Int → List Int → (Int → A) → A := step (fun _ _ _ _ _ => z) fun k a0 a1 a2 a3 Φ =>
  impl_IsCyclo z k a0 a1 fun v1 =>
  bif !v1 then
   Φ 1
  else
   impl_IsCyclo z k a2 a3 fun v2 =>
   bif !v2 then
    Φ 1
   else if a0 ≠ a2 then
    Φ 2
   else
    Φ 0
def impl_sum_add {A : Type} (z : A) : Nat → Int → Nat → Int → Int → (Int → Nat → A) → A := step (fun _ _ _ _ _ => z) fun k a0 a1 a2 a3 Φ =>
  optN z ((FloatKind.format .f64).mul (FloatKind.nearest .f64 a2) (FloatKind.nearest .f64 a3)) fun f1 =>
  optN z ((FloatKind.format .f64).add a1 f1) fun f2 =>
  Φ (w64 (a0 + (w64 (a2 * a3)))) f2
def impl_field_product.g15 {A : Type} (z : A) : Nat → Int → Int → List Int → Int → Int → List (Int × Nat) → (List (Int × Nat) → A) → A
 | 0, _, _, _, _, _, _, _ => z
 | k + 1, x5, x6, x13, x14, x15, x16, K0 =>
  if x15 < x14 then
   inI z x15 (x13.length) fun j4 =>
   if (x13.getD j4 0) ≠ 0 then
    inI z x15 (x16.length) fun j5 =>
    impl_sum_add z k ((x16.getD j5 (0, 0)).1) ((x16.getD j5 (0, 0)).2) (w64 ((x13.getD j4 0) * x5)) x6 fun v6 v7 =>
    impl_field_product.g15 z k x5 x6 x13 x14 (w64 (x15 + 1)) (x16.set j5 (v6, v7)) K0
   else
    impl_field_product.g15 z k x5 x6 x13 x14 (w64 (x15 + 1)) x16 K0
  else
   K0 x16
def impl_field_product.g7 {A : Type} (z : A) : Nat → Int → List (List Int) → Int → Int → List Int → Int → Int → List (Int × Nat) → (List (Int × Nat) → A) → A
 | 0, _, _, _, _, _, _, _, _, _ => z
 | k + 1, x0, x2, x4, x5, x9, x10, x11, x12, K0 =>
  if x11 < x10 then
   inI z x11 (x9.length) fun j2 =>
   if x5 = 0 then
    impl_field_product.g7 z k x0 x2 x4 x5 x9 x10 (w64 (x11 + 1)) x12 K0
   else if (x9.getD j2 0) = 0 then
    impl_field_product.g7 z k x0 x2 x4 x5 x9 x10 (w64 (x11 + 1)) x12 K0
   else
    gd z (x0 ≠ 0) <|
    inI z ((w64 (x4 + x11)).tmod x0) (x2.length) fun j3 =>
    impl_field_product.g15 z k x5 (x9.getD j2 0) (x2.getD j3 []) ((x2.getD j3 []).length : Int) 0 x12 (fun v8 =>
     impl_field_product.g7 z k x0 x2 x4 x5 x9 x10 (w64 (x11 + 1)) v8 K0)
  else
   K0 x12
def impl_field_product.g1 {A : Type} (z : A) : Nat → Int → List (List Int) → List Int → List Int → Int → Int → List (Int × Nat) → (List (Int × Nat) → A) → A
 | 0, _, _, _, _, _, _, _, _ => z
 | k + 1, x0, x2, x3, x4, x5, x6, x7, K0 =>
  if x6 < x5 then
   inI z x6 (x4.length) fun j1 =>
   impl_field_product.g7 z k x0 x2 x6 (x4.getD j1 0) x3 (x3.length : Int) 0 x7 (fun v9 =>
    impl_field_product.g1 z k x0 x2 x3 x4 x5 (w64 (x6 + 1)) v9 K0)
  else
   K0 x7
def impl_field_product {A : Type} (z : A) : Nat → Int → Int → List (List Int) → List (Int × Nat) → List Int → List Int → (List (Int × Nat) → A) → A := step (fun _ _ _ _ _ _ _ => z) fun k a0 a1 a2 a3 a4 a5 Φ =>
  impl_field_product.g1 z k a0 a2 a5 a4 (a4.length : Int) 0 a3 Φ
def impl_sum_value {A : Type} (z : A) : Nat → Int → Nat → (Int → Bool → A) → A := step (fun _ _ _ => z) fun k a0 a1 Φ =>
  impl_within z k a0 (-1000000000) 1000000000 fun v1 =>
  bif v1 then
   bif (FloatKind.format .f64).order a1 4876203697187506176 == some .lt then
    Φ a0 ((FloatKind.format .f64).order a1 14099575734042281984 == some .gt)
   else
    Φ a0 false
  else
   Φ a0 false
def impl_values.g4 {A : Type} (z : A) : Nat → List (Int × Nat) → Bool → Int → Int → List Int → (Bool → List Int → A) → A
 | 0, _, _, _, _, _, _ => z
 | k + 1, x0, x1, x2, x3, x4, K0 =>
  if x3 < x2 then
   inI z x3 (x0.length) fun j1 =>
   impl_sum_value z k ((x0.getD j1 (0, 0)).1) ((x0.getD j1 (0, 0)).2) fun v2 v3 =>
   apI z ((x4.length) + 1) 8 <|
   bif x1 then
    impl_values.g4 z k x0 v3 x2 (w64 (x3 + 1)) (x4 ++ [v2]) K0
   else
    impl_values.g4 z k x0 false x2 (w64 (x3 + 1)) (x4 ++ [v2]) K0
  else
   K0 x1 x4
def impl_values {A : Type} (z : A) : Nat → List (Int × Nat) → (List Int → Bool → A) → A := step (fun _ _ => z) fun k a0 Φ =>
  impl_values.g4 z k a0 true (a0.length : Int) 0 [] (fun v4 v5 =>
   Φ v5 v4)
def impl_field_times {A : Type} (z : A) : Nat → Int → Int → List (List Int) → List Int → List Int → (List Int → Bool → A) → A := step (fun _ _ _ _ _ _ => z) fun k a0 a1 a2 a3 a4 Φ =>
  mkI z 16 a1 fun m1 =>
  impl_field_product z k a0 a1 a2 (List.replicate m1 ((0 : Int), (0 : Nat))) a3 a4 fun v2 =>
  impl_values z k v2 Φ
def impl_cycloOf {A : Type} (z : A) : Nat → Int → List Int → (Int → List Int → Int → A) → A := step (fun _ _ _ => z) fun k a0 a1 Φ =>
  impl_areSmall z k a1 1000000000 fun v1 =>
  bif !v1 then
   Φ 0 [] 3
  else
   Φ a0 a1 0
def impl_MultiplyCyclos {A : Type} (z : A) : Nat → Int → List Int → Int → List Int → (Int → List Int → Int → A) → A := step (fun _ _ _ _ _ => z) fun k a0 a1 a2 a3 Φ =>
  impl_twoCode z k a0 a1 a2 a3 fun v1 =>
  if v1 ≠ 0 then
   Φ 0 [] v1
  else
   impl_fieldOf z k a0 fun v2 v3 v4 =>
   impl_field_times z k v2 v3 v4 a1 a3 fun v5 v6 =>
   bif !v6 then
    Φ 0 [] 3
   else
    impl_cycloOf z k a0 v5 Φ
def impl_field_image_1 {A : Type} (z : A) : Nat → Int → Int → (Int → A) → A := step (fun _ _ _ => z) fun k a0 a1 Φ =>
  Φ (w64 (a1 * a0))
def impl_field_with_c86.g10 {A : Type} (z : A) : Nat → Int → List Int → Int → Int → List Int → (List Int → A) → A
 | 0, _, _, _, _, _, _ => z
 | k + 1, x4, x8, x9, x10, x11, K0 =>
  if x10 < x9 then
   inI z x10 (x8.length) fun j6 =>
   inI z x10 (x11.length) fun j7 =>
   inI z x10 (x11.length) fun j8 =>
   impl_field_with_c86.g10 z k x4 x8 x9 (w64 (x10 + 1)) (x11.set j8 (w64 ((x11.getD j7 0) + (w64 (x4 * (x8.getD j6 0)))))) K0
  else
   K0 x11
def impl_field_with_c86.g4 {A : Type} (z : A) : Nat → Int → List (List Int) → Int → List Int → Int → Int → List Int → (List Int → A) → A
 | 0, _, _, _, _, _, _, _, _ => z
 | k + 1, x0, x2, x3, x4, x5, x6, x7, K0 =>
  if x6 < x5 then
   inI z x6 (x4.length) fun j2 =>
   impl_field_image_1 z k x6 x3 fun v3 =>
   impl_around z k v3 x0 fun v4 =>
   inI z v4 (x2.length) fun j5 =>
   impl_field_with_c86.g10 z k (x4.getD j2 0) (x2.getD j5 []) ((x2.getD j5 []).length : Int) 0 x7 (fun v9 =>
    impl_field_with_c86.g4 z k x0 x2 x3 x4 x5 (w64 (x6 + 1)) v9 K0)
  else
   K0 x7
def impl_field_with_c86 {A : Type} (z : A) : Nat → Int → Int → List (List Int) → List Int → Int → (List Int → A) → A := step (fun _ _ _ _ _ _ => z) fun k a0 a1 a2 a3 a4 Φ =>
  mkI z 8 a1 fun m1 =>
  impl_field_with_c86.g4 z k a0 a2 a4 a3 (a3.length : Int) 0 (List.replicate m1 (0 : Int)) Φ
def impl_field_image {A : Type} (z : A) : Nat → Int → Int → List (List Int) → List Int → Int → (List Int → A) → A := step (fun _ _ _ _ _ _ => z) fun k a0 a1 a2 a3 a4 Φ =>
  impl_field_with_c86 z k a0 a1 a2 a3 a4 Φ
def impl_ConjugateOf {A : Type} (z : A) : Nat → Int → List Int → (Int → List Int → Int → A) → A := step (fun _ _ _ => z) fun k a0 a1 Φ =>
  impl_IsCyclo z k a0 a1 fun v1 =>
  bif !v1 then
   Φ 0 [] 1
  else
   impl_fieldOf z k a0 fun v2 v3 v4 =>
   impl_field_image z k v2 v3 v4 a1 (-1) fun v5 =>
   impl_cycloOf z k a0 v5 Φ
def laws_likeInts.g6 {A : Type} (z : A) : Nat → List Int → List Int → Int → (Bool → A) → A → A
 | 0, _, _, _, _, _ => z
 | k + 1, x0, x1, x2, K0, K1 =>
  if x2 < (x0.length : Int) then
   inI z x2 (x0.length) fun j1 =>
   inI z x2 (x1.length) fun j2 =>
   if (x0.getD j1 0) ≠ (x1.getD j2 0) then
    K0 false
   else
    laws_likeInts.g6 z k x0 x1 (w64 (x2 + 1)) K0 K1
  else
   K1
def laws_likeInts {A : Type} (z : A) : Nat → List Int → List Int → (Bool → A) → A := step (fun _ _ _ => z) fun k a0 a1 Φ =>
  if (a0.length : Int) ≠ (a1.length : Int) then
   Φ false
  else
   laws_likeInts.g6 z k a0 a1 0 Φ (Φ true)
def laws_cyclos5 {A : Type} (z : A) : Nat → Int → List Int → Int → List Int → (Bool → A) → A := step (fun _ _ _ _ _ => z) fun k a0 a1 a2 a3 Φ =>
  if a0 = a2 then
   laws_likeInts z k a1 a3 Φ
  else
   Φ false
def spec_l01Near {A : Type} (z : A) : Nat → List Int → Int → Int → Int → (List Int → Int → Int → Int → A) → A := step (fun _ _ _ _ _ => z) fun k a0 a1 a2 a3 Φ =>
  spec_l01Next z k a0 a1 a2 14 fun v1 v2 v3 v4 =>
  if v4 = 0 then
   spec_l01Pick z k v1 v2 v3 [(-1), (w64 (a3 + 1)), 1099511627776, (-4611686018427387904)] Φ
  else
   spec_l01Next z k v1 v2 v3 (w64 (a3 + 1)) Φ
def spec_DrawIndexOf {A : Type} (z : A) : Nat → List Int → (Int → Int → A) → A := step (fun _ _ => z) fun k a0 Φ =>
  spec_l01From z k a0 fun v1 v2 v3 =>
  spec_l03DrawPrime z k v1 v2 v3 fun v4 v5 v6 v7 =>
  spec_l03DrawPrime z k v4 v5 v6 fun v8 v9 v10 v11 =>
  spec_l03DrawPrime z k v8 v9 v10 fun v12 v13 v14 v15 =>
  spec_l01Pick z k v12 v13 v14 [v7, v11, v15, 9] fun v16 v17 v18 v19 =>
  spec_l01Near z k v16 v17 v18 (w64 (v19 - 2)) fun v20 v21 v22 v23 =>
  Φ v19 (w64 (1 + v23))
def impl_IndexOf {A : Type} (z : A) : Nat → Int → Int → (Int → Int → A) → A := step (fun _ _ _ => z) fun k a0 a1 Φ =>
  impl_isPrime z k a0 fun v1 =>
  bif !v1 then
   Φ 0 2
  else
   impl_within z k a1 1 (w64 (a0 - 1)) fun v2 =>
   bif !v2 then
    Φ 0 2
   else
    impl_indices z k a0 fun v3 v4 =>
    inI z a1 (v3.length) fun j5 =>
    Φ (v3.getD j5 0) 0
def spec_l03Period.g3 {A : Type} (z : A) : Nat → Int → Int → Int → Int → (Int → A) → A
 | 0, _, _, _, _, _ => z
 | k + 1, x0, x1, x2, x3, K0 =>
  if x2 ≠ 1 then
   gd z (x0 ≠ 0) <|
   spec_l03Period.g3 z k x0 x1 ((w64 (x2 * x1)).tmod x0) (w64 (x3 + 1)) K0
  else
   K0 x3
def spec_l03Period {A : Type} (z : A) : Nat → Int → Int → (Int → A) → A := step (fun _ _ _ => z) fun k a0 a1 Φ =>
  spec_l03Period.g3 z k a0 a1 a1 1 Φ
def spec_l03Root.g3 {A : Type} (z : A) : Nat → Int → Int → (Int → A) → A
 | 0, _, _, _ => z
 | k + 1, x0, x1, K0 =>
  spec_l03Period z k x0 x1 fun v1 =>
  if v1 ≠ (w64 (x0 - 1)) then
   spec_l03Root.g3 z k x0 (w64 (x1 + 1)) K0
  else
   K0 x1
def spec_l03Root {A : Type} (z : A) : Nat → Int → (Int → A) → A := step (fun _ _ => z) fun k a0 Φ =>
  spec_l03Root.g3 z k a0 1 Φ
def spec_l03Index.g4 {A : Type} (z : A) : Nat → Int → Int → Int → Int → Int → (Int → A) → A
 | 0, _, _, _, _, _, _ => z
 | k + 1, x0, x1, x2, x3, x4, K0 =>
  if x3 ≠ x1 then
   gd z (x0 ≠ 0) <|
   spec_l03Index.g4 z k x0 x1 x2 ((w64 (x3 * x2)).tmod x0) (w64 (x4 + 1)) K0
  else
   K0 x4
def spec_l03Index {A : Type} (z : A) : Nat → Int → Int → (Int → A) → A := step (fun _ _ _ => z) fun k a0 a1 Φ =>
  spec_l03Root z k a0 fun v1 =>
  gd z (a0 ≠ 0) <|
  gd z (a0 ≠ 0) <|
  spec_l03Index.g4 z k a0 ((w64 ((a1.tmod a0) + a0)).tmod a0) v1 1 0 Φ
def spec_IndexOf {A : Type} (z : A) : Nat → Int → Int → (Int → Int → A) → A := step (fun _ _ _ => z) fun k a0 a1 Φ =>
  spec_l03Prime z k a0 fun v1 =>
  bif !v1 then
   Φ 0 2
  else
   spec_l01In z k a1 1 (w64 (a0 - 1)) fun v2 =>
   bif !v2 then
    Φ 0 2
   else
    spec_l03Index z k a0 a1 fun v3 =>
    Φ v3 0
def impl_PrimitiveRoot {A : Type} (z : A) : Nat → Int → (Int → Int → A) → A := step (fun _ _ => z) fun k a0 Φ =>
  impl_isPrime z k a0 fun v1 =>
  bif !v1 then
   Φ 0 2
  else
   impl_indices z k a0 fun v2 v3 =>
   Φ v3 0
def spec_l03Spoil {A : Type} (z : A) : Nat → List Int → Int → Int → (List Int → Int → Int → Int → Int → Int → A) → A := step (fun _ _ _ _ => z) fun k a0 a1 a2 Φ =>
  spec_l03Draw z k a0 a1 a2 fun v1 v2 v3 v4 v5 v6 =>
  spec_l03Bad z k v1 v2 v3 v4 v5 v6 Φ
def spec_l01DrawPart {A : Type} (z : A) : Nat → List Int → Int → Int → Int → (List Int → Int → Int → Int → A) → A := step (fun _ _ _ _ _ => z) fun k a0 a1 a2 a3 Φ =>
  spec_l01Next z k a0 a1 a2 (w64 ((w64 (2 * a3)) + 1)) fun v1 v2 v3 v4 =>
  Φ v1 v2 v3 (w64 (v4 - a3))
def spec_DrawCharacterAt {A : Type} (z : A) : Nat → List Int → (Int → Int → Int → Int → A) → A := step (fun _ _ => z) fun k a0 Φ =>
  spec_l01From z k a0 fun v1 v2 v3 =>
  spec_l03Spoil z k v1 v2 v3 fun v4 v5 v6 v7 v8 v9 =>
  spec_l01Next z k v4 v5 v6 61 fun v10 v11 v12 v13 =>
  spec_l01DrawPart z k v10 v11 v12 100 fun v14 v15 v16 v17 =>
  spec_l01DrawPart z k v14 v15 v16 1000000 fun v18 v19 v20 v21 =>
  spec_l01Pick z k v18 v19 v20 [v13, v17, v21, v7, 0, 1000001] fun v22 v23 v24 v25 =>
  Φ v7 v8 v9 v25
def spec_l03Exponent {A : Type} (z : A) : Nat → Int → Int → Int → Int → (Int → A) → A := step (fun _ _ _ _ _ => z) fun k a0 a1 a2 a3 Φ =>
  gd z (a0 ≠ 0) <|
  if (a3.tmod a0) = 0 then
   Φ (-1)
  else
   spec_l03Index z k a0 a3 fun v1 =>
   gd z (a1 ≠ 0) <|
   Φ ((w64 (v1 * a2)).tmod a1)
def spec_l01Gcd.g2 {A : Type} (z : A) : Nat → Int → Int → (Int → A) → A
 | 0, _, _, _ => z
 | k + 1, x0, x1, K0 =>
  if x1 ≠ 0 then
   gd z (x1 ≠ 0) <|
   spec_l01Gcd.g2 z k x1 (x0.tmod x1) K0
  else
   K0 x0
def spec_l01Gcd {A : Type} (z : A) : Nat → Int → Int → (Int → A) → A := step (fun _ _ _ => z) fun k a0 a1 Φ =>
  spec_l01Gcd.g2 z k a0 a1 (fun v1 =>
   Φ (maxI v1 (w64 (0 - v1))))
def spec_l01Phi.g4 {A : Type} (z : A) : Nat → Int → Int → Int → (Int → A) → A
 | 0, _, _, _, _ => z
 | k + 1, x0, x1, x2, K0 =>
  if x2 ≤ x0 then
   spec_l01Gcd z k x2 x0 fun v1 =>
   if v1 = 1 then
    spec_l01Phi.g4 z k x0 (w64 (x1 + 1)) (w64 (x2 + 1)) K0
   else
    spec_l01Phi.g4 z k x0 x1 (w64 (x2 + 1)) K0
  else
   K0 x1
def spec_l01Phi {A : Type} (z : A) : Nat → Int → (Int → A) → A := step (fun _ _ => z) fun k a0 Φ =>
  spec_l01Phi.g4 z k a0 0 1 Φ
def spec_l01Zero {A : Type} (z : A) : Nat → Int → (Int → List Int → A) → A := step (fun _ _ => z) fun k a0 Φ =>
  spec_l01Phi z k a0 fun v1 =>
  mkI z 8 v1 fun m2 =>
  Φ a0 (List.replicate m2 (0 : Int))
def spec_l01Own {A : Type} (z : A) : Nat → List Int → (List Int → A) → A := step (fun _ _ => z) fun k a0 Φ =>
  apI z (0 + (a0.length)) 8 <|
  Φ ([] ++ a0)
def spec_l01Quotient.g11 {A : Type} (z : A) : Nat → List Int → Int → Int → List Int → List Int → (List Int → A) → A
 | 0, _, _, _, _, _, _ => z
 | k + 1, x0, x1, x2, x3, x4, K0 =>
  if x2 < (x0.length : Int) then
   inI z (w64 (x1 + x2)) (x3.length) fun j5 =>
   inI z x1 (x4.length) fun j6 =>
   inI z x2 (x0.length) fun j7 =>
   inI z (w64 (x1 + x2)) (x3.length) fun j8 =>
   spec_l01Quotient.g11 z k x0 x1 (w64 (x2 + 1)) (x3.set j8 (w64 ((x3.getD j5 0) - (w64 ((x4.getD j6 0) * (x0.getD j7 0)))))) x4 K0
  else
   K0 x3
def spec_l01Quotient.g5 {A : Type} (z : A) : Nat → List Int → Int → List Int → List Int → (List Int → A) → A
 | 0, _, _, _, _, _ => z
 | k + 1, x0, x1, x2, x3, K0 =>
  if 0 ≤ x1 then
   inI z (w64 ((w64 (x1 + (x0.length : Int))) - 1)) (x2.length) fun j3 =>
   inI z x1 (x3.length) fun j4 =>
   spec_l01Quotient.g11 z k x0 x1 0 x2 (x3.set j4 (x2.getD j3 0)) (fun v9 =>
    spec_l01Quotient.g5 z k x0 (w64 (x1 - 1)) v9 (x3.set j4 (x2.getD j3 0)) K0)
  else
   K0 x3
def spec_l01Quotient {A : Type} (z : A) : Nat → List Int → List Int → (List Int → A) → A := step (fun _ _ _ => z) fun k a0 a1 Φ =>
  spec_l01Own z k a0 fun v1 =>
  let y1 := w64 ((a0.length : Int) - (a1.length : Int))
  mkI z 8 (w64 (y1 + 1)) fun m2 =>
  spec_l01Quotient.g5 z k a1 y1 v1 (List.replicate m2 (0 : Int)) Φ
mutual
def spec_l01Cyclotomic.g6 {A : Type} (z : A) : Nat → Int → Int → List Int → (List Int → A) → A
 | 0, _, _, _, _ => z
 | k + 1, x0, x1, x2, K0 =>
  if x1 < x0 then
   gd z (x1 ≠ 0) <|
   if (x0.tmod x1) = 0 then
    spec_l01Cyclotomic z k x1 fun v4 =>
    spec_l01Quotient z k x2 v4 fun v5 =>
    spec_l01Cyclotomic.g6 z k x0 (w64 (x1 + 1)) v5 K0
   else
    spec_l01Cyclotomic.g6 z k x0 (w64 (x1 + 1)) x2 K0
  else
   K0 x2
def spec_l01Cyclotomic {A : Type} (z : A) : Nat → Int → (List Int → A) → A
 | 0, _, _ => z
 | k + 1, a0, Φ =>
  mkI z 8 (w64 (a0 + 1)) fun m1 =>
  inI z 0 ((List.replicate m1 (0 : Int)).length) fun j2 =>
  inI z a0 (((List.replicate m1 (0 : Int)).set j2 (-1)).length) fun j3 =>
  spec_l01Cyclotomic.g6 z k a0 1 (((List.replicate m1 (0 : Int)).set j2 (-1)).set j3 1) Φ
end
def spec_l01Reduce.g11 {A : Type} (z : A) : Nat → Int → Int → Int → Int → List Int → List Int → (List Int → A) → A
 | 0, _, _, _, _, _, _, _ => z
 | k + 1, x1, x2, x3, x4, x6, x7, K0 =>
  if x4 ≤ x1 then
   inI z (w64 ((w64 (x2 - x1)) + x4)) (x7.length) fun j4 =>
   inI z x4 (x6.length) fun j5 =>
   inI z (w64 ((w64 (x2 - x1)) + x4)) (x7.length) fun j6 =>
   spec_l01Reduce.g11 z k x1 x2 x3 (w64 (x4 + 1)) x6 (x7.set j6 (w64 ((x7.getD j4 0) - (w64 (x3 * (x6.getD j5 0)))))) K0
  else
   K0 x7
def spec_l01Reduce.g5 {A : Type} (z : A) : Nat → Int → Int → List Int → List Int → (List Int → A) → A
 | 0, _, _, _, _, _ => z
 | k + 1, x1, x2, x4, x5, K0 =>
  if x1 ≤ x2 then
   inI z x2 (x5.length) fun j3 =>
   spec_l01Reduce.g11 z k x1 x2 (x5.getD j3 0) 0 x4 x5 (fun v7 =>
    spec_l01Reduce.g5 z k x1 (w64 (x2 - 1)) x4 v7 K0)
  else
   K0 x5
def spec_l01Reduce.g18 {A : Type} (z : A) : Nat → Int → Int → List Int → List Int → (List Int → A) → A
 | 0, _, _, _, _, _ => z
 | k + 1, x0, x1, x3, x6, K0 =>
  if x1 < x0 then
   if x1 < (x3.length : Int) then
    inI z x1 (x3.length) fun j11 =>
    inI z x1 (x6.length) fun j12 =>
    spec_l01Reduce.g18 z k x0 (w64 (x1 + 1)) x3 (x6.set j12 (x3.getD j11 0)) K0
   else
    K0 x6
  else
   K0 x6
def spec_l01Reduce {A : Type} (z : A) : Nat → Int → List Int → (Int → List Int → A) → A := step (fun _ _ _ => z) fun k a0 a1 Φ =>
  spec_l01Cyclotomic z k a0 fun v1 =>
  spec_l01Own z k a1 fun v2 =>
  let y1 := w64 ((v1.length : Int) - 1)
  spec_l01Reduce.g5 z k y1 (w64 ((v2.length : Int) - 1)) v1 v2 (fun v8 =>
   spec_l01Zero z k a0 fun v9 v10 =>
   spec_l01Reduce.g18 z k y1 0 v8 v10 (fun v13 =>
    Φ v9 v13))
def spec_l01Unit {A : Type} (z : A) : Nat → Int → Int → (Int → List Int → A) → A := step (fun _ _ _ => z) fun k a0 a1 Φ =>
  gd z (a0 ≠ 0) <|
  let y1 := w64 ((a1.tmod a0) + a0)
  gd z (a0 ≠ 0) <|
  let y2 := y1.tmod a0
  mkI z 8 (w64 (y2 + 1)) fun m1 =>
  inI z y2 ((List.replicate m1 (0 : Int)).length) fun j2 =>
  spec_l01Reduce z k a0 ((List.replicate m1 (0 : Int)).set j2 1) Φ
def spec_l03At {A : Type} (z : A) : Nat → Int → Int → Int → Int → (Int → List Int → A) → A := step (fun _ _ _ _ _ => z) fun k a0 a1 a2 a3 Φ =>
  spec_l03Exponent z k a0 a1 a2 a3 fun v1 =>
  if v1 < 0 then
   spec_l01Zero z k a1 Φ
  else
   spec_l01Unit z k a1 v1 Φ
def spec_CharacterAt {A : Type} (z : A) : Nat → Int → Int → Int → Int → (Int → List Int → Int → A) → A := step (fun _ _ _ _ _ => z) fun k a0 a1 a2 a3 Φ =>
  spec_l03Is z k a0 a1 a2 fun v1 =>
  bif !v1 then
   Φ 0 [] 1
  else
   spec_l01In z k a3 (-1000000) 1000000 fun v2 =>
   bif !v2 then
    Φ 0 [] 2
   else
    spec_l03At z k a0 a1 a2 a3 fun v3 v4 =>
    Φ v3 v4 0
def spec_DrawPrimitiveRoot {A : Type} (z : A) : Nat → List Int → (Int → A) → A := step (fun _ _ => z) fun k a0 Φ =>
  spec_l01From z k a0 fun v1 v2 v3 =>
  spec_l03DrawPrime z k v1 v2 v3 fun v4 v5 v6 v7 =>
  spec_l03DrawPrime z k v4 v5 v6 fun v8 v9 v10 v11 =>
  spec_l01Near z k v8 v9 v10 61 fun v12 v13 v14 v15 =>
  spec_l01Pick z k v12 v13 v14 [v7, v11, v15] fun v16 v17 v18 v19 =>
  Φ v19
def spec_PrimitiveRoot {A : Type} (z : A) : Nat → Int → (Int → Int → A) → A := step (fun _ _ => z) fun k a0 Φ =>
  spec_l03Prime z k a0 fun v1 =>
  bif !v1 then
   Φ 0 2
  else
   spec_l03Root z k a0 fun v2 =>
   Φ v2 0
def spec_DrawCharactersOf {A : Type} (z : A) : Nat → List Int → (Int → Int → A) → A := step (fun _ _ => z) fun k a0 Φ =>
  spec_l01From z k a0 fun v1 v2 v3 =>
  spec_l03DrawPrime z k v1 v2 v3 fun v4 v5 v6 v7 =>
  spec_l01Next z k v4 v5 v6 8 fun v8 v9 v10 v11 =>
  if v11 = 0 then
   spec_l01Pick z k v8 v9 v10 [v7, 9, 67] fun v12 v13 v14 v15 =>
   spec_l01Near z k v12 v13 v14 17 fun v16 v17 v18 v19 =>
   Φ v15 v19
  else
   spec_l03DrawOrder z k v8 v9 v10 v7 fun v20 v21 v22 v23 =>
   Φ v7 v23
def impl_charactersOf.g4 {A : Type} (z : A) : Nat → Int → Int → Int → Int → List (Int × Int × Int) → (List (Int × Int × Int) → A) → A
 | 0, _, _, _, _, _, _ => z
 | k + 1, x0, x1, x2, x3, x4, K0 =>
  if x3 < x2 then
   apI z ((x4.length) + 1) 24 <|
   impl_charactersOf.g4 z k x0 x1 x2 (w64 (x3 + 1)) (x4 ++ [(x0, (x1, x3))]) K0
  else
   K0 x4
def impl_charactersOf {A : Type} (z : A) : Nat → Int → Int → (List (Int × Int × Int) → A) → A := step (fun _ _ _ => z) fun k a0 a1 Φ =>
  impl_charactersOf.g4 z k a0 a1 a1 0 [] Φ
def impl_CharactersOf {A : Type} (z : A) : Nat → Int → Int → (List (Int × Int × Int) → Int → A) → A := step (fun _ _ _ => z) fun k a0 a1 Φ =>
  impl_areOf z k a0 a1 fun v1 =>
  bif !v1 then
   Φ [] 2
  else
   impl_charactersOf z k a0 a1 fun v2 =>
   Φ v2 0
def spec_CharactersOf.g7 {A : Type} (z : A) : Nat → Int → Int → Int → List (Int × Int × Int) → (List (Int × Int × Int) → A) → A
 | 0, _, _, _, _, _ => z
 | k + 1, x0, x1, x2, x3, K0 =>
  if x2 < x1 then
   apI z ((x3.length) + 1) 24 <|
   spec_CharactersOf.g7 z k x0 x1 (w64 (x2 + 1)) (x3 ++ [(x0, (x1, x2))]) K0
  else
   K0 x3
def spec_CharactersOf {A : Type} (z : A) : Nat → Int → Int → (List (Int × Int × Int) → Int → A) → A := step (fun _ _ _ => z) fun k a0 a1 Φ =>
  spec_l03Prime z k a0 fun v1 =>
  bif !v1 then
   Φ [] 2
  else
   spec_l03Order z k a0 a1 fun v2 =>
   bif !v2 then
    Φ [] 2
   else
    spec_CharactersOf.g7 z k a0 a1 0 [] (fun v3 =>
     Φ v3 0)
def spec_DrawExponentsOf {A : Type} (z : A) : Nat → List Int → (Int → Int → Int → A) → A := step (fun _ _ => z) fun k a0 Φ =>
  spec_l01From z k a0 fun v1 v2 v3 =>
  spec_l03Spoil z k v1 v2 v3 fun v4 v5 v6 v7 v8 v9 =>
  Φ v7 v8 v9
def spec_ExponentsOf.g7 {A : Type} (z : A) : Nat → Int → Int → Int → Int → List Int → (List Int → A) → A
 | 0, _, _, _, _, _, _ => z
 | k + 1, x0, x1, x2, x3, x4, K0 =>
  if x0 < x1 then
   spec_l03Exponent z k x1 x2 x3 x0 fun v2 =>
   apI z ((x4.length) + 1) 8 <|
   spec_ExponentsOf.g7 z k (w64 (x0 + 1)) x1 x2 x3 (x4 ++ [v2]) K0
  else
   K0 x4
def spec_ExponentsOf {A : Type} (z : A) : Nat → Int → Int → Int → (List Int → Int → A) → A := step (fun _ _ _ _ => z) fun k a0 a1 a2 Φ =>
  spec_l03Is z k a0 a1 a2 fun v1 =>
  bif !v1 then
   Φ [] 1
  else
   spec_ExponentsOf.g7 z k 1 a0 a1 a2 [] (fun v3 =>
    Φ v3 0)
def spec_DrawKernelOf {A : Type} (z : A) : Nat → List Int → (Int → Int → Int → A) → A := step (fun _ _ => z) fun k a0 Φ =>
  spec_l01From z k a0 fun v1 v2 v3 =>
  spec_l03Spoil z k v1 v2 v3 fun v4 v5 v6 v7 v8 v9 =>
  Φ v7 v8 v9
def spec_KernelOf.g7 {A : Type} (z : A) : Nat → Int → Int → Int → Int → List Int → (List Int → A) → A
 | 0, _, _, _, _, _, _ => z
 | k + 1, x0, x1, x2, x3, x4, K0 =>
  if x0 < x1 then
   spec_l03Exponent z k x1 x2 x3 x0 fun v2 =>
   if v2 = 0 then
    apI z ((x4.length) + 1) 8 <|
    spec_KernelOf.g7 z k (w64 (x0 + 1)) x1 x2 x3 (x4 ++ [x0]) K0
   else
    spec_KernelOf.g7 z k (w64 (x0 + 1)) x1 x2 x3 x4 K0
  else
   K0 x4
def spec_KernelOf {A : Type} (z : A) : Nat → Int → Int → Int → (List Int → Int → A) → A := step (fun _ _ _ _ => z) fun k a0 a1 a2 Φ =>
  spec_l03Is z k a0 a1 a2 fun v1 =>
  bif !v1 then
   Φ [] 1
  else
   spec_KernelOf.g7 z k 1 a0 a1 a2 [] (fun v3 =>
    Φ v3 0)
def spec_DrawExactOrder {A : Type} (z : A) : Nat → List Int → (Int → Int → Int → A) → A := step (fun _ _ => z) fun k a0 Φ =>
  spec_l01From z k a0 fun v1 v2 v3 =>
  spec_l03Spoil z k v1 v2 v3 fun v4 v5 v6 v7 v8 v9 =>
  Φ v7 v8 v9
def spec_ExactOrder {A : Type} (z : A) : Nat → Int → Int → Int → (Int → Int → A) → A := step (fun _ _ _ _ => z) fun k a0 a1 a2 Φ =>
  spec_l03Is z k a0 a1 a2 fun v1 =>
  bif !v1 then
   Φ 0 1
  else
   spec_l01Gcd z k a1 a2 fun v2 =>
   gd z (v2 ≠ 0) <|
   Φ (w64 (a1.tdiv v2)) 0
def laws_FnCharacters.g65 {A : Type} (z : A) : Nat → Int → List (Int × Int × Int) → List (Int × Int × Int) → (Bool → A) → A → A
 | 0, _, _, _, _, _ => z
 | k + 1, x1, x2, x3, K0, K1 =>
  if x1 < (x2.length : Int) then
   inI z x1 (x2.length) fun j83 =>
   inI z x1 (x3.length) fun j84 =>
   if ([((x2.getD j83 (0, (0, 0))).1), (((x2.getD j83 (0, (0, 0))).2).1), (((x2.getD j83 (0, (0, 0))).2).2)] : List Int) ≠ [((x3.getD j84 (0, (0, 0))).1), (((x3.getD j84 (0, (0, 0))).2).1), (((x3.getD j84 (0, (0, 0))).2).2)] then
    K0 false
   else
    laws_FnCharacters.g65 z k (w64 (x1 + 1)) x2 x3 K0 K1
  else
   K1
def laws_FnCharacters.g39 {A : Type} (z : A) : Nat → List Int → (Bool → A) → A
 | 0, _, _ => z
 | k + 1, x0, K0 =>
  spec_DrawCharacterAt z k x0 fun v61 v62 v63 v64 =>
  impl_CharacterAt z k v61 v62 v63 v64 fun v65 v66 v67 =>
  spec_CharacterAt z k v61 v62 v63 v64 fun v68 v69 v70 =>
  spec_DrawPrimitiveRoot z k x0 fun v71 =>
  impl_PrimitiveRoot z k v71 fun v72 v73 =>
  spec_PrimitiveRoot z k v71 fun v74 v75 =>
  spec_DrawCharactersOf z k x0 fun v76 v77 =>
  impl_CharactersOf z k v76 v77 fun v78 v79 =>
  spec_CharactersOf z k v76 v77 fun v80 v81 =>
  if v67 ≠ v70 then
   K0 false
  else
   laws_cyclos5 z k v65 v66 v68 v69 fun v82 =>
   bif !v82 then
    K0 false
   else if v73 ≠ v75 then
    K0 false
   else if v72 ≠ v74 then
    K0 false
   else if v79 ≠ v81 then
    K0 false
   else if (v78.length : Int) ≠ (v80.length : Int) then
    K0 false
   else
    laws_FnCharacters.g65 z k 0 v78 v80 K0 (spec_DrawExponentsOf z k x0 fun v86 v87 v88 =>
     impl_ExponentsOf z k v86 v87 v88 fun v89 v90 =>
     spec_ExponentsOf z k v86 v87 v88 fun v91 v92 =>
     spec_DrawKernelOf z k x0 fun v93 v94 v95 =>
     impl_KernelOf z k v93 v94 v95 fun v96 v97 =>
     spec_KernelOf z k v93 v94 v95 fun v98 v99 =>
     spec_DrawExactOrder z k x0 fun v100 v101 v102 =>
     impl_ExactOrder z k v100 v101 v102 fun v103 v104 =>
     spec_ExactOrder z k v100 v101 v102 fun v105 v106 =>
     if v90 = v92 then
      laws_likeInts z k v89 v91 fun v107 =>
      bif v107 then
       if v97 = v99 then
        laws_likeInts z k v96 v98 fun v108 =>
        bif v108 then
         if v104 = v106 then
          K0 (decide (v103 = v105))
         else
          K0 false
        else
         K0 false
       else
        K0 false
      else
       K0 false
     else
      K0 false)
def laws_FnCharacters.g45 {A : Type} (z : A) : Nat → Int → Int → Int → Int → Int → Int → (Int → A) → A
 | 0, _, _, _, _, _, _, _ => z
 | k + 1, x1, x3, x4, x5, x6, x7, K0 =>
  if x7 < x3 then
   if x5 = 0 then
    gd z (x1 ≠ 0) <|
    laws_FnCharacters.g45 z k x1 x3 x4 x5 ((w64 (x6 * x4)).tmod x1) (w64 (x7 + 1)) K0
   else
    K0 x6
  else
   K0 x6
def laws_FnCharacters.g10 {A : Type} (z : A) : Nat → List Int → (Bool → A) → A
 | 0, _, _ => z
 | k + 1, x0, K0 =>
  spec_DrawIndexOf z k x0 fun v52 v53 =>
  impl_IndexOf z k v52 v53 fun v54 v55 =>
  spec_IndexOf z k v52 v53 fun v56 v57 =>
  if v55 ≠ v57 then
   K0 false
  else if v54 ≠ v56 then
   K0 false
  else if v55 = 0 then
   impl_PrimitiveRoot z k v52 fun v58 v59 =>
   laws_FnCharacters.g45 z k v52 v54 v58 v59 1 0 (fun v60 =>
    if v59 ≠ 0 then
     K0 false
    else if v60 ≠ v53 then
     K0 false
    else
     laws_FnCharacters.g39 z k x0 K0)
  else
   laws_FnCharacters.g39 z k x0 K0
def laws_FnCharacters.g21 {A : Type} (z : A) : Nat → Int → Int → Int → Int → Int → Int → Int → Int → Int → Int → Int → Int → Int → (Bool → A) → A → A
 | 0, _, _, _, _, _, _, _, _, _, _, _, _, _, _, _ => z
 | k + 1, x1, x2, x3, x4, x5, x6, x7, x8, x9, x10, x11, x12, x13, K0, K1 =>
  if x1 ≤ 4 then
   impl_CharacterAt z k x2 x3 x4 x1 fun v31 v32 v33 =>
   impl_CharacterAt z k x5 x6 x7 x1 fun v34 v35 v36 =>
   impl_CharacterAt z k x8 x9 x10 x1 fun v37 v38 v39 =>
   impl_MultiplyCyclos z k v31 v32 v34 v35 fun v40 v41 v42 =>
   impl_CharacterAt z k x11 x12 x13 x1 fun v43 v44 v45 =>
   impl_ConjugateOf z k v31 v32 fun v46 v47 v48 =>
   if v33 ≠ 0 then
    K0 false
   else if v36 ≠ 0 then
    K0 false
   else if v39 ≠ 0 then
    K0 false
   else if v42 ≠ 0 then
    K0 false
   else if v45 ≠ 0 then
    K0 false
   else if v48 ≠ 0 then
    K0 false
   else
    laws_cyclos5 z k v37 v38 v40 v41 fun v49 =>
    bif !v49 then
     K0 false
    else
     laws_cyclos5 z k v43 v44 v46 v47 fun v50 =>
     bif !v50 then
      K0 false
     else
      laws_FnCharacters.g21 z k (w64 (x1 + 1)) x2 x3 x4 x5 x6 x7 x8 x9 x10 x11 x12 x13 K0 K1
  else
   K1
def laws_FnCharacters {A : Type} (z : A) : Nat → List Int → (Bool → A) → A := step (fun _ _ => z) fun k a0 Φ =>
  laws_big z k a0 fun v1 =>
  bif v1 then
   Φ true
  else
   spec_DrawMultiplyCharacters z k a0 fun v2 v3 v4 v5 v6 v7 =>
   impl_MultiplyCharacters z k v2 v3 v4 v5 v6 v7 fun v8 v9 v10 v11 =>
   spec_MultiplyCharacters z k v2 v3 v4 v5 v6 v7 fun v12 v13 v14 v15 =>
   if v11 ≠ v15 then
    Φ false
   else if ([v8, v9, v10] : List Int) ≠ [v12, v13, v14] then
    Φ false
   else
    impl_IsCharacter z k v2 v3 v4 fun v16 =>
    spec_IsCharacter z k v2 v3 v4 fun v17 =>
    if v16 ≠ v17 then
     Φ false
    else if v11 = 0 then
     impl_InverseCharacter z k v2 v3 v4 fun v18 v19 v20 v21 =>
     impl_KernelOf z k v2 v3 v4 fun v22 v23 =>
     impl_ExactOrder z k v2 v3 v4 fun v24 v25 =>
     impl_ExponentsOf z k v2 v3 v4 fun v26 v27 =>
     impl_IsEvenCharacter z k v2 v3 v4 fun v28 v29 =>
     if v21 ≠ 0 then
      Φ false
     else if v23 ≠ 0 then
      Φ false
     else if v25 ≠ 0 then
      Φ false
     else if v27 ≠ 0 then
      Φ false
     else if v29 ≠ 0 then
      Φ false
     else
      if (w64 ((v22.length : Int) * v24)) ≠ (w64 (v2 - 1)) then
       Φ false
      else if (v26.length : Int) ≠ (w64 (v2 - 1)) then
       Φ false
      else
       inI z (w64 ((v26.length : Int) - 1)) (v26.length) fun j30 =>
       if v28 ≠ (decide ((v26.getD j30 0) = 0)) then
        Φ false
       else
        laws_FnCharacters.g21 z k 1 v2 v3 v4 v5 v6 v7 v8 v9 v10 v18 v19 v20 Φ (laws_FnCharacters.g10 z k a0 Φ)
    else
     laws_FnCharacters.g10 z k a0 Φ
end Go.Proofs.YtbgbokflmekhmaaGreat.R
