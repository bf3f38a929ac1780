/- What the functions tell, printed by a program of this repo. -/
import Derived.Test.YtbgbokflmekhmaaZR5
/- x -/
namespace Go.Proofs.Ytbgbokflmekhmaa.R
set_option linter.unusedVariables false
def laws_big {A : Type} (z : A) : Nat → List Int → (Bool → A) → A := step (fun _ _ => z) fun k a0 Φ =>
  Φ (decide (4096 < (a0.length : Int)))
def spec_l01From.g4 {A : Type} (z : A) : Nat → List Int → Int → Int → (Int → A) → A
 | 0, _, _, _, _ => z
 | k + 1, x0, x1, x4, K0 =>
  if x1 < (x0.length : Int) then
   if x1 < 4096 then
    inI z x1 (x0.length) fun j1 =>
    spec_l01From.g4 z k x0 (w64 (x1 + 1)) (wu64 ((wu64 ((wu64 (x4 * 1099511628211)) + (wu64 (x0.getD j1 0)))) + 131)) K0
   else
    K0 x4
  else
   K0 x4
def spec_l01From {A : Type} (z : A) : Nat → List Int → (List Int → Int → Int → A) → A := step (fun _ _ => z) fun k a0 Φ =>
  spec_l01From.g4 z k a0 0 (wu64 (13131 + (wu64 (a0.length : Int)))) (fun v2 =>
   Φ a0 0 v2)
def spec_l01Next {A : Type} (z : A) : Nat → List Int → Int → Int → Int → (List Int → Int → Int → Int → A) → A := step (fun _ _ _ _ _ => z) fun k a0 a1 a2 a3 Φ =>
  if a3 < 1 then
   Φ a0 a1 a2 0
  else
   let y1 := wu64 (a2 * 6364136223846793005)
   let y2 := wu64 (y1 + 1442695040888963407)
   let y3 := y2.fdiv (2 ^ (31))
   let y4 := wu64 ((BitVec.ofInt 64 y3 &&& BitVec.ofInt 64 1073741823).toNat : Int)
   if a1 < (a0.length : Int) then
    inI z a1 (a0.length) fun j1 =>
    gd z (a3 ≠ 0) <|
    Φ a0 (w64 (a1 + 1)) y2 ((w64 ((w64 y4) + (w64 (a0.getD j1 0)))).tmod a3)
   else
    gd z (a3 ≠ 0) <|
    Φ a0 a1 y2 ((w64 y4).tmod a3)
def spec_l01Pick {A : Type} (z : A) : Nat → List Int → Int → Int → List Int → (List Int → Int → Int → Int → A) → A := step (fun _ _ _ _ _ => z) fun k a0 a1 a2 a3 Φ =>
  spec_l01Next z k a0 a1 a2 (a3.length : Int) fun v1 v2 v3 v4 =>
  inI z v4 (a3.length) fun j5 =>
  Φ v1 v2 v3 (a3.getD j5 0)
def spec_l03DrawPrime {A : Type} (z : A) : Nat → List Int → Int → Int → (List Int → Int → Int → Int → A) → A := step (fun _ _ _ _ => z) fun k a0 a1 a2 Φ =>
  spec_l01Pick z k a0 a1 a2 [3, 5, 7, 7, 11, 13, 13, 17, 19, 31, 37, 41, 43, 61] Φ
def spec_l03DrawOrder.g4 {A : Type} (z : A) : Nat → Int → Int → List Int → (List Int → A) → A
 | 0, _, _, _, _ => z
 | k + 1, x0, x1, x5, K0 =>
  if x1 ≤ 16 then
   gd z (x1 ≠ 0) <|
   if ((w64 (x0 - 1)).tmod x1) = 0 then
    apI z ((x5.length) + 1) 8 <|
    spec_l03DrawOrder.g4 z k x0 (w64 (x1 + 1)) (x5 ++ [x1]) K0
   else
    spec_l03DrawOrder.g4 z k x0 (w64 (x1 + 1)) x5 K0
  else
   K0 x5
def spec_l03DrawOrder {A : Type} (z : A) : Nat → List Int → Int → Int → Int → (List Int → Int → Int → Int → A) → A := step (fun _ _ _ _ _ => z) fun k a0 a1 a2 a3 Φ =>
  spec_l03DrawOrder.g4 z k a3 1 [] (fun v1 =>
   spec_l01Next z k a0 a1 a2 (v1.length : Int) fun v2 v3 v4 v5 =>
   inI z v5 (v1.length) fun j6 =>
   Φ v2 v3 v4 (v1.getD j6 0))
def spec_l03DrawOf {A : Type} (z : A) : Nat → List Int → Int → Int → Int → Int → (List Int → Int → Int → Int → Int → Int → A) → A := step (fun _ _ _ _ _ _ => z) fun k a0 a1 a2 a3 a4 Φ =>
  spec_l01Next z k a0 a1 a2 a4 fun v1 v2 v3 v4 =>
  Φ v1 v2 v3 a3 a4 v4
def spec_l03Draw {A : Type} (z : A) : Nat → List Int → Int → Int → (List Int → Int → Int → Int → Int → Int → A) → A := step (fun _ _ _ _ => z) fun k a0 a1 a2 Φ =>
  spec_l03DrawPrime z k a0 a1 a2 fun v1 v2 v3 v4 =>
  spec_l03DrawOrder z k v1 v2 v3 v4 fun v5 v6 v7 v8 =>
  spec_l03DrawOf z k v5 v6 v7 v4 v8 Φ
def spec_l03Bad {A : Type} (z : A) : Nat → List Int → Int → Int → Int → Int → Int → (List Int → Int → Int → Int → Int → Int → A) → A := step (fun _ _ _ _ _ _ _ => z) fun k a0 a1 a2 a3 a4 a5 Φ =>
  spec_l01Next z k a0 a1 a2 50 fun v1 v2 v3 v4 =>
  if v4 = 0 then
   spec_l01Pick z k v1 v2 v3 [0, 2, 9, 67, 1099511627776] fun v5 v6 v7 v8 =>
   Φ v5 v6 v7 v8 a4 a5
  else if v4 = 1 then
   spec_l01Pick z k v1 v2 v3 [0, 17, a3, (-1)] fun v9 v10 v11 v12 =>
   Φ v9 v10 v11 a3 v12 a5
  else if v4 = 2 then
   spec_l01Pick z k v1 v2 v3 [(-1), a4] fun v13 v14 v15 v16 =>
   Φ v13 v14 v15 a3 a4 v16
  else
   Φ v1 v2 v3 a3 a4 a5
def spec_l03Two {A : Type} (z : A) : Nat → List Int → (Int → Int → Int → Int → Int → Int → A) → A := step (fun _ _ => z) fun k a0 Φ =>
  spec_l01From z k a0 fun v1 v2 v3 =>
  spec_l03Draw z k v1 v2 v3 fun v4 v5 v6 v7 v8 v9 =>
  spec_l03DrawOf z k v4 v5 v6 v7 v8 fun v10 v11 v12 v13 v14 v15 =>
  spec_l01Next z k v10 v11 v12 16 fun v16 v17 v18 v19 =>
  if v19 = 0 then
   spec_l03Draw z k v16 v17 v18 fun v20 v21 v22 v23 v24 v25 =>
   spec_l03Bad z k v20 v21 v22 v7 v8 v9 fun v26 v27 v28 v29 v30 v31 =>
   spec_l03Bad z k v26 v27 v28 v23 v24 v25 fun v32 v33 v34 v35 v36 v37 =>
   Φ v29 v30 v31 v35 v36 v37
  else if v19 = 1 then
   if v19 = 1 then
    spec_l03Bad z k v16 v17 v18 v7 v8 v9 fun v38 v39 v40 v41 v42 v43 =>
    spec_l03Bad z k v38 v39 v40 v7 v8 v9 fun v44 v45 v46 v47 v48 v49 =>
    Φ v41 v42 v43 v47 v48 v49
   else
    spec_l03Bad z k v16 v17 v18 v7 v8 v9 fun v50 v51 v52 v53 v54 v55 =>
    spec_l03Bad z k v50 v51 v52 v13 v14 v15 fun v56 v57 v58 v59 v60 v61 =>
    Φ v53 v54 v55 v59 v60 v61
  else if v19 = 2 then
   spec_l03Bad z k v16 v17 v18 v7 v8 v9 fun v62 v63 v64 v65 v66 v67 =>
   spec_l03Bad z k v62 v63 v64 v7 v8 v9 fun v68 v69 v70 v71 v72 v73 =>
   Φ v65 v66 v67 v71 v72 v73
  else
   spec_l03Bad z k v16 v17 v18 v7 v8 v9 fun v74 v75 v76 v77 v78 v79 =>
   spec_l03Bad z k v74 v75 v76 v13 v14 v15 fun v80 v81 v82 v83 v84 v85 =>
   Φ v77 v78 v79 v83 v84 v85
def spec_DrawOrthogonalSum {A : Type} (z : A) : Nat → List Int → (Int → Int → Int → Int → Int → Int → A) → A := step (fun _ _ => z) fun k a0 Φ =>
  spec_l03Two z k a0 Φ
def impl_within {A : Type} (z : A) : Nat → Int → Int → Int → (Bool → A) → A := step (fun _ _ _ _ => z) fun k a0 a1 a2 Φ =>
  if a1 ≤ a0 then
   Φ (decide (a0 ≤ a2))
  else
   Φ false
def impl_isPrime.g3 {A : Type} (z : A) : Nat → Int → Int → (Bool → A) → A → A
 | 0, _, _, _, _ => z
 | k + 1, x0, x1, K0, K1 =>
  if (w64 (x1 * x1)) ≤ x0 then
   gd z (x1 ≠ 0) <|
   if (x0.tmod x1) = 0 then
    K0 false
   else
    impl_isPrime.g3 z k x0 (w64 (x1 + 1)) K0 K1
  else
   K1
def impl_isPrime {A : Type} (z : A) : Nat → Int → (Bool → A) → A := step (fun _ _ => z) fun k a0 Φ =>
  impl_isPrime.g3 z k a0 2 Φ (impl_within z k a0 3 61 Φ)
def impl_isOrder {A : Type} (z : A) : Nat → Int → (Bool → A) → A := step (fun _ _ => z) fun k a0 Φ =>
  impl_within z k a0 1 16 Φ
def impl_areOf {A : Type} (z : A) : Nat → Int → Int → (Bool → A) → A := step (fun _ _ _ => z) fun k a0 a1 Φ =>
  impl_isPrime z k a0 fun v1 =>
  bif v1 then
   impl_isOrder z k a1 fun v2 =>
   bif v2 then
    gd z (a1 ≠ 0) <|
    Φ (decide (((w64 (a0 - 1)).tmod a1) = 0))
   else
    Φ false
  else
   Φ false
def impl_IsCharacter {A : Type} (z : A) : Nat → Int → Int → Int → (Bool → A) → A := step (fun _ _ _ _ => z) fun k a0 a1 a2 Φ =>
  impl_areOf z k a0 a1 fun v1 =>
  bif v1 then
   impl_within z k a2 0 (w64 (a1 - 1)) Φ
  else
   Φ false
def impl_pairCode {A : Type} (z : A) : Nat → Int → Int → Int → Int → Int → Int → (Int → A) → A := step (fun _ _ _ _ _ _ _ => z) fun k a0 a1 a2 a3 a4 a5 Φ =>
  impl_IsCharacter z k a0 a1 a2 fun v1 =>
  bif !v1 then
   Φ 1
  else
   impl_IsCharacter z k a3 a4 a5 fun v2 =>
   bif !v2 then
    Φ 1
   else if a0 ≠ a3 then
    Φ 2
   else if a1 ≠ a4 then
    Φ 2
   else
    Φ 0
def math_bits_Mul64 {A : Type} (z : A) : Nat → Int → Int → (Int → Int → A) → A := step (fun _ _ _ => z) fun k a0 a1 Φ =>
  let y1 := wu64 ((BitVec.ofInt 64 a0 &&& BitVec.ofInt 64 4294967295).toNat : Int)
  let y2 := wu64 ((BitVec.ofInt 64 a1 &&& BitVec.ofInt 64 4294967295).toNat : Int)
  let y3 := wu64 (y1 * y2)
  let y4 := wu64 ((a0.fdiv (2 ^ (32))) * y2)
  let y5 := y3.fdiv (2 ^ (32))
  let y6 := wu64 (y4 + y5)
  Φ (wu64 ((wu64 ((wu64 ((a0.fdiv (2 ^ (32))) * (a1.fdiv (2 ^ (32))))) + (y6.fdiv (2 ^ (32))))) + ((wu64 ((wu64 ((BitVec.ofInt 64 y6 &&& BitVec.ofInt 64 4294967295).toNat : Int)) + (wu64 (y1 * (a1.fdiv (2 ^ (32))))))).fdiv (2 ^ (32))))) (wu64 (a0 * a1))
def math_bits_Mul {A : Type} (z : A) : Nat → Int → Int → (Int → Int → A) → A := step (fun _ _ _ => z) fun k a0 a1 Φ =>
  math_bits_Mul64 z k a0 a1 Φ
def slices_Repeat_Sint64_int64.g9 {A : Type} (z : A) : Nat → Int → List Int → (List Int → A) → A
 | 0, _, _, _ => z
 | k + 1, x0, x1, K0 =>
  if x0 < (x1.length : Int) then
   toI z x0 (x1.length) fun j4 =>
   toI z x0 (x1.length) fun j5 =>
   slices_Repeat_Sint64_int64.g9 z k (w64 (x0 + (((min (((x1.drop 0).take j5).length) ((x1.length) - j4)) : Nat) : Int))) (x1.take j4 ++ ((x1.drop 0).take j5).take ((x1.length) - j4) ++ x1.drop (j4 + (min (((x1.drop 0).take j5).length) ((x1.length) - j4)))) K0
  else
   K0 x1
def slices_Repeat_Sint64_int64.g4 {A : Type} (z : A) : Nat → List Int → Int → (List Int → A) → A
 | 0, _, _, _ => z
 | k + 1, x0, x1, K0 =>
  mkI z 8 (w64 x1) fun m3 =>
  slices_Repeat_Sint64_int64.g9 z k (((min (x0.length) ((List.replicate m3 (0 : Int)).length)) : Nat) : Int) ((List.replicate m3 (0 : Int)).take 0 ++ x0.take ((List.replicate m3 (0 : Int)).length) ++ (List.replicate m3 (0 : Int)).drop (0 + (min (x0.length) ((List.replicate m3 (0 : Int)).length)))) K0
def slices_Repeat_Sint64_int64.g1 {A : Type} (z : A) : Nat → List Int → Int → (List Int → A) → A
 | 0, _, _, _ => z
 | k + 1, x0, x1, K0 =>
  math_bits_Mul z k (wu64 (x0.length : Int)) (wu64 x1) fun v1 v2 =>
  if 0 < v1 then
   z
  else if 9223372036854775807 < v2 then
   z
  else
   slices_Repeat_Sint64_int64.g4 z k x0 v2 K0
def slices_Repeat_Sint64_int64 {A : Type} (z : A) : Nat → List Int → Int → (List Int → A) → A := step (fun _ _ _ => z) fun k a0 a1 Φ =>
  if a1 < 0 then
   z
  else
   slices_Repeat_Sint64_int64.g1 z k a0 a1 Φ
def impl_ones {A : Type} (z : A) : Nat → Int → (List Int → A) → A := step (fun _ _ => z) fun k a0 Φ =>
  slices_Repeat_Sint64_int64 z k [1] a0 Φ
def impl_around {A : Type} (z : A) : Nat → Int → Int → (Int → A) → A := step (fun _ _ _ => z) fun k a0 a1 Φ =>
  gd z (a1 ≠ 0) <|
  gd z (a1 ≠ 0) <|
  Φ ((w64 ((a0.tmod a1) + a1)).tmod a1)
def impl_withPower {A : Type} (z : A) : Nat → Int → Int → Int → Int → (Int → Int → Int → A) → A := step (fun _ _ _ _ _ => z) fun k a0 a1 a2 a3 Φ =>
  impl_around z k a3 a1 fun v1 =>
  Φ a0 a1 v1
def impl_indices.g7 {A : Type} (z : A) : Nat → Int → Int → Int → Int → List Int → (Int → List Int → A) → A
 | 0, _, _, _, _, _, _ => z
 | k + 1, x0, x1, x2, x3, x4, K0 =>
  inI z x2 (x4.length) fun j2 =>
  if (x4.getD j2 0) < 0 then
   inI z x2 (x4.length) fun j3 =>
   gd z (x0 ≠ 0) <|
   impl_indices.g7 z k x0 x1 ((w64 (x2 * x1)).tmod x0) (w64 (x3 + 1)) (x4.set j3 x3) K0
  else
   K0 x3 x4
def impl_indices.g2 {A : Type} (z : A) : Nat → Int → Int → (Int → List Int → A) → A
 | 0, _, _, _ => z
 | k + 1, x0, x1, K0 =>
  slices_Repeat_Sint64_int64 z k [(-1)] x0 fun v1 =>
  impl_indices.g7 z k x0 x1 1 0 v1 (fun v4 v5 =>
   if v4 = (w64 (x0 - 1)) then
    K0 x1 v5
   else
    impl_indices.g2 z k x0 (w64 (x1 + 1)) K0)
def impl_indices {A : Type} (z : A) : Nat → Int → (List Int → Int → A) → A := step (fun _ _ => z) fun k a0 Φ =>
  impl_indices.g2 z k a0 1 (fun v6 v7 =>
   Φ v7 v6)
def impl_exponents.g4 {A : Type} (z : A) : Nat → Int → Int → Int → Int → List Int → (List Int → A) → A
 | 0, _, _, _, _, _, _ => z
 | k + 1, x0, x1, x3, x4, x5, K0 =>
  if x1 < x0 then
   inI z x1 (x5.length) fun j3 =>
   if 0 < x1 then
    gd z (x3 ≠ 0) <|
    inI z x1 (x5.length) fun j4 =>
    impl_exponents.g4 z k x0 (w64 (x1 + 1)) x3 x4 (x5.set j4 ((w64 ((x5.getD j3 0) * x4)).tmod x3)) K0
   else
    impl_exponents.g4 z k x0 (w64 (x1 + 1)) x3 x4 x5 K0
  else
   K0 x5
def impl_exponents {A : Type} (z : A) : Nat → Int → Int → Int → (List Int → A) → A := step (fun _ _ _ _ => z) fun k a0 a1 a2 Φ =>
  impl_indices z k a0 fun v1 v2 =>
  impl_exponents.g4 z k (v1.length : Int) 0 a1 a2 v1 Φ
def slices_Clone_Sint64_int64 {A : Type} (z : A) : Nat → List Int → (List Int → A) → A := step (fun _ _ => z) fun _ a0 Φ =>
  apI z a0.length 8 <| Φ a0
def impl_quotient.g11 {A : Type} (z : A) : Nat → Int → List Int → Int → Int → List Int → List Int → (List Int → A) → A
 | 0, _, _, _, _, _, _, _ => z
 | k + 1, x1, x2, x3, x4, x5, x6, K0 =>
  if x4 < x3 then
   inI z x4 (x2.length) fun j5 =>
   inI z (w64 (x1 + x4)) (x5.length) fun j6 =>
   inI z x1 (x6.length) fun j7 =>
   inI z (w64 (x1 + x4)) (x5.length) fun j8 =>
   impl_quotient.g11 z k x1 x2 x3 (w64 (x4 + 1)) (x5.set j8 (w64 ((x5.getD j6 0) - (w64 ((x6.getD j7 0) * (x2.getD j5 0)))))) x6 K0
  else
   K0 x5
def impl_quotient.g5 {A : Type} (z : A) : Nat → List Int → Int → List Int → List Int → (List Int → A) → A
 | 0, _, _, _, _, _ => z
 | k + 1, x0, x1, x2, x3, K0 =>
  if 0 ≤ x1 then
   inI z (w64 ((w64 (x1 + (x0.length : Int))) - 1)) (x2.length) fun j3 =>
   inI z x1 (x3.length) fun j4 =>
   impl_quotient.g11 z k x1 x0 (x0.length : Int) 0 x2 (x3.set j4 (x2.getD j3 0)) (fun v9 =>
    impl_quotient.g5 z k x0 (w64 (x1 - 1)) v9 (x3.set j4 (x2.getD j3 0)) K0)
  else
   K0 x3
def impl_quotient {A : Type} (z : A) : Nat → List Int → List Int → (List Int → A) → A := step (fun _ _ _ => z) fun k a0 a1 Φ =>
  slices_Clone_Sint64_int64 z k a0 fun v1 =>
  mkI z 8 (w64 ((w64 ((v1.length : Int) - (a1.length : Int))) + 1)) fun m2 =>
  impl_quotient.g5 z k a1 (w64 (((List.replicate m2 (0 : Int)).length : Int) - 1)) v1 (List.replicate m2 (0 : Int)) Φ
mutual
def impl_cyclotomic.g5 {A : Type} (z : A) : Nat → Int → Int → List Int → (List Int → A) → A
 | 0, _, _, _, _ => z
 | k + 1, x0, x1, x2, K0 =>
  if x1 < x0 then
   gd z (x1 ≠ 0) <|
   if (x0.tmod x1) = 0 then
    impl_cyclotomic z k x1 fun v4 =>
    impl_quotient z k x2 v4 fun v5 =>
    impl_cyclotomic.g5 z k x0 (w64 (x1 + 1)) v5 K0
   else
    impl_cyclotomic.g5 z k x0 (w64 (x1 + 1)) x2 K0
  else
   K0 x2
def impl_cyclotomic {A : Type} (z : A) : Nat → Int → (List Int → A) → A
 | 0, _, _ => z
 | k + 1, a0, Φ =>
  mkI z 8 (w64 (a0 + 1)) fun m1 =>
  inI z 0 ((List.replicate m1 (0 : Int)).length) fun j2 =>
  inI z a0 (((List.replicate m1 (0 : Int)).set j2 (-1)).length) fun j3 =>
  impl_cyclotomic.g5 z k a0 1 (((List.replicate m1 (0 : Int)).set j2 (-1)).set j3 1) Φ
end
def impl_powers.g20 {A : Type} (z : A) : Nat → Int → Int → Int → List Int → List Int → (List Int → A) → A
 | 0, _, _, _, _, _, _ => z
 | k + 1, x1, x4, x5, x6, x7, K0 =>
  if x5 < x4 then
   inI z x5 (x7.length) fun j9 =>
   inI z x5 (x6.length) fun j10 =>
   inI z x5 (x7.length) fun j11 =>
   impl_powers.g20 z k x1 x4 (w64 (x5 + 1)) x6 (x7.set j11 (w64 ((x7.getD j9 0) - (w64 (x1 * (x6.getD j10 0)))))) K0
  else
   K0 x7
def impl_powers.g11 {A : Type} (z : A) : Nat → Int → Int → Int → List Int → List Int → List (List Int) → (List (List Int) → A) → A
 | 0, _, _, _, _, _, _, _ => z
 | k + 1, x0, x1, x2, x3, x4, x5, K0 =>
  if x2 < x1 then
   slices_Clone_Sint64_int64 z k x4 fun v4 =>
   apI z ((x5.length) + 1) 24 <|
   inI z (w64 (x0 - 1)) (x4.length) fun j5 =>
   toI z 1 (x4.length) fun j6 =>
   toI z (w64 (x0 - 1)) (x4.length) fun j7 =>
   inI z 0 ((x4.take j6 ++ ((x4.drop 0).take j7).take ((x4.length) - j6) ++ x4.drop (j6 + (min (((x4.drop 0).take j7).length) ((x4.length) - j6)))).length) fun j8 =>
   impl_powers.g20 z k (x4.getD j5 0) (((x4.take j6 ++ ((x4.drop 0).take j7).take ((x4.length) - j6) ++ x4.drop (j6 + (min (((x4.drop 0).take j7).length) ((x4.length) - j6)))).set j8 0).length : Int) 0 x3 ((x4.take j6 ++ ((x4.drop 0).take j7).take ((x4.length) - j6) ++ x4.drop (j6 + (min (((x4.drop 0).take j7).length) ((x4.length) - j6)))).set j8 0) (fun v12 =>
    impl_powers.g11 z k x0 x1 (w64 (x2 + 1)) x3 v12 (x5 ++ [v4]) K0)
  else
   K0 x5
def impl_powers {A : Type} (z : A) : Nat → Int → (List (List Int) → A) → A := step (fun _ _ => z) fun k a0 Φ =>
  impl_cyclotomic z k a0 fun v1 =>
  let y1 := w64 ((v1.length : Int) - 1)
  mkI z 8 y1 fun m2 =>
  inI z 0 ((List.replicate m2 (0 : Int)).length) fun j3 =>
  if a0 = 1 then
   Φ [((List.replicate m2 (0 : Int)).set j3 1)]
  else
   impl_powers.g11 z k y1 a0 0 v1 ((List.replicate m2 (0 : Int)).set j3 1) [] Φ
def impl_fieldOf {A : Type} (z : A) : Nat → Int → (Int → Int → List (List Int) → A) → A := step (fun _ _ => z) fun k a0 Φ =>
  impl_powers z k a0 fun v1 =>
  inI z 0 (v1.length) fun j2 =>
  Φ a0 ((v1.getD j2 []).length : Int) v1
def impl_counted_1 {A : Type} (z : A) : Nat → Int → (Int → A) → A := step (fun _ _ => z) fun k a0 Φ =>
  Φ a0
def impl_field_with_c76.g10 {A : Type} (z : A) : Nat → Int → List Int → Int → Int → List Int → (List Int → A) → A
 | 0, _, _, _, _, _, _ => z
 | k + 1, x3, x7, x8, x9, x10, K0 =>
  if x9 < x8 then
   inI z x9 (x7.length) fun j6 =>
   inI z x9 (x10.length) fun j7 =>
   inI z x9 (x10.length) fun j8 =>
   impl_field_with_c76.g10 z k x3 x7 x8 (w64 (x9 + 1)) (x10.set j8 (w64 ((x10.getD j7 0) + (w64 (x3 * (x7.getD j6 0)))))) K0
  else
   K0 x10
def impl_field_with_c76.g4 {A : Type} (z : A) : Nat → Int → List (List Int) → List Int → Int → Int → List Int → (List Int → A) → A
 | 0, _, _, _, _, _, _, _ => z
 | k + 1, x0, x2, x3, x4, x5, x6, K0 =>
  if x5 < x4 then
   inI z x5 (x3.length) fun j2 =>
   impl_counted_1 z k x5 fun v3 =>
   impl_around z k v3 x0 fun v4 =>
   inI z v4 (x2.length) fun j5 =>
   impl_field_with_c76.g10 z k (x3.getD j2 0) (x2.getD j5 []) ((x2.getD j5 []).length : Int) 0 x6 (fun v9 =>
    impl_field_with_c76.g4 z k x0 x2 x3 x4 (w64 (x5 + 1)) v9 K0)
  else
   K0 x6
def impl_field_with_c76 {A : Type} (z : A) : Nat → Int → Int → List (List Int) → List Int → (List Int → A) → A := step (fun _ _ _ _ _ => z) fun k a0 a1 a2 a3 Φ =>
  mkI z 8 a1 fun m1 =>
  impl_field_with_c76.g4 z k a0 a2 a3 (a3.length : Int) 0 (List.replicate m1 (0 : Int)) Φ
def impl_counted {A : Type} (z : A) : Nat → Int → List Int → (List Int → A) → A := step (fun _ _ _ => z) fun k a0 a1 Φ =>
  impl_fieldOf z k a0 fun v1 v2 v3 =>
  impl_field_with_c76 z k v1 v2 v3 a1 Φ
def impl_summed.g4 {A : Type} (z : A) : Nat → List Int → Int → Int → List Int → List Int → (List Int → A) → A
 | 0, _, _, _, _, _, _ => z
 | k + 1, x0, x1, x2, x7, x8, K0 =>
  if x2 < x1 then
   inI z x2 (x8.length) fun j3 =>
   if 0 ≤ (x8.getD j3 0) then
    inI z (x8.getD j3 0) (x7.length) fun j4 =>
    inI z x2 (x0.length) fun j5 =>
    inI z (x8.getD j3 0) (x7.length) fun j6 =>
    impl_summed.g4 z k x0 x1 (w64 (x2 + 1)) (x7.set j6 (w64 ((x7.getD j4 0) + (x0.getD j5 0)))) x8 K0
   else
    impl_summed.g4 z k x0 x1 (w64 (x2 + 1)) x7 x8 K0
  else
   K0 x7
def impl_summed {A : Type} (z : A) : Nat → List Int → Int → Int → Int → (Int → List Int → A) → A := step (fun _ _ _ _ _ => z) fun k a0 a1 a2 a3 Φ =>
  mkI z 8 a2 fun m1 =>
  impl_exponents z k a1 a2 a3 fun v2 =>
  impl_summed.g4 z k a0 (v2.length : Int) 0 (List.replicate m1 (0 : Int)) v2 (fun v7 =>
   impl_counted z k a2 v7 fun v8 =>
   Φ a2 v8)
def impl_OrthogonalSum {A : Type} (z : A) : Nat → Int → Int → Int → Int → Int → Int → (Int → List Int → Int → A) → A := step (fun _ _ _ _ _ _ _ => z) fun k a0 a1 a2 a3 a4 a5 Φ =>
  impl_pairCode z k a0 a1 a2 a3 a4 a5 fun v1 =>
  if v1 ≠ 0 then
   Φ 0 [] v1
  else
   impl_ones z k a0 fun v2 =>
   impl_withPower z k a0 a1 a2 (w64 (a2 - a5)) fun v3 v4 v5 =>
   impl_summed z k v2 v3 v4 v5 fun v6 v7 =>
   Φ v6 v7 0
def spec_l01In {A : Type} (z : A) : Nat → Int → Int → Int → (Bool → A) → A := step (fun _ _ _ _ => z) fun k a0 a1 a2 Φ =>
  if a1 ≤ a0 then
   Φ (decide (a0 ≤ a2))
  else
   Φ false
def spec_l03Prime.g6 {A : Type} (z : A) : Nat → Int → Int → (Bool → A) → A → A
 | 0, _, _, _, _ => z
 | k + 1, x0, x1, K0, K1 =>
  if (w64 (x1 * x1)) ≤ x0 then
   gd z (x1 ≠ 0) <|
   if (x0.tmod x1) = 0 then
    K0 false
   else
    spec_l03Prime.g6 z k x0 (w64 (x1 + 1)) K0 K1
  else
   K1
def spec_l03Prime {A : Type} (z : A) : Nat → Int → (Bool → A) → A := step (fun _ _ => z) fun k a0 Φ =>
  spec_l01In z k a0 3 61 fun v1 =>
  bif !v1 then
   Φ false
  else
   spec_l03Prime.g6 z k a0 2 Φ (Φ true)
def spec_l03Order {A : Type} (z : A) : Nat → Int → Int → (Bool → A) → A := step (fun _ _ _ => z) fun k a0 a1 Φ =>
  spec_l01In z k a1 1 16 fun v1 =>
  bif v1 then
   gd z (a1 ≠ 0) <|
   Φ (decide (((w64 (a0 - 1)).tmod a1) = 0))
  else
   Φ false
def spec_l03Is {A : Type} (z : A) : Nat → Int → Int → Int → (Bool → A) → A := step (fun _ _ _ _ => z) fun k a0 a1 a2 Φ =>
  spec_l03Prime z k a0 fun v1 =>
  bif v1 then
   spec_l03Order z k a0 a1 fun v2 =>
   bif v2 then
    spec_l01In z k a2 0 (w64 (a1 - 1)) Φ
   else
    Φ false
  else
   Φ false
def spec_l03Like {A : Type} (z : A) : Nat → Int → Int → Int → Int → Int → Int → (Int → A) → A := step (fun _ _ _ _ _ _ _ => z) fun k a0 a1 a2 a3 a4 a5 Φ =>
  spec_l03Is z k a0 a1 a2 fun v1 =>
  bif !v1 then
   Φ 1
  else
   spec_l03Is z k a3 a4 a5 fun v2 =>
   bif !v2 then
    Φ 1
   else if a0 ≠ a3 then
    Φ 2
   else if a1 ≠ a4 then
    Φ 2
   else
    Φ 0
def spec_l01Gcd.g2 {A : Type} (z : A) : Nat → Int → Int → (Int → A) → A
 | 0, _, _, _ => z
 | k + 1, x0, x1, K0 =>
  if x1 ≠ 0 then
   gd z (x1 ≠ 0) <|
   spec_l01Gcd.g2 z k x1 (x0.tmod x1) K0
  else
   K0 x0
def spec_l01Gcd {A : Type} (z : A) : Nat → Int → Int → (Int → A) → A := step (fun _ _ _ => z) fun k a0 a1 Φ =>
  spec_l01Gcd.g2 z k a0 a1 (fun v1 =>
   Φ (maxI v1 (w64 (0 - v1))))
def spec_l01Phi.g4 {A : Type} (z : A) : Nat → Int → Int → Int → (Int → A) → A
 | 0, _, _, _, _ => z
 | k + 1, x0, x1, x2, K0 =>
  if x2 ≤ x0 then
   spec_l01Gcd z k x2 x0 fun v1 =>
   if v1 = 1 then
    spec_l01Phi.g4 z k x0 (w64 (x1 + 1)) (w64 (x2 + 1)) K0
   else
    spec_l01Phi.g4 z k x0 x1 (w64 (x2 + 1)) K0
  else
   K0 x1
def spec_l01Phi {A : Type} (z : A) : Nat → Int → (Int → A) → A := step (fun _ _ => z) fun k a0 Φ =>
  spec_l01Phi.g4 z k a0 0 1 Φ
def spec_l01Zero {A : Type} (z : A) : Nat → Int → (Int → List Int → A) → A := step (fun _ _ => z) fun k a0 Φ =>
  spec_l01Phi z k a0 fun v1 =>
  mkI z 8 v1 fun m2 =>
  Φ a0 (List.replicate m2 (0 : Int))
def spec_l03Period.g3 {A : Type} (z : A) : Nat → Int → Int → Int → Int → (Int → A) → A
 | 0, _, _, _, _, _ => z
 | k + 1, x0, x1, x2, x3, K0 =>
  if x2 ≠ 1 then
   gd z (x0 ≠ 0) <|
   spec_l03Period.g3 z k x0 x1 ((w64 (x2 * x1)).tmod x0) (w64 (x3 + 1)) K0
  else
   K0 x3
def spec_l03Period {A : Type} (z : A) : Nat → Int → Int → (Int → A) → A := step (fun _ _ _ => z) fun k a0 a1 Φ =>
  spec_l03Period.g3 z k a0 a1 a1 1 Φ
def spec_l03Root.g3 {A : Type} (z : A) : Nat → Int → Int → (Int → A) → A
 | 0, _, _, _ => z
 | k + 1, x0, x1, K0 =>
  spec_l03Period z k x0 x1 fun v1 =>
  if v1 ≠ (w64 (x0 - 1)) then
   spec_l03Root.g3 z k x0 (w64 (x1 + 1)) K0
  else
   K0 x1
def spec_l03Root {A : Type} (z : A) : Nat → Int → (Int → A) → A := step (fun _ _ => z) fun k a0 Φ =>
  spec_l03Root.g3 z k a0 1 Φ
def spec_l03Index.g4 {A : Type} (z : A) : Nat → Int → Int → Int → Int → Int → (Int → A) → A
 | 0, _, _, _, _, _, _ => z
 | k + 1, x0, x1, x2, x3, x4, K0 =>
  if x3 ≠ x1 then
   gd z (x0 ≠ 0) <|
   spec_l03Index.g4 z k x0 x1 x2 ((w64 (x3 * x2)).tmod x0) (w64 (x4 + 1)) K0
  else
   K0 x4
def spec_l03Index {A : Type} (z : A) : Nat → Int → Int → (Int → A) → A := step (fun _ _ _ => z) fun k a0 a1 Φ =>
  spec_l03Root z k a0 fun v1 =>
  gd z (a0 ≠ 0) <|
  gd z (a0 ≠ 0) <|
  spec_l03Index.g4 z k a0 ((w64 ((a1.tmod a0) + a0)).tmod a0) v1 1 0 Φ
def spec_l03Exponent {A : Type} (z : A) : Nat → Int → Int → Int → Int → (Int → A) → A := step (fun _ _ _ _ _ => z) fun k a0 a1 a2 a3 Φ =>
  gd z (a0 ≠ 0) <|
  if (a3.tmod a0) = 0 then
   Φ (-1)
  else
   spec_l03Index z k a0 a3 fun v1 =>
   gd z (a1 ≠ 0) <|
   Φ ((w64 (v1 * a2)).tmod a1)
def spec_l01Own {A : Type} (z : A) : Nat → List Int → (List Int → A) → A := step (fun _ _ => z) fun k a0 Φ =>
  apI z (0 + (a0.length)) 8 <|
  Φ ([] ++ a0)
def spec_l01Quotient.g11 {A : Type} (z : A) : Nat → List Int → Int → Int → List Int → List Int → (List Int → A) → A
 | 0, _, _, _, _, _, _ => z
 | k + 1, x0, x1, x2, x3, x4, K0 =>
  if x2 < (x0.length : Int) then
   inI z (w64 (x1 + x2)) (x3.length) fun j5 =>
   inI z x1 (x4.length) fun j6 =>
   inI z x2 (x0.length) fun j7 =>
   inI z (w64 (x1 + x2)) (x3.length) fun j8 =>
   spec_l01Quotient.g11 z k x0 x1 (w64 (x2 + 1)) (x3.set j8 (w64 ((x3.getD j5 0) - (w64 ((x4.getD j6 0) * (x0.getD j7 0)))))) x4 K0
  else
   K0 x3
def spec_l01Quotient.g5 {A : Type} (z : A) : Nat → List Int → Int → List Int → List Int → (List Int → A) → A
 | 0, _, _, _, _, _ => z
 | k + 1, x0, x1, x2, x3, K0 =>
  if 0 ≤ x1 then
   inI z (w64 ((w64 (x1 + (x0.length : Int))) - 1)) (x2.length) fun j3 =>
   inI z x1 (x3.length) fun j4 =>
   spec_l01Quotient.g11 z k x0 x1 0 x2 (x3.set j4 (x2.getD j3 0)) (fun v9 =>
    spec_l01Quotient.g5 z k x0 (w64 (x1 - 1)) v9 (x3.set j4 (x2.getD j3 0)) K0)
  else
   K0 x3
def spec_l01Quotient {A : Type} (z : A) : Nat → List Int → List Int → (List Int → A) → A := step (fun _ _ _ => z) fun k a0 a1 Φ =>
  spec_l01Own z k a0 fun v1 =>
  let y1 := w64 ((a0.length : Int) - (a1.length : Int))
  mkI z 8 (w64 (y1 + 1)) fun m2 =>
  spec_l01Quotient.g5 z k a1 y1 v1 (List.replicate m2 (0 : Int)) Φ
mutual
def spec_l01Cyclotomic.g6 {A : Type} (z : A) : Nat → Int → Int → List Int → (List Int → A) → A
 | 0, _, _, _, _ => z
 | k + 1, x0, x1, x2, K0 =>
  if x1 < x0 then
   gd z (x1 ≠ 0) <|
   if (x0.tmod x1) = 0 then
    spec_l01Cyclotomic z k x1 fun v4 =>
    spec_l01Quotient z k x2 v4 fun v5 =>
    spec_l01Cyclotomic.g6 z k x0 (w64 (x1 + 1)) v5 K0
   else
    spec_l01Cyclotomic.g6 z k x0 (w64 (x1 + 1)) x2 K0
  else
   K0 x2
def spec_l01Cyclotomic {A : Type} (z : A) : Nat → Int → (List Int → A) → A
 | 0, _, _ => z
 | k + 1, a0, Φ =>
  mkI z 8 (w64 (a0 + 1)) fun m1 =>
  inI z 0 ((List.replicate m1 (0 : Int)).length) fun j2 =>
  inI z a0 (((List.replicate m1 (0 : Int)).set j2 (-1)).length) fun j3 =>
  spec_l01Cyclotomic.g6 z k a0 1 (((List.replicate m1 (0 : Int)).set j2 (-1)).set j3 1) Φ
end
def spec_l01Reduce.g11 {A : Type} (z : A) : Nat → Int → Int → Int → Int → List Int → List Int → (List Int → A) → A
 | 0, _, _, _, _, _, _, _ => z
 | k + 1, x1, x2, x3, x4, x6, x7, K0 =>
  if x4 ≤ x1 then
   inI z (w64 ((w64 (x2 - x1)) + x4)) (x7.length) fun j4 =>
   inI z x4 (x6.length) fun j5 =>
   inI z (w64 ((w64 (x2 - x1)) + x4)) (x7.length) fun j6 =>
   spec_l01Reduce.g11 z k x1 x2 x3 (w64 (x4 + 1)) x6 (x7.set j6 (w64 ((x7.getD j4 0) - (w64 (x3 * (x6.getD j5 0)))))) K0
  else
   K0 x7
def spec_l01Reduce.g5 {A : Type} (z : A) : Nat → Int → Int → List Int → List Int → (List Int → A) → A
 | 0, _, _, _, _, _ => z
 | k + 1, x1, x2, x4, x5, K0 =>
  if x1 ≤ x2 then
   inI z x2 (x5.length) fun j3 =>
   spec_l01Reduce.g11 z k x1 x2 (x5.getD j3 0) 0 x4 x5 (fun v7 =>
    spec_l01Reduce.g5 z k x1 (w64 (x2 - 1)) x4 v7 K0)
  else
   K0 x5
def spec_l01Reduce.g18 {A : Type} (z : A) : Nat → Int → Int → List Int → List Int → (List Int → A) → A
 | 0, _, _, _, _, _ => z
 | k + 1, x0, x1, x3, x6, K0 =>
  if x1 < x0 then
   if x1 < (x3.length : Int) then
    inI z x1 (x3.length) fun j11 =>
    inI z x1 (x6.length) fun j12 =>
    spec_l01Reduce.g18 z k x0 (w64 (x1 + 1)) x3 (x6.set j12 (x3.getD j11 0)) K0
   else
    K0 x6
  else
   K0 x6
def spec_l01Reduce {A : Type} (z : A) : Nat → Int → List Int → (Int → List Int → A) → A := step (fun _ _ _ => z) fun k a0 a1 Φ =>
  spec_l01Cyclotomic z k a0 fun v1 =>
  spec_l01Own z k a1 fun v2 =>
  let y1 := w64 ((v1.length : Int) - 1)
  spec_l01Reduce.g5 z k y1 (w64 ((v2.length : Int) - 1)) v1 v2 (fun v8 =>
   spec_l01Zero z k a0 fun v9 v10 =>
   spec_l01Reduce.g18 z k y1 0 v8 v10 (fun v13 =>
    Φ v9 v13))
def spec_l01Unit {A : Type} (z : A) : Nat → Int → Int → (Int → List Int → A) → A := step (fun _ _ _ => z) fun k a0 a1 Φ =>
  gd z (a0 ≠ 0) <|
  let y1 := w64 ((a1.tmod a0) + a0)
  gd z (a0 ≠ 0) <|
  let y2 := y1.tmod a0
  mkI z 8 (w64 (y2 + 1)) fun m1 =>
  inI z y2 ((List.replicate m1 (0 : Int)).length) fun j2 =>
  spec_l01Reduce z k a0 ((List.replicate m1 (0 : Int)).set j2 1) Φ
def spec_l03At {A : Type} (z : A) : Nat → Int → Int → Int → Int → (Int → List Int → A) → A := step (fun _ _ _ _ _ => z) fun k a0 a1 a2 a3 Φ =>
  spec_l03Exponent z k a0 a1 a2 a3 fun v1 =>
  if v1 < 0 then
   spec_l01Zero z k a1 Φ
  else
   spec_l01Unit z k a1 v1 Φ
def spec_l01Galois.g5 {A : Type} (z : A) : Nat → Int → Int → Int → List Int → List Int → (List Int → A) → A
 | 0, _, _, _, _, _, _ => z
 | k + 1, x0, x1, x2, x4, x6, K0 =>
  if x2 < (x4.length : Int) then
   gd z (x1 ≠ 0) <|
   let y1 := (w64 (x2 * x0)).tmod x1
   let y2 := w64 (y1 + x1)
   gd z (x1 ≠ 0) <|
   let y3 := y2.tmod x1
   inI z y3 (x6.length) fun j2 =>
   inI z x2 (x4.length) fun j3 =>
   inI z y3 (x6.length) fun j4 =>
   spec_l01Galois.g5 z k x0 x1 (w64 (x2 + 1)) x4 (x6.set j4 (w64 ((x6.getD j2 0) + (x4.getD j3 0)))) K0
  else
   K0 x6
def spec_l01Galois {A : Type} (z : A) : Nat → Int → List Int → Int → (Int → List Int → A) → A := step (fun _ _ _ _ => z) fun k a0 a1 a2 Φ =>
  mkI z 8 a0 fun m1 =>
  spec_l01Galois.g5 z k a2 a0 0 a1 (List.replicate m1 (0 : Int)) (fun v5 =>
   spec_l01Reduce z k a0 v5 Φ)
def spec_l01Bar {A : Type} (z : A) : Nat → Int → List Int → (Int → List Int → A) → A := step (fun _ _ _ => z) fun k a0 a1 Φ =>
  spec_l01Galois z k a0 a1 (-1) Φ
def spec_l01Product.g9 {A : Type} (z : A) : Nat → List Int → Int → Int → List Int → List Int → (List Int → A) → A
 | 0, _, _, _, _, _, _ => z
 | k + 1, x0, x1, x2, x4, x6, K0 =>
  if x2 < (x0.length : Int) then
   inI z (w64 (x1 + x2)) (x6.length) fun j2 =>
   inI z x1 (x4.length) fun j3 =>
   inI z x2 (x0.length) fun j4 =>
   inI z (w64 (x1 + x2)) (x6.length) fun j5 =>
   spec_l01Product.g9 z k x0 x1 (w64 (x2 + 1)) x4 (x6.set j5 (w64 ((x6.getD j2 0) + (w64 ((x4.getD j3 0) * (x0.getD j4 0)))))) K0
  else
   K0 x6
def spec_l01Product.g4 {A : Type} (z : A) : Nat → List Int → Int → List Int → List Int → (List Int → A) → A
 | 0, _, _, _, _, _ => z
 | k + 1, x0, x1, x3, x5, K0 =>
  if x1 < (x3.length : Int) then
   spec_l01Product.g9 z k x0 x1 0 x3 x5 (fun v6 =>
    spec_l01Product.g4 z k x0 (w64 (x1 + 1)) x3 v6 K0)
  else
   K0 x5
def spec_l01Product {A : Type} (z : A) : Nat → Int → List Int → List Int → (Int → List Int → A) → A := step (fun _ _ _ _ => z) fun k a0 a1 a2 Φ =>
  mkI z 8 (w64 ((w64 ((a1.length : Int) + (a2.length : Int))) - 1)) fun m1 =>
  spec_l01Product.g4 z k a2 0 a1 (List.replicate m1 (0 : Int)) (fun v7 =>
   spec_l01Reduce z k a0 v7 Φ)
def spec_l01Fits.g3 {A : Type} (z : A) : Nat → Int → List Int → (Bool → A) → A → A
 | 0, _, _, _, _ => z
 | k + 1, x0, x2, K0, K1 =>
  if x0 < (x2.length : Int) then
   inI z x0 (x2.length) fun j1 =>
   spec_l01In z k (x2.getD j1 0) (-1000000000) 1000000000 fun v2 =>
   bif !v2 then
    K0 false
   else
    spec_l01Fits.g3 z k (w64 (x0 + 1)) x2 K0 K1
  else
   K1
def spec_l01Fits {A : Type} (z : A) : Nat → Int → List Int → (Bool → A) → A := step (fun _ _ _ => z) fun k a0 a1 Φ =>
  spec_l01Fits.g3 z k 0 a1 Φ (Φ true)
def spec_l01Times.g4 {A : Type} (z : A) : Nat → Int → List Int → List Int → List Int → (List Int → List Int → A) → A
 | 0, _, _, _, _, _ => z
 | k + 1, x0, x4, x6, x7, K0 =>
  if x0 < (x4.length : Int) then
   inI z x0 (x4.length) fun j1 =>
   apI z ((x6.length) + 1) 8 <|
   inI z x0 (x4.length) fun j2 =>
   apI z ((x7.length) + 1) 8 <|
   spec_l01Times.g4 z k (w64 (x0 + 1)) x4 (x6 ++ [((x4.getD j1 0).tmod 100000)]) (x7 ++ [(w64 ((x4.getD j2 0).tdiv 100000))]) K0
  else
   K0 x6 x7
def spec_l01Times.g13 {A : Type} (z : A) : Nat → Int → List Int → List Int → List Int → (Bool → List Int → A) → (List Int → A) → A
 | 0, _, _, _, _, _, _ => z
 | k + 1, x0, x6, x7, x8, K0, K1 =>
  if x0 < (x8.length : Int) then
   inI z x0 (x7.length) fun j11 =>
   spec_l01In z k (x7.getD j11 0) (-10000000000000) 10000000000000 fun v12 =>
   bif !v12 then
    K0 false x8
   else
    inI z x0 (x7.length) fun j13 =>
    inI z x0 (x6.length) fun j14 =>
    inI z x0 (x8.length) fun j15 =>
    spec_l01Times.g13 z k (w64 (x0 + 1)) x6 x7 (x8.set j15 (w64 ((w64 ((x7.getD j13 0) * 100000)) + (x6.getD j14 0)))) K0 K1
  else
   K1 x8
def spec_l01Times {A : Type} (z : A) : Nat → Int → List Int → Int → List Int → (Int → List Int → Bool → A) → A := step (fun _ _ _ _ _ => z) fun k a0 a1 a2 a3 Φ =>
  spec_l01Times.g4 z k 0 a3 [] [] (fun v3 v4 =>
   spec_l01Product z k a0 a1 v3 fun v5 v6 =>
   spec_l01Product z k a0 a1 v4 fun v7 v8 =>
   spec_l01Zero z k a0 fun v9 v10 =>
   spec_l01Times.g13 z k 0 v6 v8 v10 (fun v16 v17 =>
    Φ v9 v17 v16) (fun v18 =>
    spec_l01Fits z k v9 v18 fun v19 =>
    Φ v9 v18 v19))
def spec_l01Plus.g4 {A : Type} (z : A) : Nat → Int → Int → List Int → List Int → (List Int → A) → A
 | 0, _, _, _, _, _ => z
 | k + 1, x0, x1, x3, x7, K0 =>
  if x1 < (x3.length : Int) then
   inI z x1 (x7.length) fun j2 =>
   inI z x1 (x3.length) fun j3 =>
   inI z x1 (x7.length) fun j4 =>
   spec_l01Plus.g4 z k x0 (w64 (x1 + 1)) x3 (x7.set j4 (w64 ((x7.getD j2 0) + (w64 (x0 * (x3.getD j3 0)))))) K0
  else
   K0 x7
def spec_l01Plus {A : Type} (z : A) : Nat → Int → List Int → Int → List Int → Int → (Int → List Int → A) → A := step (fun _ _ _ _ _ _ => z) fun k a0 a1 a2 a3 a4 Φ =>
  spec_l01Own z k a1 fun v1 =>
  spec_l01Plus.g4 z k a4 0 a3 v1 (fun v5 =>
   Φ a0 v5)
def spec_OrthogonalSum.g8 {A : Type} (z : A) : Nat → Int → Int → Int → Int → Int → Int → Int → Int → List Int → (Int → List Int → A) → A
 | 0, _, _, _, _, _, _, _, _, _, _ => z
 | k + 1, x0, x1, x2, x3, x4, x5, x6, x8, x10, K0 =>
  if x0 < x1 then
   spec_l03At z k x1 x2 x3 x0 fun v4 v5 =>
   spec_l03At z k x4 x5 x6 x0 fun v6 v7 =>
   spec_l01Bar z k v6 v7 fun v8 v9 =>
   spec_l01Times z k v4 v5 v8 v9 fun v10 v11 v12 =>
   spec_l01Plus z k x8 x10 v10 v11 1 fun v13 v14 =>
   spec_OrthogonalSum.g8 z k (w64 (x0 + 1)) x1 x2 x3 x4 x5 x6 v13 v14 K0
  else
   K0 x8 x10
def spec_OrthogonalSum {A : Type} (z : A) : Nat → Int → Int → Int → Int → Int → Int → (Int → List Int → Int → A) → A := step (fun _ _ _ _ _ _ _ => z) fun k a0 a1 a2 a3 a4 a5 Φ =>
  spec_l03Like z k a0 a1 a2 a3 a4 a5 fun v1 =>
  if v1 ≠ 0 then
   Φ 0 [] v1
  else
   spec_l01Zero z k a1 fun v2 v3 =>
   spec_OrthogonalSum.g8 z k 1 a0 a1 a2 a3 a4 a5 v2 v3 (fun v15 v16 =>
    Φ v15 v16 0)
def laws_likeInts.g6 {A : Type} (z : A) : Nat → List Int → List Int → Int → (Bool → A) → A → A
 | 0, _, _, _, _, _ => z
 | k + 1, x0, x1, x2, K0, K1 =>
  if x2 < (x0.length : Int) then
   inI z x2 (x0.length) fun j1 =>
   inI z x2 (x1.length) fun j2 =>
   if (x0.getD j1 0) ≠ (x1.getD j2 0) then
    K0 false
   else
    laws_likeInts.g6 z k x0 x1 (w64 (x2 + 1)) K0 K1
  else
   K1
def laws_likeInts {A : Type} (z : A) : Nat → List Int → List Int → (Bool → A) → A := step (fun _ _ _ => z) fun k a0 a1 Φ =>
  if (a0.length : Int) ≠ (a1.length : Int) then
   Φ false
  else
   laws_likeInts.g6 z k a0 a1 0 Φ (Φ true)
def laws_cyclos5 {A : Type} (z : A) : Nat → Int → List Int → Int → List Int → (Bool → A) → A := step (fun _ _ _ _ _ => z) fun k a0 a1 a2 a3 Φ =>
  if a0 = a2 then
   laws_likeInts z k a1 a3 Φ
  else
   Φ false
def laws_sum.g4 {A : Type} (z : A) : Nat → List Int → Int → Int → (Int → A) → A
 | 0, _, _, _, _ => z
 | k + 1, x0, x1, x2, K0 =>
  if x2 < (x0.length : Int) then
   inI z x2 (x0.length) fun j1 =>
   laws_sum.g4 z k x0 (w64 (x1 + (x0.getD j1 0))) (w64 (x2 + 1)) K0
  else
   K0 x1
def laws_sum {A : Type} (z : A) : Nat → List Int → (Int → A) → A := step (fun _ _ => z) fun k a0 Φ =>
  laws_sum.g4 z k a0 0 0 Φ
def spec_l01DrawPart {A : Type} (z : A) : Nat → List Int → Int → Int → Int → (List Int → Int → Int → Int → A) → A := step (fun _ _ _ _ _ => z) fun k a0 a1 a2 a3 Φ =>
  spec_l01Next z k a0 a1 a2 (w64 ((w64 (2 * a3)) + 1)) fun v1 v2 v3 v4 =>
  Φ v1 v2 v3 (w64 (v4 - a3))
def spec_DrawSumWith.g5 {A : Type} (z : A) : Nat → Int → Int → List Int → Int → Int → Int → List Int → (List Int → Int → Int → List Int → A) → A
 | 0, _, _, _, _, _, _, _, _ => z
 | k + 1, x0, x1, x5, x6, x7, x8, x11, K0 =>
  if x1 < x8 then
   spec_l01DrawPart z k x5 x6 x7 x0 fun v14 v15 v16 v17 =>
   apI z ((x11.length) + 1) 8 <|
   spec_DrawSumWith.g5 z k x0 (w64 (x1 + 1)) v14 v15 v16 x8 (x11 ++ [v17]) K0
  else
   K0 x5 x6 x7 x11
def spec_DrawSumWith {A : Type} (z : A) : Nat → List Int → (List Int → Int → Int → Int → A) → A := step (fun _ _ => z) fun k a0 Φ =>
  spec_l01From z k a0 fun v1 v2 v3 =>
  spec_l03Draw z k v1 v2 v3 fun v4 v5 v6 v7 v8 v9 =>
  spec_l01Pick z k v4 v5 v6 [1, 9, 1000000] fun v10 v11 v12 v13 =>
  spec_DrawSumWith.g5 z k v13 0 v10 v11 v12 v7 [] (fun v18 v19 v20 v21 =>
   spec_l01Next z k v18 v19 v20 24 fun v22 v23 v24 v25 =>
   if v25 = 0 then
    apI z ((v21.length) + 1) 8 <|
    spec_l03Bad z k v22 v23 v24 v7 v8 v9 fun v26 v27 v28 v29 v30 v31 =>
    Φ (v21 ++ [0]) v29 v30 v31
   else if v25 = 1 then
    spec_l01Pick z k v22 v23 v24 [1000001, (-1000001)] fun v32 v33 v34 v35 =>
    inI z 0 (v21.length) fun j36 =>
    spec_l03Bad z k v32 v33 v34 v7 v8 v9 fun v37 v38 v39 v40 v41 v42 =>
    Φ (v21.set j36 v35) v40 v41 v42
   else
    spec_l03Bad z k v22 v23 v24 v7 v8 v9 fun v43 v44 v45 v46 v47 v48 =>
    Φ v21 v46 v47 v48)
def impl_areSmall_1 {A : Type} (z : A) : Nat → Int → Int → (Bool → A) → A := step (fun _ _ _ => z) fun k a0 a1 Φ =>
  impl_within z k a0 (w64 (0 - a1)) a1 fun v1 =>
  Φ (!v1)
def slices_IndexFunc_Sint64_int64_c72.g3 {A : Type} (z : A) : Nat → List Int → Int → Int → Int → (Int → A) → A → A
 | 0, _, _, _, _, _, _ => z
 | k + 1, x0, x1, x2, x3, K0, K1 =>
  if x3 < x2 then
   inI z x3 (x0.length) fun j1 =>
   impl_areSmall_1 z k (x0.getD j1 0) x1 fun v2 =>
   bif v2 then
    K0 x3
   else
    slices_IndexFunc_Sint64_int64_c72.g3 z k x0 x1 x2 (w64 (x3 + 1)) K0 K1
  else
   K1
def slices_IndexFunc_Sint64_int64_c72 {A : Type} (z : A) : Nat → List Int → Int → (Int → A) → A := step (fun _ _ _ => z) fun k a0 a1 Φ =>
  slices_IndexFunc_Sint64_int64_c72.g3 z k a0 a1 (a0.length : Int) 0 Φ (Φ (-1))
def slices_ContainsFunc_Sint64_int64_c72 {A : Type} (z : A) : Nat → List Int → Int → (Bool → A) → A := step (fun _ _ _ => z) fun k a0 a1 Φ =>
  slices_IndexFunc_Sint64_int64_c72 z k a0 a1 fun v1 =>
  Φ (decide (0 ≤ v1))
def impl_areSmall {A : Type} (z : A) : Nat → List Int → Int → (Bool → A) → A := step (fun _ _ _ => z) fun k a0 a1 Φ =>
  slices_ContainsFunc_Sint64_int64_c72 z k a0 a1 fun v1 =>
  Φ (!v1)
def impl_SumWith {A : Type} (z : A) : Nat → List Int → Int → Int → Int → (Int → List Int → Int → A) → A := step (fun _ _ _ _ _ => z) fun k a0 a1 a2 a3 Φ =>
  impl_IsCharacter z k a1 a2 a3 fun v1 =>
  bif !v1 then
   Φ 0 [] 1
  else if (a0.length : Int) ≠ a1 then
   Φ 0 [] 2
  else
   impl_areSmall z k a0 1000000 fun v2 =>
   bif !v2 then
    Φ 0 [] 2
   else
    impl_summed z k a0 a1 a2 a3 fun v3 v4 =>
    Φ v3 v4 0
def spec_SumWith.g9 {A : Type} (z : A) : Nat → List Int → Int → (Int → Int → List Int → A) → A → A
 | 0, _, _, _, _ => z
 | k + 1, x0, x1, K0, K1 =>
  if x1 < (x0.length : Int) then
   inI z x1 (x0.length) fun j2 =>
   spec_l01In z k (x0.getD j2 0) (-1000000) 1000000 fun v3 =>
   bif !v3 then
    K0 2 0 []
   else
    spec_SumWith.g9 z k x0 (w64 (x1 + 1)) K0 K1
  else
   K1
def spec_SumWith.g18 {A : Type} (z : A) : Nat → List Int → Int → Int → Int → Int → Int → List Int → (Int → List Int → A) → A
 | 0, _, _, _, _, _, _, _, _ => z
 | k + 1, x0, x1, x2, x3, x4, x6, x8, K0 =>
  if x1 < (x0.length : Int) then
   spec_l03At z k x2 x3 x4 x1 fun v9 v10 =>
   inI z x1 (x0.length) fun j11 =>
   spec_l01Plus z k x6 x8 v9 v10 (x0.getD j11 0) fun v12 v13 =>
   spec_SumWith.g18 z k x0 (w64 (x1 + 1)) x2 x3 x4 v12 v13 K0
  else
   K0 x6 x8
def spec_SumWith {A : Type} (z : A) : Nat → List Int → Int → Int → Int → (Int → List Int → Int → A) → A := step (fun _ _ _ _ _ => z) fun k a0 a1 a2 a3 Φ =>
  spec_l03Is z k a1 a2 a3 fun v1 =>
  bif !v1 then
   Φ 0 [] 1
  else if (a0.length : Int) ≠ a1 then
   Φ 0 [] 2
  else
   spec_SumWith.g9 z k a0 0 (fun v4 v5 v6 =>
    Φ v5 v6 v4) (spec_l01Zero z k a2 fun v7 v8 =>
    spec_SumWith.g18 z k a0 1 a1 a2 a3 v7 v8 (fun v14 v15 =>
     Φ v14 v15 0))
def impl_SumOfCharacter {A : Type} (z : A) : Nat → Int → Int → Int → (Int → List Int → Int → A) → A := step (fun _ _ _ _ => z) fun k a0 a1 a2 Φ =>
  impl_IsCharacter z k a0 a1 a2 fun v1 =>
  bif !v1 then
   Φ 0 [] 1
  else
   impl_ones z k a0 fun v2 =>
   impl_summed z k v2 a0 a1 a2 fun v3 v4 =>
   Φ v3 v4 0
def spec_DrawLegendreSymbol {A : Type} (z : A) : Nat → List Int → (Int → Int → A) → A := step (fun _ _ => z) fun k a0 Φ =>
  spec_l01From z k a0 fun v1 v2 v3 =>
  spec_l03DrawPrime z k v1 v2 v3 fun v4 v5 v6 v7 =>
  spec_l03DrawPrime z k v4 v5 v6 fun v8 v9 v10 v11 =>
  spec_l03DrawPrime z k v8 v9 v10 fun v12 v13 v14 v15 =>
  spec_l01Pick z k v12 v13 v14 [v7, v11, v15, 9] fun v16 v17 v18 v19 =>
  spec_l01Next z k v16 v17 v18 61 fun v20 v21 v22 v23 =>
  spec_l01DrawPart z k v20 v21 v22 1000 fun v24 v25 v26 v27 =>
  spec_l01Pick z k v24 v25 v26 [v23, v27, v19, 1000001] fun v28 v29 v30 v31 =>
  Φ v19 v31
def impl_LegendreSymbol {A : Type} (z : A) : Nat → Int → Int → (Int → Int → A) → A := step (fun _ _ _ => z) fun k a0 a1 Φ =>
  impl_isPrime z k a0 fun v1 =>
  bif !v1 then
   Φ 0 2
  else
   impl_within z k a1 (-1000000) 1000000 fun v2 =>
   bif !v2 then
    Φ 0 2
   else
    impl_indices z k a0 fun v3 v4 =>
    impl_around z k a1 a0 fun v5 =>
    inI z v5 (v3.length) fun j6 =>
    if (v3.getD j6 0) < 0 then
     Φ 0 0
    else
     if ((v3.getD j6 0).tmod 2) = 0 then
      Φ 1 0
     else
      Φ (-1) 0
def spec_l03Legendre.g7 {A : Type} (z : A) : Nat → Int → Int → Int → (Int → A) → A → A
 | 0, _, _, _, _, _ => z
 | k + 1, x0, x1, x2, K0, K1 =>
  if x2 < x0 then
   gd z (x0 ≠ 0) <|
   if ((w64 (x2 * x2)).tmod x0) = x1 then
    K0 1
   else
    spec_l03Legendre.g7 z k x0 x1 (w64 (x2 + 1)) K0 K1
  else
   K1
def spec_l03Legendre {A : Type} (z : A) : Nat → Int → Int → (Int → A) → A := step (fun _ _ _ => z) fun k a0 a1 Φ =>
  gd z (a0 ≠ 0) <|
  let y1 := w64 ((a1.tmod a0) + a0)
  gd z (a0 ≠ 0) <|
  let y2 := y1.tmod a0
  if y2 = 0 then
   Φ 0
  else
   spec_l03Legendre.g7 z k a0 y2 1 Φ (Φ (-1))
def spec_LegendreSymbol {A : Type} (z : A) : Nat → Int → Int → (Int → Int → A) → A := step (fun _ _ _ => z) fun k a0 a1 Φ =>
  spec_l03Prime z k a0 fun v1 =>
  bif !v1 then
   Φ 0 2
  else
   spec_l01In z k a1 (-1000000) 1000000 fun v2 =>
   bif !v2 then
    Φ 0 2
   else
    spec_l03Legendre z k a0 a1 fun v3 =>
    Φ v3 0
def impl_CharacterAt {A : Type} (z : A) : Nat → Int → Int → Int → Int → (Int → List Int → Int → A) → A := step (fun _ _ _ _ _ => z) fun k a0 a1 a2 a3 Φ =>
  impl_IsCharacter z k a0 a1 a2 fun v1 =>
  bif !v1 then
   Φ 0 [] 1
  else
   impl_within z k a3 (-1000000) 1000000 fun v2 =>
   bif !v2 then
    Φ 0 [] 2
   else
    mkI z 8 a1 fun m3 =>
    impl_exponents z k a0 a1 a2 fun v4 =>
    impl_around z k a3 a0 fun v5 =>
    inI z v5 (v4.length) fun j6 =>
    if 0 ≤ (v4.getD j6 0) then
     inI z (v4.getD j6 0) ((List.replicate m3 (0 : Int)).length) fun j7 =>
     impl_counted z k a1 ((List.replicate m3 (0 : Int)).set j7 1) fun v8 =>
     Φ a1 v8 0
    else
     impl_counted z k a1 (List.replicate m3 (0 : Int)) fun v9 =>
     Φ a1 v9 0
def spec_l03Spoil {A : Type} (z : A) : Nat → List Int → Int → Int → (List Int → Int → Int → Int → Int → Int → A) → A := step (fun _ _ _ _ => z) fun k a0 a1 a2 Φ =>
  spec_l03Draw z k a0 a1 a2 fun v1 v2 v3 v4 v5 v6 =>
  spec_l03Bad z k v1 v2 v3 v4 v5 v6 Φ
def spec_DrawSumOfCharacter {A : Type} (z : A) : Nat → List Int → (Int → Int → Int → A) → A := step (fun _ _ => z) fun k a0 Φ =>
  spec_l01From z k a0 fun v1 v2 v3 =>
  spec_l03Spoil z k v1 v2 v3 fun v4 v5 v6 v7 v8 v9 =>
  Φ v7 v8 v9
def spec_l03Sum.g4 {A : Type} (z : A) : Nat → Int → Int → Int → Int → Int → List Int → (Int → List Int → A) → A
 | 0, _, _, _, _, _, _, _ => z
 | k + 1, x0, x1, x2, x3, x5, x7, K0 =>
  if x0 < x1 then
   spec_l03At z k x1 x2 x3 x0 fun v3 v4 =>
   spec_l01Plus z k x5 x7 v3 v4 1 fun v5 v6 =>
   spec_l03Sum.g4 z k (w64 (x0 + 1)) x1 x2 x3 v5 v6 K0
  else
   K0 x5 x7
def spec_l03Sum {A : Type} (z : A) : Nat → Int → Int → Int → (Int → List Int → A) → A := step (fun _ _ _ _ => z) fun k a0 a1 a2 Φ =>
  spec_l01Zero z k a1 fun v1 v2 =>
  spec_l03Sum.g4 z k 1 a0 a1 a2 v1 v2 Φ
def spec_SumOfCharacter {A : Type} (z : A) : Nat → Int → Int → Int → (Int → List Int → Int → A) → A := step (fun _ _ _ _ => z) fun k a0 a1 a2 Φ =>
  spec_l03Is z k a0 a1 a2 fun v1 =>
  bif !v1 then
   Φ 0 [] 1
  else
   spec_l03Sum z k a0 a1 a2 fun v2 v3 =>
   Φ v2 v3 0
def spec_DrawInverseCharacter {A : Type} (z : A) : Nat → List Int → (Int → Int → Int → A) → A := step (fun _ _ => z) fun k a0 Φ =>
  spec_l01From z k a0 fun v1 v2 v3 =>
  spec_l03Spoil z k v1 v2 v3 fun v4 v5 v6 v7 v8 v9 =>
  Φ v7 v8 v9
def impl_InverseCharacter {A : Type} (z : A) : Nat → Int → Int → Int → (Int → Int → Int → Int → A) → A := step (fun _ _ _ _ => z) fun k a0 a1 a2 Φ =>
  impl_IsCharacter z k a0 a1 a2 fun v1 =>
  bif !v1 then
   Φ 0 0 0 1
  else
   impl_withPower z k a0 a1 a2 (w64 (0 - a2)) fun v2 v3 v4 =>
   Φ v2 v3 v4 0
def spec_l03Back {A : Type} (z : A) : Nat → Int → Int → Int → (Int → Int → Int → A) → A := step (fun _ _ _ _ => z) fun k a0 a1 a2 Φ =>
  gd z (a1 ≠ 0) <|
  Φ a0 a1 ((w64 (a1 - a2)).tmod a1)
def spec_InverseCharacter {A : Type} (z : A) : Nat → Int → Int → Int → (Int → Int → Int → Int → A) → A := step (fun _ _ _ _ => z) fun k a0 a1 a2 Φ =>
  spec_l03Is z k a0 a1 a2 fun v1 =>
  bif !v1 then
   Φ 0 0 0 1
  else
   spec_l03Back z k a0 a1 a2 fun v2 v3 v4 =>
   Φ v2 v3 v4 0
def spec_DrawIsEvenCharacter {A : Type} (z : A) : Nat → List Int → (Int → Int → Int → A) → A := step (fun _ _ => z) fun k a0 Φ =>
  spec_l01From z k a0 fun v1 v2 v3 =>
  spec_l03Spoil z k v1 v2 v3 fun v4 v5 v6 v7 v8 v9 =>
  Φ v7 v8 v9
def impl_IsEvenCharacter {A : Type} (z : A) : Nat → Int → Int → Int → (Bool → Int → A) → A := step (fun _ _ _ _ => z) fun k a0 a1 a2 Φ =>
  impl_IsCharacter z k a0 a1 a2 fun v1 =>
  bif !v1 then
   Φ false 1
  else
   impl_exponents z k a0 a1 a2 fun v2 =>
   inI z (w64 (a0 - 1)) (v2.length) fun j3 =>
   Φ (decide ((v2.getD j3 0) = 0)) 0
def spec_IsEvenCharacter {A : Type} (z : A) : Nat → Int → Int → Int → (Bool → Int → A) → A := step (fun _ _ _ _ => z) fun k a0 a1 a2 Φ =>
  spec_l03Is z k a0 a1 a2 fun v1 =>
  bif !v1 then
   Φ false 1
  else
   spec_l03Exponent z k a0 a1 a2 (-1) fun v2 =>
   Φ (decide (v2 = 0)) 0
def laws_FnCharacterSums.g42 {A : Type} (z : A) : Nat → List Int → (Bool → A) → A
 | 0, _, _ => z
 | k + 1, x0, K0 =>
  spec_DrawSumOfCharacter z k x0 fun v49 v50 v51 =>
  impl_SumOfCharacter z k v49 v50 v51 fun v52 v53 v54 =>
  spec_SumOfCharacter z k v49 v50 v51 fun v55 v56 v57 =>
  spec_DrawInverseCharacter z k x0 fun v58 v59 v60 =>
  impl_InverseCharacter z k v58 v59 v60 fun v61 v62 v63 v64 =>
  spec_InverseCharacter z k v58 v59 v60 fun v65 v66 v67 v68 =>
  spec_DrawIsEvenCharacter z k x0 fun v69 v70 v71 =>
  impl_IsEvenCharacter z k v69 v70 v71 fun v72 v73 =>
  spec_IsEvenCharacter z k v69 v70 v71 fun v74 v75 =>
  if v54 = v57 then
   laws_cyclos5 z k v52 v53 v55 v56 fun v76 =>
   bif v76 then
    if v64 = v68 then
     if ([v61, v62, v63] : List Int) = [v65, v66, v67] then
      if v73 = v75 then
       K0 (decide (v72 = v74))
      else
       K0 false
     else
      K0 false
    else
     K0 false
   else
    K0 false
  else
   K0 false
def laws_FnCharacterSums.g23 {A : Type} (z : A) : Nat → List Int → (Bool → A) → A
 | 0, _, _ => z
 | k + 1, x0, K0 =>
  spec_DrawLegendreSymbol z k x0 fun v39 v40 =>
  impl_LegendreSymbol z k v39 v40 fun v41 v42 =>
  spec_LegendreSymbol z k v39 v40 fun v43 v44 =>
  if v42 ≠ v44 then
   K0 false
  else if v41 ≠ v43 then
   K0 false
  else if v42 = 0 then
   impl_CharacterAt z k v39 2 1 v40 fun v45 v46 v47 =>
   if v47 ≠ 0 then
    K0 false
   else
    inI z 0 (v46.length) fun j48 =>
    if (v46.getD j48 0) ≠ v41 then
     K0 false
    else
     laws_FnCharacterSums.g42 z k x0 K0
  else
   laws_FnCharacterSums.g42 z k x0 K0
def laws_FnCharacterSums.g28 {A : Type} (z : A) : Nat → Int → List Int → (List Int → A) → A
 | 0, _, _, _ => z
 | k + 1, x1, x5, K0 =>
  if x1 < (x5.length : Int) then
   inI z x1 (x5.length) fun j30 =>
   laws_FnCharacterSums.g28 z k (w64 (x1 + 1)) (x5.set j30 1) K0
  else
   K0 x5
def laws_FnCharacterSums.g10 {A : Type} (z : A) : Nat → List Int → (Bool → A) → A
 | 0, _, _ => z
 | k + 1, x0, K0 =>
  spec_DrawSumWith z k x0 fun v18 v19 v20 v21 =>
  impl_SumWith z k v18 v19 v20 v21 fun v22 v23 v24 =>
  spec_SumWith z k v18 v19 v20 v21 fun v25 v26 v27 =>
  if v24 ≠ v27 then
   K0 false
  else
   laws_cyclos5 z k v22 v23 v25 v26 fun v28 =>
   bif !v28 then
    K0 false
   else if v24 = 0 then
    mkI z 8 (v18.length : Int) fun m29 =>
    laws_FnCharacterSums.g28 z k 0 (List.replicate m29 (0 : Int)) (fun v31 =>
     impl_SumWith z k v31 v19 v20 v21 fun v32 v33 v34 =>
     impl_SumOfCharacter z k v19 v20 v21 fun v35 v36 v37 =>
     if v34 ≠ 0 then
      K0 false
     else if v37 ≠ 0 then
      K0 false
     else
      laws_cyclos5 z k v32 v33 v35 v36 fun v38 =>
      bif !v38 then
       K0 false
      else
       laws_FnCharacterSums.g23 z k x0 K0)
   else
    laws_FnCharacterSums.g23 z k x0 K0
def laws_FnCharacterSums.g13 {A : Type} (z : A) : Nat → Int → List Int → (Bool → A) → A → A
 | 0, _, _, _, _ => z
 | k + 1, x1, x3, K0, K1 =>
  inI z 0 (x3.length) fun j15 =>
  if (x3.getD j15 0) ≠ x1 then
   K0 false
  else
   laws_sum z k x3 fun v16 =>
   if v16 ≠ x1 then
    K0 false
   else
    K1
def laws_FnCharacterSums {A : Type} (z : A) : Nat → List Int → (Bool → A) → A := step (fun _ _ => z) fun k a0 Φ =>
  laws_big z k a0 fun v1 =>
  bif v1 then
   Φ true
  else
   spec_DrawOrthogonalSum z k a0 fun v2 v3 v4 v5 v6 v7 =>
   impl_OrthogonalSum z k v2 v3 v4 v5 v6 v7 fun v8 v9 v10 =>
   spec_OrthogonalSum z k v2 v3 v4 v5 v6 v7 fun v11 v12 v13 =>
   if v10 ≠ v13 then
    Φ false
   else
    laws_cyclos5 z k v8 v9 v11 v12 fun v14 =>
    bif !v14 then
     Φ false
    else if v10 = 0 then
     if v4 = v7 then
      laws_FnCharacterSums.g13 z k (w64 (v2 - 1)) v9 Φ (laws_FnCharacterSums.g10 z k a0 Φ)
     else
      laws_FnCharacterSums.g13 z k 0 v9 Φ (laws_FnCharacterSums.g10 z k a0 Φ)
    else
     laws_FnCharacterSums.g10 z k a0 Φ
end Go.Proofs.Ytbgbokflmekhmaa.R
