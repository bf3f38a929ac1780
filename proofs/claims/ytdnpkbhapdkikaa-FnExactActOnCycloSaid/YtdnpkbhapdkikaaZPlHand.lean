/- Words for contracts by hand: a row copied into itself. -/
import Derived.Test.YtdnpkbhapdkikaaZPlSq
import Derived.Laws.CopyRow
import Derived.Laws.IdiomCopy
set_option linter.unusedVariables false
namespace Go.Proofs.YtdnpkbhapdkikaaW.PrintLast
open Go.RowKit Go.Proofs.YtdnpkbhapdkikaaW.PrintWords
/-- A row moved up by one place within itself: what 'copy(xs[1:], xs[:n-1])' leaves. -/
def shiftl (xs : List Int) : List Int := xs.take 1 ++ xs.take (xs.length - 1)
theorem shiftl_length (xs : List Int) : (shiftl xs).length = xs.length := by
  unfold shiftl; simp only [List.length_append, List.length_take]; omega
section
variable {P : Program}
theorem cut_from (t e : TypeId) {i : TypeInfo} (ht : P.underlying t = some (.slice e)) (hi : P.info? e = some i) (hsz : i.size = 1) (A : Option Addr) (c n m : Nat) (hm : m ≤ n) (W : World) (hc : n ≤ c) :
    (Instr.slice t (.slice A n c) (some (.int .i64 (m : Int))) none none).run P W = .ok (.slice (if c = m then A else A.map (·.add m)) (n - m) (c - m)) W := by
  have hel : P.elem t = e := by simp [Program.elem, ht]
  have hu : P.underlying t = some (.slice (P.elem t)) := by rw [hel]; exact ht
  have := run_slice_l W t A n c hu .i64 (m : Int) (by omega) (by omega)
  rw [this, hel]
  simp [sizeOf, typeInfo, hi, hsz, sliced, Result.andThen]
theorem cut_upto (t e : TypeId) {i : TypeInfo} (ht : P.underlying t = some (.slice e)) (hi : P.info? e = some i) (hsz : i.size = 1) (A : Option Addr) (c n : Nat) (j : Int) (h0 : 0 ≤ j) (hm : j ≤ c) (W : World) :
    (Instr.slice t (.slice A n c) none (some (.int .i64 j)) none).run P W = .ok (.slice A j.toNat c) W := by
  have hel : P.elem t = e := by simp [Program.elem, ht]
  have hu : P.underlying t = some (.slice (P.elem t)) := by rw [hel]; exact ht
  have ha : (A.map fun x => x.add 0) = A := by cases A <;> simp [Addr.add]
  rw [run_slice_h W t A n c hu .i64 j h0 (by omega), hel]
  simp [sizeOf, typeInfo, hi, hsz, sliced, Result.andThen, ha]
end
/-- The row xs with ys laid over it from place off on, as far as it goes. -/
def layAt (xs : List Int) (off : Nat) (ys : List Int) : List Int := xs.take off ++ ys.take (xs.length - off) ++ xs.drop (off + min ys.length (xs.length - off))
theorem layAt_length (xs : List Int) (off : Nat) (ys : List Int) (h : off ≤ xs.length) : (layAt xs off ys).length = xs.length := by
  unfold layAt; simp only [List.length_append, List.length_take, List.length_drop]; omega
theorem run_copy_into {P : Program} {W : World} {e base g n cap : Nat} {ok : Nat → Prop} {xs ys : List Int} {k : IntKind} (h : (Kd.int k).R e W base ok (.slice (some ⟨g, 0, none⟩) n cap) xs)
    (off : Nat) (hoff : off ≤ n) (dp sp : Option Addr) (c1 sc m ty : Nat) (hs : (Kd.int k).C W sp m ys) (hdp : 0 < n - off → dp = some ⟨g, off, none⟩)
    (dT sT : TypeId) (hu : P.underlying dT = some (.slice e)) (hsz : (P.info? e).map (·.size) = some 1) :
    ∃ w', (Builtin.copy_ #[dT, sT] ty #[.slice dp (n - off) c1, .slice sp m sc]).run P W = .ok (goInt ((min m (n - off) : Nat) : Int)) w' ∧ (Kd.int k).R e w' base ok (.slice (some ⟨g, 0, none⟩) n cap) (layAt xs off ys) ∧
      W.grownBy w' (some g) ∧ ∀ B w0, Below B w0 W → B ≤ g → Below B w0 w' := by
  obtain ⟨hlen, hown⟩ := Kd.own_of_R h
  rcases hown with ⟨hv, hn⟩ | ⟨g', cap', cur, hv, hb, hh, hnc, hcm, hcs, htk⟩
  · exfalso; injection hv with h1 h2; cases h1
  have hx := (Kd.R_reads' h).1
  subst hx
  injection hv with h1 h2 h3
  injection h1 with h1
  injection h1 with h1
  subst h1; subst h3
  have hm : m = ys.length := (Kd.reads_of_C (d := (0 : Int)) (enc := Value.int k) (h1 := fun _ => rfl) hs).1.symm
  subst hm
  by_cases h0 : min ys.length (xs.length - off) = 0
  · refine ⟨W, ?_, ?_, ⟨rfl, rfl, rfl, Nat.le_refl _, fun _ _ _ => rfl⟩, fun _ _ hB _ => hB⟩
    · rw [h0]; exact run_copy_none (P := P) W dT sT ty e dp sp (xs.length - off) c1 ys.length sc hu hsz h0
    · have hl : layAt xs off ys = xs := by
        unfold layAt
        rw [h0]
        have : ys.take (xs.length - off) = [] := by apply List.eq_nil_of_length_eq_zero; rw [List.length_take]; omega
        rw [this, List.append_nil, Nat.add_zero, List.take_append_drop]
      rw [hl]; exact h
  · have hdp' := hdp (by omega)
    subst hdp'
    obtain ⟨ad, rfl, _⟩ := Kd.at_int hs 0 (by omega) (by omega)
    have hL : ((ys.take (xs.length - off)).map (Value.int k)).length = min ys.length (xs.length - off) := by rw [List.length_map, List.length_take]; omega
    have hsrc : ∀ (j : Nat) v, ((ys.take (xs.length - off)).map (Value.int k))[j]? = some v → W.cell? (ad.add j) = some v := by
      intro j v hj
      rw [List.getElem?_map] at hj
      obtain ⟨x, hx, rfl⟩ := Option.map_eq_some_iff.1 hj
      rw [List.getElem?_take] at hx
      split at hx
      · have hjl : j < ys.length := by
          rcases Nat.lt_or_ge j ys.length with h | h
          · exact h
          · rw [List.getElem?_eq_none h] at hx; cases hx
        obtain ⟨ad', e', hc⟩ := Kd.at_int hs (j : Int) (by omega) (by omega)
        cases e'
        rw [Int.toNat_natCast] at hc
        rw [hc, rd, Int.toNat_natCast, List.getD_eq_getElem?_getD, hx]; rfl
      · simp at hx
    have hrun := run_copy_row (P := P) W dT sT ty e g off (xs.length - off) c1 ad ys.length sc cur e ((ys.take (xs.length - off)).map (Value.int k)) hu hsz hh (by rw [hL]) hsrc (by rw [hL]; omega) (by intro v hv; obtain ⟨x, _, rfl⟩ := List.mem_map.1 hv; rfl)
    have hrow := setRow_heap W g cur (cur.toList.take off ++ ((ys.take (xs.length - off)).map (Value.int k) ++ cur.toList.drop (off + ((ys.take (xs.length - off)).map (Value.int k)).length))).toArray e (0, 0) hh
    rw [List.append_assoc] at hrun
    refine ⟨W.setRow g (cur.toList.take off ++ ((ys.take (xs.length - off)).map (Value.int k) ++ cur.toList.drop (off + ((ys.take (xs.length - off)).map (Value.int k)).length))).toArray, ?_, ?_, ⟨rfl, rfl, rfl, by simp [World.setRow], fun k hk hne => setRow_other W g k _ (by intro e; exact hne (by rw [e]))⟩, fun B w0 hB hg => hB.trans ⟨rfl, rfl, rfl, by simp [World.setRow], fun k hk => setRow_other W g k _ (by omega)⟩⟩
    · rw [← hL]; exact hrun
    · refine Kd.R_of_own ⟨?_, .inr ⟨g, cap, _, ?_, hb, hrow, ?_, hcm, ?_, ?_⟩⟩ h.1
      · simp [encs]
      · rw [layAt_length _ _ _ hoff]
      · rw [layAt_length _ _ _ hoff]; exact hnc
      · simp; omega
      · rw [layAt_length _ _ _ hoff, Nat.mul_one]
        rw [Nat.mul_one] at htk
        have hcl : cur.toList.length = cap := by simpa using hcs
        have e1 : cur.toList = encs (Value.int k) xs ++ cur.toList.drop xs.length := by rw [← htk, List.take_append_drop]
        have hel : (encs (Value.int k) xs).length = xs.length := by simp [encs]
        have e2 : cur.toList.take off = encs (Value.int k) (xs.take off) := by
          have h9 : cur.toList.take off = (cur.toList.take xs.length).take off := by rw [List.take_take, Nat.min_eq_left hoff]
          rw [h9, htk]; simp [encs]
        have e3 : cur.toList.drop (off + min ys.length (xs.length - off)) = encs (Value.int k) (xs.drop (off + min ys.length (xs.length - off))) ++ cur.toList.drop xs.length := by
          conv => lhs; rw [e1]
          rw [List.drop_append_of_le_length (by rw [hel]; omega)]; simp [encs]
        rw [hL, e2, e3]
        have e4 : encs (Value.int k) (xs.take off) ++ (List.map (Value.int k) (ys.take (xs.length - off)) ++ (encs (Value.int k) (xs.drop (off + min ys.length (xs.length - off))) ++ cur.toList.drop xs.length)) = encs (Value.int k) (layAt xs off ys) ++ cur.toList.drop xs.length := by
          simp [encs, layAt]
        rw [e4]
        have hll : (encs (Value.int k) (layAt xs off ys)).length = xs.length := by simp [encs, layAt_length _ _ _ hoff]
        rw [List.take_append_of_le_length (by omega)]
        exact List.take_of_length_le (by omega)
section
variable {P : Program} {ops : Array Oper} {rest : List Oper} {o : Oper} {a : Act} {Q : Exit → Act → World → Prop}
theorem copyL_ {W : World} {e base g n cap : Nat} {ok : Nat → Prop} {xs ys : List Int} {k : IntKind} (h : (Kd.int k).R e W base ok (.slice (some ⟨g, 0, none⟩) n cap) xs) (d s : Operand) (dT sT : TypeId) (hu : P.underlying dT = some (.slice e)) (hsz : (P.info? e).map (·.size) = some 1)
    (off : Nat) (hoff : off ≤ n) (dp sp : Option Addr) (c1 sc m : Nat) (hs : (Kd.int k).C W sp m ys) (hdp : 0 < n - off → dp = some ⟨g, off, none⟩) (hd : a.eval d = .slice dp (n - off) c1) (hsv : a.eval s = .slice sp m sc)
    (hK : ∀ w', (Kd.int k).R e w' base ok (.slice (some ⟨g, 0, none⟩) n cap) (layAt xs off ys) → W.grownBy w' (some g) → (∀ B w0, Below B w0 W → B ≤ g → Below B w0 w') → wpList P ops Q rest (a.put o.dst (goInt ((min m (n - off) : Nat) : Int))) w')
    (hgd : o.guard = none := by rfl) (ho : o.op = .call { callee := .builtin .copy, args := #[d, s], argTypes := #[dT, sT] } := by rfl) : wpList P ops Q (o :: rest) a W := by
  refine wpList_plain hgd fun K hKK => ?_
  obtain ⟨w', hrun, h1, h2, h3⟩ := run_copy_into (P := P) h off hoff dp sp c1 sc m o.type hs hdp dT sT hu hsz
  unfold Oper.wp
  simp [execOp, ho, resolve, invoke, builtin, hd, hsv, hrun, Result.andThen]
  exact hKK _ _ (hK w' h1 h2 h3)
end
section
variable {P : Program} {ops : Array Oper} {o : Oper} {a : Act} {Q : Exit → Act → World → Prop} {Kc : Act → World → Prop} {E : Prop}
theorem copyS_ {W : World} {e base g n cap : Nat} {ok : Nat → Prop} {xs ys : List Int} {k : IntKind} (h : (Kd.int k).R e W base ok (.slice (some ⟨g, 0, none⟩) n cap) xs) (d s : Operand) (dT sT : TypeId) (hu : P.underlying dT = some (.slice e)) (hsz : (P.info? e).map (·.size) = some 1)
    (off : Nat) (hoff : off ≤ n) (dp sp : Option Addr) (c1 sc m : Nat) (hs : (Kd.int k).C W sp m ys) (hdp : 0 < n - off → dp = some ⟨g, off, none⟩) (hd : a.eval d = .slice dp (n - off) c1) (hsv : a.eval s = .slice sp m sc)
    (hK : ∀ w', (Kd.int k).R e w' base ok (.slice (some ⟨g, 0, none⟩) n cap) (layAt xs off ys) → W.grownBy w' (some g) → (∀ B w0, Below B w0 W → B ≤ g → Below B w0 w') → Kc (a.put o.dst (goInt ((min m (n - off) : Nat) : Int))) w')
    (ho : o.op = .call { callee := .builtin .copy, args := #[d, s], argTypes := #[dT, sT] } := by rfl) (hw : Region.wanted o (yielded ops a.tmps) = true := by rfl) :
    if Region.wanted o (yielded ops a.tmps) = true then Oper.wp P o a W Kc Q else E := by
  rw [if_pos hw]
  obtain ⟨w', hrun, h1, h2, h3⟩ := run_copy_into (P := P) h off hoff dp sp c1 sc m o.type hs hdp dT sT hu hsz
  unfold Oper.wp
  simp [execOp, ho, resolve, invoke, builtin, hd, hsv, hrun, Result.andThen]
  exact hK w' h1 h2 h3
end
section
variable {P : Program} {ops : Array Oper} {o : Oper} {a : Act} {Q : Exit → Act → World → Prop} {Kc : Act → World → Prop} {E : Prop}
theorem step_copy_shift {W : World} {e base g n cap : Nat} {ok : Nat → Prop} {xs : List Int} {k : IntKind} (h : (Kd.int k).R e W base ok (.slice (some ⟨g, 0, none⟩) n cap) xs) (hp : 0 < n)
    (d s : Operand) (dT sT : TypeId) (c1 : Nat) (hu : P.underlying dT = some (.slice e)) (hsz : (P.info? e).map (·.size) = some 1)
    (hd : a.eval d = .slice (if cap = 1 then some ⟨g, 0, none⟩ else some ⟨g, 1, none⟩) (n - 1) c1) (hs : a.eval s = .slice (some ⟨g, 0, none⟩) (n - 1) cap)
    (hK : ∀ w', (Kd.int k).R e w' base ok (.slice (some ⟨g, 0, none⟩) n cap) (shiftl xs) → W.grownBy w' (some g) → (∀ B w0, Below B w0 W → B ≤ g → Below B w0 w') → Kc (a.put o.dst (goInt ((n - 1 : Nat) : Int))) w')
    (ho : o.op = .call { callee := .builtin .copy, args := #[d, s], argTypes := #[dT, sT] } := by rfl) (hw : Region.wanted o (yielded ops a.tmps) = true := by rfl) :
    if Region.wanted o (yielded ops a.tmps) = true then Oper.wp P o a W Kc Q else E := by
  have hx := (Kd.R_reads' h).1
  subst hx
  have hc := (Kd.R_reads' h).2.1
  have hC : (Kd.int k).C W (some ⟨g, 0, none⟩) (xs.length - 1) (xs.take (xs.length - 1)) := Kd.C_of_reads (d := (0 : Int)) (h1 := fun _ => rfl) ((Kd.reads_of_C (d := (0 : Int)) (h1 := fun _ => rfl) (Kd.R_reads' h).2.2).take_ (xs.length - 1) (by omega))
  have he : layAt xs 1 (xs.take (xs.length - 1)) = shiftl xs := by
    unfold layAt shiftl
    have h1 : (xs.take (xs.length - 1)).length = xs.length - 1 := by rw [List.length_take]; omega
    have h2 : xs.drop (1 + min (xs.take (xs.length - 1)).length (xs.length - 1)) = [] := List.drop_eq_nil_of_le (by omega)
    rw [h2, List.append_nil, List.take_take, Nat.min_self]
  refine copyS_ h d s dT sT hu hsz 1 (by omega) _ _ c1 cap _ hC (fun hq => if_neg (by omega)) hd hs (fun w' h1 h2 h3 => ?_) ho hw
  rw [he] at h1
  rw [Nat.min_self]
  exact hK w' h1 h2 h3
end
end Go.Proofs.YtdnpkbhapdkikaaW.PrintLast
