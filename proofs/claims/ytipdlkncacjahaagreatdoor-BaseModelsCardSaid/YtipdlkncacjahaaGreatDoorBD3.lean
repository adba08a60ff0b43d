/- The deeds on a list: remove, lay, leave, peek, front, join. No condition but the model's. -/
import Derived.Test.YtipdlkncacjahaaGreatDoorBInts
import Derived.Deep.LoopGhost
import Derived.BigQuiet
import Derived.Deep.QuietTactic
set_option linter.unusedSimpArgs false
set_option linter.unusedVariables false
namespace Go.Proofs.Bm
open Go.RowKit Go.Maps
variable {n q : Nat} {L : List (ByteArray × Value)} {Q : List Value} {s : St} {lk : Option Nat} {W : World}

theorem idxFrom_spec (x : Int) : ∀ (xs : List Int) (i : Nat), (Lib.idxFrom xs x i = -1 ∧ x ∉ xs) ∨ ∃ j : Nat, Lib.idxFrom xs x i = ((i + j : Nat) : Int) ∧ xs[j]? = some x ∧ xs.take j ++ xs.drop (j + 1) = xs.erase x
  | [], i => .inl ⟨rfl, by simp⟩
  | y :: r, i => by
    unfold Lib.idxFrom
    by_cases e : y = x
    · subst e
      exact .inr ⟨0, by simp, by simp, by simp⟩
    · have hb : (y == x) = false := by simpa using e
      rcases idxFrom_spec x r (i + 1) with ⟨h1, h2⟩ | ⟨j, h1, h2, h3⟩
      · refine .inl ⟨?_, ?_⟩
        · simp [e]; exact h1
        · simp [h2]; exact fun e' => e e'.symm
      · refine .inr ⟨j + 1, ?_, by simpa using h2, ?_⟩
        · simp [e]
          rw [h1]; push_cast; omega
        · rw [List.erase_cons, hb]
          simp [← h3]
theorem idx_spec (xs : List Int) (x : Int) : (idx xs x = -1 ∧ x ∉ xs) ∨ ∃ j : Nat, idx xs x = j ∧ xs[j]? = some x ∧ xs.take j ++ xs.drop (j + 1) = xs.erase x := by
  have := idxFrom_spec x xs 0
  simpa [idx, Lib.idxOf] using this

theorem d_remove (hM : MS n L Q s q lk W) (hn : s.l.length ≤ 1000) (x y : Int) : Calls Tryz.prog 41 #[P1 n, I x, I y] W fun e w' => Ends n L Q { s with l := s.l.erase x } q lk W (.ret 0) N0 e w' := by
  obtain ⟨lv, hc, ho⟩ := hM.c0
  have hlt := World.block_lt_of_cell? W _ hc
  have hf := hM.f 0
  have ix := index_own ho x
  rcases idx_spec s.l x with ⟨h1, h2⟩ | ⟨j, h1, h2, h3⟩
  · rw [h1] at ix
    go_enter Tryz.func41, Tryz.ntmps41
    go_wp2_with (go_at_call 100; refine ix.mono ?_; rintro e w' ⟨rfl, rfl⟩)
    go_end0
    rw [List.erase_of_not_mem h2]
    exact .same hM N0 0
  · rw [h1] at ix
    have hl := (List.getElem?_eq_some_iff.1 h2).1
    have hj : (0 : Int) ≤ (j : Int) := by omega
    have dl := delete_own ho j hl
    go_enter Tryz.func41, Tryz.ntmps41
    go_wp2_with (first
      | (go_at_call 100; refine ix.mono ?_; rintro e w' ⟨rfl, rfl⟩)
      | (go_at_call 101; refine dl.mono ?_; rintro e w' ⟨v', rfl, ho', hk'⟩; obtain ⟨a', cap', rfl, _⟩ := ho'.form; have hm' := (hk'.cell_some hc (fun e => by have := hM.far _ e; simp at this; omega)); have hf2 := (hk'.frozen (by exact hlt) (fun e => by have := hM.far _ e; simp at this; omega)).trans hf))
    go_end0
    rw [← h3]
    exact ⟨hM.set_l_kept hk', rfl, lk, hM.set_l hk' ho' (.inl rfl), .inl rfl⟩

theorem d_lay_in (hM : MS n L Q s q lk W) (hn : s.l.length ≤ 1000) (x y : Int) (hx : 0 ≤ x) : Calls Tryz.prog 45 #[P1 n, I x, I y] W fun e w' => Ends n L Q { s with l := x :: s.l } q lk W (.ret 0) N0 e w' := by
  go_enter Tryz.func45, Tryz.ntmps45
  go_wp2_with (first
    | (go_at_call 59; refine (must_true _ _).mono ?_; rintro e w' ⟨rfl, rfl⟩)
    | (go_at_call 37; refine (d_push hM hn x 0).mono ?_; rintro e w' ⟨hk, rfl, lk', hM', hr⟩))
  go_end0
  exact ⟨hk, rfl, lk', hM', hr⟩
theorem d_lay_out (hM : MS n L Q s q lk W) (x y : Int) (hx : ¬ 0 ≤ x) (s' : St) : Calls Tryz.prog 45 #[P1 n, I x, I y] W fun e w' => Ends n L Q s' q lk W (.stop 1 0) N0 e w' := by
  go_enter Tryz.func45, Tryz.ntmps45
  go_wp2_with (go_at_call 59; refine (must_false _ _).mono ?_; rintro e w' ⟨rfl, rfl⟩)
  exact ⟨rfl, .halt N0 _ _ _⟩

theorem d_leave_out (hM : MS n L Q s q lk W) (x y : Int) (hx : s.l = []) (s' : St) : Calls Tryz.prog 46 #[P1 n, I x, I y] W fun e w' => Ends n L Q s' q lk W (.stop 1 0) N0 e w' := by
  obtain ⟨lv, hc, ho⟩ := hM.c0
  obtain ⟨a0, cap, rfl, _⟩ := ho.form
  rw [hx] at hc
  go_enter Tryz.func46, Tryz.ntmps46
  go_wp2_with (go_at_call 59; refine (must_false _ _).mono ?_; rintro e w' ⟨rfl, rfl⟩)
  exact ⟨rfl, .halt N0 _ _ _⟩
theorem d_front_out (hM : MS n L Q s q lk W) (x y : Int) (hx : s.l = []) (s' : St) : Calls Tryz.prog 48 #[P1 n, I x, I y] W fun e w' => Ends n L Q s' q lk W (.stop 1 0) I e w' := by
  obtain ⟨lv, hc, ho⟩ := hM.c0
  obtain ⟨a0, cap, rfl, _⟩ := ho.form
  rw [hx] at hc
  go_enter Tryz.func48, Tryz.ntmps48
  go_wp2_with (go_at_call 59; refine (must_false _ _).mono ?_; rintro e w' ⟨rfl, rfl⟩)
  exact ⟨rfl, .halt I _ _ _⟩
theorem d_peek_nil (hM : MS n L Q s q lk W) (x y : Int) (hx : s.l = []) : Calls Tryz.prog 47 #[P1 n, I x, I y] W fun e w' => Ends n L Q s q lk W (.ret 0) I e w' := by
  obtain ⟨lv, hc, ho⟩ := hM.c0
  obtain ⟨a0, cap, rfl, _⟩ := ho.form
  rw [hx] at hc
  go_enter Tryz.func47, Tryz.ntmps47
  go_wp2
  go_ret
  exact .same hM I _

theorem d_peek (hM : MS n L Q s q lk W) (x y z : Int) (r : List Int) (hx : s.l = z :: r) : Calls Tryz.prog 47 #[P1 n, I x, I y] W fun e w' => Ends n L Q s q lk W (.ret z) I e w' := by
  obtain ⟨lv, hc, ho⟩ := hM.c0
  rcases ho.cases with ⟨_, _, h0⟩ | ⟨b, off, cap, rfl, rfl⟩
  · rw [h0] at hx; simp at hx
  have hz := ho.cell (j := 0) (x := z) (by simp [hx])
  rw [Nat.add_zero] at hz
  have hl : s.l.length = r.length + 1 := by simp [hx]
  have hl0 : 0 < s.l.length := by omega
  have hne : ¬ (s.l.length : Int) = 0 := by omega
  go_enter Tryz.func47, Tryz.ntmps47
  go_wp2
  go_ret
  exact .same hM I _
theorem d_front (hM : MS n L Q s q lk W) (x y z : Int) (r : List Int) (hx : s.l = z :: r) : Calls Tryz.prog 48 #[P1 n, I x, I y] W fun e w' => Ends n L Q s q lk W (.ret z) I e w' := by
  obtain ⟨lv, hc, ho⟩ := hM.c0
  rcases ho.cases with ⟨_, _, h0⟩ | ⟨b, off, cap, rfl, rfl⟩
  · rw [h0] at hx; simp at hx
  have hz := ho.cell (j := 0) (x := z) (by simp [hx])
  rw [Nat.add_zero] at hz
  have hl : s.l.length = r.length + 1 := by simp [hx]
  have hl0 : 0 < s.l.length := by omega
  have hpos : (0 : Int) < (s.l.length : Int) := by omega
  go_enter Tryz.func48, Tryz.ntmps48
  go_wp2_with (go_at_call 59; refine (must_true _ _).mono ?_; rintro e w' ⟨rfl, rfl⟩)
  go_ret
  exact .same hM I _
theorem d_leave (hM : MS n L Q s q lk W) (x y z : Int) (r : List Int) (hx : s.l = z :: r) : Calls Tryz.prog 46 #[P1 n, I x, I y] W fun e w' => Ends n L Q { s with l := r } q lk W (.ret 0) N0 e w' := by
  obtain ⟨lv, hc, ho⟩ := hM.c0
  have hf := hM.f 0
  rcases ho.cases with ⟨_, _, h0⟩ | ⟨b, off, cap, rfl, rfl⟩
  · rw [h0] at hx; simp at hx
  obtain ⟨_, _, h1, h2, cur, h3, h4, h5⟩ := ho.row
  have hl : s.l.length = r.length + 1 := by simp [hx]
  have hl0 : 0 < s.l.length := by omega
  have hpos : (0 : Int) < (s.l.length : Int) := by omega
  simp only [maxLen] at h2
  go_enter Tryz.func46, Tryz.ntmps46
  go_wp2_with (go_at_call 59; refine (must_true _ _).mono ?_; rintro e w' ⟨rfl, rfl⟩)
  · go_end0
    obtain rfl : r = [] := List.eq_nil_of_length_eq_zero (by omega)
    have := OwnI.of_row (xs := []) (off := off) (cap := 0) h3 (by simp) (by omega) (by omega) (by simp)
    exact ⟨hM.set_l_kept (Kept.refl _ W), rfl, some b, hM.set_l (Kept.refl _ W) this (.inl rfl), .inl rfl⟩
  · go_end0
    have := OwnI.of_row (xs := r) (off := off + 1) (cap := cap - 1) h3 (by omega) (by simp only [maxLen]; omega) (by omega) (fun j u hj => by
      have := h5 (j + 1) u (by rw [hx]; simpa using hj)
      rwa [show off + 1 + j = off + (j + 1) by omega])
    exact ⟨hM.set_l_kept (Kept.refl _ W), rfl, some b, hM.set_l (Kept.refl _ W) this (.inl rfl), .inl rfl⟩

theorem d_join (hM : MS n L Q s q lk W) (hn : s.l.length ≤ 1000) (x y : Int) : Calls Tryz.prog 54 #[P1 n, I x, I y] W fun e w' => Ends n L Q { s with l := if x ∈ s.l then s.l else x :: s.l } q lk W (.ret 0) N0 e w' := by
  by_cases hx : x ∈ s.l
  · rw [if_pos hx]
    have hh := d_has hM x y
    rw [show bi (decide (x ∈ s.l)) = 1 by simp [bi, hx]] at hh
    go_enter Tryz.func54, Tryz.ntmps54
    go_wp2_with (go_at_call 34; refine hh.mono ?_; rintro e w' ⟨hk, rfl, lk', hM', hr⟩)
    go_end0
    exact ⟨hk, rfl, lk', hM', hr⟩
  · rw [if_neg hx]
    have hh := d_has hM x y
    rw [show bi (decide (x ∈ s.l)) = 0 by simp [bi, hx]] at hh
    go_enter Tryz.func54, Tryz.ntmps54
    go_wp2_with (first
      | (go_at_call 34; refine hh.mono ?_; rintro e w1 ⟨hk, rfl, lk1, hM1, hr1⟩)
      | (go_at_call 37; refine (d_push hM1 hn x y).mono ?_; rintro e w' ⟨hk2, rfl, lk', hM', hr⟩))
    go_end0
    exact ⟨F.trans hk hr1 hk2, rfl, lk', hM', hr1.trans hk.size hr⟩
end Go.Proofs.Bm

namespace Go.Proofs.Bm
open Go.RowKit Go.Maps
variable {n q : Nat} {L : List (ByteArray × Value)} {Q : List Value} {s : St} {lk : Option Nat} {W : World}

/-- A number within the bounds. -/
def inR (x : Int) : Prop := -1099511627776 ≤ x ∧ x ≤ 1099511627776
instance (x : Int) : Decidable (inR x) := inferInstanceAs (Decidable (_ ∧ _))

theorem safe_in (x : Int) (w : World) (hx : inR x) : Calls Tryz.prog 96 #[I x] w fun e w' => e = .returned (I x) ∧ w = w' := by
  have hw := within_any x w (by unfold inR at hx; omega) (by unfold inR at hx; omega)
  rw [show decide (-1099511627776 ≤ x ∧ x ≤ 1099511627776) = true by simpa [inR] using hx] at hw
  go_enter Tryz.func96, Tryz.ntmps96
  go_wp2_with (first
    | (go_at_call 32; refine hw.mono ?_; rintro e w' ⟨rfl, rfl⟩)
    | (go_at_call 59; refine (must_true _ _).mono ?_; rintro e w' ⟨rfl, rfl⟩))
  go_ret
  exact ⟨rfl, rfl⟩
theorem safe_out (x : Int) (w : World) (h0 : -9223372036854775808 ≤ x) (h1 : x ≤ 9223372036854775807) (hx : ¬ inR x) : Calls Tryz.prog 96 #[I x] w fun e w' => e = .panicked (stopC 7 0) ∧ w = w' := by
  have hw := within_any x w h0 h1
  rw [show decide (-1099511627776 ≤ x ∧ x ≤ 1099511627776) = false by simpa [inR] using hx] at hw
  go_enter Tryz.func96, Tryz.ntmps96
  go_wp2_with (first
    | (go_at_call 32; refine hw.mono ?_; rintro e w' ⟨rfl, rfl⟩)
    | (go_at_call 59; refine (must_false _ _).mono ?_; rintro e w' ⟨rfl, rfl⟩))
  exact ⟨rfl, rfl, rfl⟩

theorem product_zero (a b : Int) (w : World) (h : a = 0 ∨ b = 0) : Calls Tryz.prog 104 #[I a, I b] w fun e w' => e = .returned (I 0) ∧ w = w' := by
  rcases h with rfl | rfl
  · go_enter Tryz.func104, Tryz.ntmps104
    go_wp2
    go_ret
    exact ⟨by simp [I], rfl⟩
  · by_cases ha : a = 0
    · subst ha
      go_enter Tryz.func104, Tryz.ntmps104
      go_wp2
      go_ret
      exact ⟨by simp [I], rfl⟩
    · go_enter Tryz.func104, Tryz.ntmps104
      go_wp2
      go_ret
      exact ⟨by simp [I], rfl⟩
theorem abs_mul (a b : Int) : max a (-a) * max b (-b) = max (a * b) (-(a * b)) := by
  rcases Int.le_total 0 a with ha | ha <;> rcases Int.le_total 0 b with hb | hb
  · have := Int.mul_nonneg ha hb
    rw [show max a (-a) = a by omega, show max b (-b) = b by omega, show max (a * b) (-(a * b)) = a * b by omega]
  · have := Int.mul_nonneg ha (show 0 ≤ -b by omega)
    rw [Int.mul_neg] at this
    rw [show max a (-a) = a by omega, show max b (-b) = -b by omega, show max (a * b) (-(a * b)) = -(a * b) by omega, Int.mul_neg]
  · have := Int.mul_nonneg (show 0 ≤ -a by omega) hb
    rw [Int.neg_mul] at this
    rw [show max a (-a) = -a by omega, show max b (-b) = b by omega, show max (a * b) (-(a * b)) = -(a * b) by omega, Int.neg_mul]
  · have := Int.mul_nonneg (show 0 ≤ -a by omega) (show 0 ≤ -b by omega)
    rw [Int.neg_mul_neg] at this
    rw [show max a (-a) = -a by omega, show max b (-b) = -b by omega, show max (a * b) (-(a * b)) = a * b by omega, Int.neg_mul_neg]
theorem fits_iff (a b : Int) (b0 : b ≠ 0) : max a (-a) ≤ 1099511627776 / max b (-b) ↔ inR (a * b) := by
  rw [Int.le_ediv_iff_mul_le (by omega), abs_mul]
  unfold inR
  omega
theorem product_in (a b : Int) (w : World) (ha : inR a) (hb : inR b) (a0 : a ≠ 0) (b0 : b ≠ 0) (h : inR (a * b)) : Calls Tryz.prog 104 #[I a, I b] w fun e w' => e = .returned (I (a * b)) ∧ w = w' := by
  have hd : decide (max a (-a) ≤ 1099511627776 / max b (-b)) = true := by rw [decide_eq_true_eq, fits_iff a b b0]; exact h
  have ea : (a != 0) = true := by simpa using a0
  have eb : (b != 0) = true := by simpa using b0
  obtain ⟨ha1, ha2⟩ := ha
  obtain ⟨hb1, hb2⟩ := hb
  obtain ⟨h1, h2⟩ := h
  go_enter Tryz.func104, Tryz.ntmps104
  go_wp2_with (first
    | (go_at_call 59; (try rw [hd]); refine (must_true _ _).mono ?_; rintro e w' ⟨rfl, rfl⟩))
  go_ret
  refine ⟨?_, rfl⟩
  have : wrap64 (a * b) = a * b := by unfold wrap64; omega
  simp [I, this]
theorem product_out (a b : Int) (w : World) (ha : inR a) (hb : inR b) (a0 : a ≠ 0) (b0 : b ≠ 0) (h : ¬ inR (a * b)) : Calls Tryz.prog 104 #[I a, I b] w fun e w' => e = .panicked (stopC 7 0) ∧ w = w' := by
  have hd : decide (max a (-a) ≤ 1099511627776 / max b (-b)) = false := by rw [decide_eq_false_iff_not, fits_iff a b b0]; exact h
  have ea : (a != 0) = true := by simpa using a0
  have eb : (b != 0) = true := by simpa using b0
  obtain ⟨ha1, ha2⟩ := ha
  obtain ⟨hb1, hb2⟩ := hb
  go_enter Tryz.func104, Tryz.ntmps104
  go_wp2_with (first
    | (go_at_call 59; (try rw [hd]); refine (must_false _ _).mono ?_; rintro e w' ⟨rfl, rfl⟩))
  exact ⟨rfl, rfl, rfl⟩
/-- All of it. -/
theorem product_ok (a b : Int) (w : World) (ha : inR a) (hb : inR b) (h : inR (a * b)) : Calls Tryz.prog 104 #[I a, I b] w fun e w' => e = .returned (I (a * b)) ∧ w = w' := by
  by_cases a0 : a = 0
  · subst a0
    rw [Int.zero_mul]; exact product_zero 0 b w (.inl rfl)
  · by_cases b0 : b = 0
    · subst b0
      rw [Int.mul_zero]; exact product_zero a 0 w (.inr rfl)
    · exact product_in a b w ha hb a0 b0 h
theorem product_no (a b : Int) (w : World) (ha : inR a) (hb : inR b) (h : ¬ inR (a * b)) : Calls Tryz.prog 104 #[I a, I b] w fun e w' => e = .panicked (stopC 7 0) ∧ w = w' := by
  have a0 : a ≠ 0 := by rintro rfl; exact h (by simp [inR])
  have b0 : b ≠ 0 := by rintro rfl; exact h (by simp [inR])
  exact product_out a b w ha hb a0 b0 h

theorem d_lows (hM : MS n L Q s q lk W) (x y : Int) : Calls Tryz.prog 55 #[P1 n, I x, I y] W fun e w' => Ends n L Q s q lk W (.ret s.low) I e w' := by
  have hc := hM.c2
  go_enter Tryz.func55, Tryz.ntmps55
  go_wp2
  go_ret
  exact .same hM I _
theorem d_highs (hM : MS n L Q s q lk W) (x y : Int) : Calls Tryz.prog 60 #[P1 n, I x, I y] W fun e w' => Ends n L Q s q lk W (.ret s.high) I e w' := by
  have hc := hM.c3
  go_enter Tryz.func60, Tryz.ntmps60
  go_wp2
  go_ret
  exact .same hM I _
theorem d_contains (hM : MS n L Q s q lk W) (x y : Int) : Calls Tryz.prog 62 #[P1 n, I x, I y] W fun e w' => Ends n L Q s q lk W (.ret (bi (decide (s.low ≤ x ∧ x ≤ s.high)))) I e w' := by
  have hc2 := hM.c2
  have hc3 := hM.c3
  by_cases h1 : s.low ≤ x <;> by_cases h2 : x ≤ s.high
  all_goals
    go_enter Tryz.func62, Tryz.ntmps62
    go_wp2_with (go_at_call 94; refine (truth_bi _ _).mono ?_; rintro e w' ⟨rfl, rfl⟩)
    go_ret
    first
      | (rw [show decide (s.low ≤ x ∧ x ≤ s.high) = true by simp [h1, h2]]; exact .same hM I _)
      | (rw [show decide (s.low ≤ x ∧ x ≤ s.high) = false by simp [h1, h2]]; exact .same hM I _)
theorem d_more_in (hM : MS n L Q s q lk W) (x : Int) (hx : inR x) (hl : inR s.low) (h : inR (s.low + x)) : Calls Tryz.prog 57 #[P1 n, I x] W fun e w' => Ends n L Q { s with low := s.low + x } q lk W (.ret 0) N0 e w' := by
  have hc2 := hM.c2
  have hf2 := hM.f 2
  have hh := h
  obtain ⟨ha1, ha2⟩ := hx
  obtain ⟨hb1, hb2⟩ := hl
  obtain ⟨h1, h2⟩ := h
  go_enter Tryz.func57, Tryz.ntmps57
  go_wp2_with (go_at_call 96; refine (safe_in _ _ hh).mono ?_; rintro e w' ⟨rfl, rfl⟩)
  go_end0
  exact ⟨(Kept.refl _ W).setCell (fun _ => .inr (.inl rfl)) _, rfl, lk, hM.set_low _, .inl rfl⟩
theorem d_more_out (hM : MS n L Q s q lk W) (x : Int) (hx : inR x) (hl : inR s.low) (h : ¬ inR (s.low + x)) (s' : St) : Calls Tryz.prog 57 #[P1 n, I x] W fun e w' => Ends n L Q s' q lk W (.stop 7 0) N0 e w' := by
  have hc2 := hM.c2
  have hf2 := hM.f 2
  obtain ⟨ha1, ha2⟩ := hx
  obtain ⟨hb1, hb2⟩ := hl
  go_enter Tryz.func57, Tryz.ntmps57
  go_wp2_with (go_at_call 96; refine (safe_out _ _ (by omega) (by omega) h).mono ?_; rintro e w' ⟨rfl, rfl⟩)
  exact ⟨rfl, .halt N0 _ _ _⟩
theorem d_nothing (hM : MS n L Q s q lk W) (x y : Int) : Calls Tryz.prog 44 #[I x, I y] W fun e w' => Ends n L Q s q lk W (.ret 0) N0 e w' := by
  go_enter Tryz.func44, Tryz.ntmps44
  go_wp2
  go_end0
  exact .same hM N0 0
theorem d_up_in (hM : MS n L Q s q lk W) (x y : Int) (hl : inR s.low) (h : inR (s.low + 1)) : Calls Tryz.prog 56 #[I x, I y, .pointer (some ⟨n + 1 + 1, 0, none⟩)] W fun e w' => Ends n L Q { s with low := s.low + 1 } q lk W (.ret 0) N0 e w' := by
  have hc := hM.cbox
  have hm := d_more_in hM 1 (by simp [inR]) hl h
  go_enter Tryz.func56, Tryz.ntmps56
  go_wp2_with (go_at_call 57; refine hm.mono ?_; rintro e w' ⟨hk, rfl, lk', hM', hr⟩)
  go_end0
  exact ⟨hk, rfl, lk', hM', hr⟩
theorem d_up_out (hM : MS n L Q s q lk W) (x y : Int) (hl : inR s.low) (h : ¬ inR (s.low + 1)) (s' : St) : Calls Tryz.prog 56 #[I x, I y, .pointer (some ⟨n + 1 + 1, 0, none⟩)] W fun e w' => Ends n L Q s' q lk W (.stop 7 0) N0 e w' := by
  have hc := hM.cbox
  have hm := d_more_out hM 1 (by simp [inR]) hl h s'
  go_enter Tryz.func56, Tryz.ntmps56
  go_wp2_with (go_at_call 57; refine hm.mono ?_; rintro e w' ⟨hk, rfl⟩)
  exact ⟨rfl, hk, rfl⟩
theorem d_add_neg (hM : MS n L Q s q lk W) (x y : Int) (hx : ¬ 0 ≤ x) (s' : St) : Calls Tryz.prog 58 #[I x, I y, .pointer (some ⟨n + 1 + 1, 0, none⟩)] W fun e w' => Ends n L Q s' q lk W (.stop 1 0) N0 e w' := by
  have hc := hM.cbox
  go_enter Tryz.func58, Tryz.ntmps58
  go_wp2_with (go_at_call 59; refine (must_false _ _).mono ?_; rintro e w' ⟨rfl, rfl⟩)
  exact ⟨rfl, .halt N0 _ _ _⟩
theorem d_add_in (hM : MS n L Q s q lk W) (x y : Int) (hx0 : 0 ≤ x) (hx : inR x) (hl : inR s.low) (h : inR (s.low + x)) : Calls Tryz.prog 58 #[I x, I y, .pointer (some ⟨n + 1 + 1, 0, none⟩)] W fun e w' => Ends n L Q { s with low := s.low + x } q lk W (.ret 0) N0 e w' := by
  have hc := hM.cbox
  have hm := d_more_in hM x hx hl h
  go_enter Tryz.func58, Tryz.ntmps58
  go_wp2_with (first
    | (go_at_call 59; refine (must_true _ _).mono ?_; rintro e w' ⟨rfl, rfl⟩)
    | (go_at_call 57; refine hm.mono ?_; rintro e w' ⟨hk, rfl, lk', hM', hr⟩))
  go_end0
  exact ⟨hk, rfl, lk', hM', hr⟩
theorem d_add_out (hM : MS n L Q s q lk W) (x y : Int) (hx0 : 0 ≤ x) (hx : inR x) (hl : inR s.low) (h : ¬ inR (s.low + x)) (s' : St) : Calls Tryz.prog 58 #[I x, I y, .pointer (some ⟨n + 1 + 1, 0, none⟩)] W fun e w' => Ends n L Q s' q lk W (.stop 7 0) N0 e w' := by
  have hc := hM.cbox
  have hm := d_more_out hM x hx hl h s'
  go_enter Tryz.func58, Tryz.ntmps58
  go_wp2_with (first
    | (go_at_call 59; refine (must_true _ _).mono ?_; rintro e w' ⟨rfl, rfl⟩)
    | (go_at_call 57; refine hm.mono ?_; rintro e w' ⟨hk, rfl⟩))
  exact ⟨rfl, hk, rfl⟩
end Go.Proofs.Bm

namespace Go.Proofs.Bm
open Go.RowKit Go.Maps
variable {n q : Nat} {L : List (ByteArray × Value)} {Q : List Value} {s : St} {lk : Option Nat} {W : World}

def sumO : Int → List Int → Out
  | m, [] => .ret m
  | m, x :: r => if inR (m + x) then sumO (m + x) r else .stop 7 0

theorem d_tries_in (hM : MS n L Q s q lk W) (x y : Int) (hx : x ≤ 20) : Calls Tryz.prog 68 #[I x, I y] W fun e w' => Ends n L Q s q lk W (.ret (max 0 x)) I e w' := by
  go_enter Tryz.func68, Tryz.ntmps68
  go_wp2_with (go_at_call 59; refine (must_true _ _).mono ?_; rintro e w' ⟨rfl, rfl⟩)
  go_ret
  exact .same hM I _
theorem d_tries_out (hM : MS n L Q s q lk W) (x y : Int) (hx : ¬ x ≤ 20) : Calls Tryz.prog 68 #[I x, I y] W fun e w' => Ends n L Q s q lk W (.stop 107 0) I e w' := by
  go_enter Tryz.func68, Tryz.ntmps68
  go_wp2_with (go_at_call 59; refine (must_false _ _).mono ?_; rintro e w' ⟨rfl, rfl⟩)
  exact ⟨rfl, .halt I _ _ s⟩

theorem d_span_in (hM : MS n L Q s q lk W) (x y : Int) (hy : inR y) (h1 : inR (y + 1)) (h2 : x ≤ y + 1) : Calls Tryz.prog 61 #[P1 n, I x, I y] W fun e w' => Ends n L Q { s with low := x, high := y } q lk W (.ret 0) N0 e w' := by
  have hc2 := hM.c2
  have hc3 := hM.c3
  have hf2 := hM.f 2
  have hf3 := hM.f 3
  have ⟨b1, b2⟩ := hy
  go_enter Tryz.func61, Tryz.ntmps61
  go_wp2_with (first
    | (go_at_call 96; refine (safe_in _ _ h1).mono ?_; rintro e w' ⟨rfl, rfl⟩)
    | (go_at_call 59; refine (must_true _ _).mono ?_; rintro e w' ⟨rfl, rfl⟩))
  go_end0
  exact ⟨((Kept.refl _ W).setCell (fun _ => .inr (.inl rfl)) _).setCell (fun _ => .inr (.inl rfl)) _, rfl, lk, (hM.set_low x).set_high y, .inl rfl⟩
theorem d_span_pre (hM : MS n L Q s q lk W) (x y : Int) (hy : inR y) (h1 : inR (y + 1)) (h2 : ¬ x ≤ y + 1) (s' : St) : Calls Tryz.prog 61 #[P1 n, I x, I y] W fun e w' => Ends n L Q s' q lk W (.stop 1 0) N0 e w' := by
  have ⟨b1, b2⟩ := hy
  have e2 : decide (x ≤ y + 1) = false := by simpa using h2
  go_enter Tryz.func61, Tryz.ntmps61
  go_wp2_with (first
    | (go_at_call 96; refine (safe_in _ _ h1).mono ?_; rintro e w' ⟨rfl, rfl⟩)
    | (go_at_call 59; (try rw [e2]); refine (must_false _ _).mono ?_; rintro e w' ⟨rfl, rfl⟩))
  exact ⟨rfl, .halt N0 _ _ _⟩
theorem d_span_over (hM : MS n L Q s q lk W) (x y : Int) (hy : inR y) (h1 : ¬ inR (y + 1)) (s' : St) : Calls Tryz.prog 61 #[P1 n, I x, I y] W fun e w' => Ends n L Q s' q lk W (.stop 7 0) N0 e w' := by
  have ⟨b1, b2⟩ := hy
  go_enter Tryz.func61, Tryz.ntmps61
  go_wp2_with (go_at_call 96; refine (safe_out _ _ (by omega) (by omega) h1).mono ?_; rintro e w' ⟨rfl, rfl⟩)
  exact ⟨rfl, .halt N0 _ _ _⟩

set_option maxHeartbeats 1000000 in
theorem d_sum (hM : MS n L Q s q lk W) (hin : ∀ z ∈ s.l, inR z) (x y : Int) : Calls Tryz.prog 35 #[P1 n, I x, I y] W fun e w' => Ends n L Q s q lk W (sumO 0 s.l) I e w' := by
  obtain ⟨lv, hc, ho⟩ := hM.c0
  rcases ho.cases with ⟨rfl, rfl, h0⟩ | ⟨b, off, cap, rfl, rfl⟩
  · rw [h0]
    go_enter Tryz.func35, Tryz.ntmps35
    go_wp2
    go_loopg [7, 9, 15] 0 (fun _ s7 s9 s15 wr => s7 = I 0 ∧ s15 = I 0 ∧ wr = W)
    case atStart => exact ⟨rfl, rfl, rfl⟩
    case round =>
      obtain ⟨rfl, rfl, rfl⟩ := hrel
      go_wp2
      go_ret
      exact .same hM I _
  · have h2 := ho.row.2.2.1
    have h3 := ho.row.2.2.2.1
    simp only [maxLen] at h3
    have hE := Lib.hid (And.intro hM hin)
    have hC := Lib.hid (fun (j : Nat) (z : Int) (hj : s.l[j]? = some z) => ho.cell hj)
    clear ho
    go_enter Tryz.func35, Tryz.ntmps35
    go_wp2
    go_loopg [7, 9, 15] s.l.length (fun gg s7 _ s15 wr => ∃ (kk : Nat) (m : Int), kk ≤ s.l.length ∧ s.l.length - kk ≤ gg ∧ s7 = I m ∧ s15 = I kk ∧ wr = W ∧ inR m ∧ Hid (sumO 0 s.l = sumO m (s.l.drop kk)))
    case atStart => exact ⟨0, 0, Nat.zero_le _, Nat.le_refl _, rfl, rfl, rfl, by simp [inR], Lib.hid rfl⟩
    case round =>
      obtain ⟨kk, m, hkk, hg, rfl, rfl, rfl, hm, hs⟩ := hrel
      by_cases hlt : kk < s.l.length
      · have hz := List.getElem?_eq_getElem hlt
        generalize s.l[kk] = z at hz
        have hcell := hC.out kk z hz
        have hzin := hE.out.2 z (List.mem_of_getElem? hz)
        have hdrop : s.l.drop kk = z :: s.l.drop (kk + 1) := by
          rw [List.drop_eq_getElem_cons hlt]
          rw [List.getElem?_eq_getElem hlt] at hz
          simp at hz; rw [hz]
        have ⟨b1, b2⟩ := hm
        have ⟨b3, b4⟩ := hzin
        have hltz : (kk : Int) < (s.l.length : Int) := by omega
        have hs2 := hs.out
        rw [hdrop, sumO] at hs2
        have hs3 := Lib.hid hs2
        clear hs hs2
        by_cases hin2 : inR (m + z)
        · go_wp2_with (go_at_call 96; refine (safe_in _ _ hin2).mono ?_; rintro e w' ⟨rfl, rfl⟩)
          go_roundg (s.l.length - (kk + 1))
          case measure => omega
          case rel => exact ⟨kk + 1, m + z, by omega, by omega, rfl, by go_num, rfl, hin2, Lib.hid (by have := hs3.out; rwa [if_pos hin2] at this)⟩
        · go_wp2_with (go_at_call 96; refine (safe_out _ _ (by omega) (by omega) hin2).mono ?_; rintro e w' ⟨rfl, rfl⟩)
          have := hs3.out
          rw [if_neg hin2] at this
          rw [this]
          exact ⟨rfl, .halt I _ _ s⟩
      · have : kk = s.l.length := by omega
        subst this
        have hltz : ¬ (s.l.length : Int) < (s.l.length : Int) := by omega
        go_wp2
        go_ret
        have := hs.out
        rw [List.drop_length] at this
        rw [this]
        exact .same hE.out.1 I _
end Go.Proofs.Bm

namespace Go.Proofs.Bm
open Go.RowKit Go.Maps
variable {n q : Nat} {L : List (ByteArray × Value)} {Q : List Value} {s : St} {lk : Option Nat} {W : World}

theorem Ends.drew (h : MS n L Q s q lk W) (val : Int → Value) (r : Int) : Ends n L Q s q lk W (.ret r) val (.returned (val r)) W.drew := ⟨(Kept.refl _ _).drew, rfl, lk, h.drew, .inl rfl⟩
theorem Ends.dhalt (val : Int → Value) (f e : Int) (s : St) : Ends n L Q s q lk W (.stop f e) val (.panicked (stopC f e)) W.drew := ⟨(Kept.refl _ _).drew, rfl⟩

theorem MS.drewN (h : MS n L Q s q lk W) (r : Nat) : MS n L Q s q lk (W.drewN r) := h.kept (G := fun _ => False) ⟨rfl, rfl, rfl, Nat.le_refl _, fun _ _ _ => rfl⟩ (fun _ _ _ e => e) (fun _ _ e => e)
theorem Ends.drewN (h : MS n L Q s q lk W) (val : Int → Value) (r : Int) (k : Nat) : Ends n L Q s q lk W (.ret r) val (.returned (val r)) (W.drewN k) := ⟨⟨rfl, rfl, rfl, Nat.le_refl _, fun _ _ _ => rfl⟩, rfl, lk, h.drewN k, .inl rfl⟩
theorem d_gcd_out (hM : MS n L Q s q lk W) (x y : Int) (hx : ¬ (0 ≤ x ∧ 0 ≤ y)) : Calls Tryz.prog 65 #[I x, I y] W fun e w' => Ends n L Q s q lk W (.stop 1 0) I e w' := by
  by_cases h1 : 0 ≤ x
  · have h2 : ¬ 0 ≤ y := fun h => hx ⟨h1, h⟩
    go_enter Tryz.func65, Tryz.ntmps65
    go_wp2_with (go_at_call 59; refine (must_false _ _).mono ?_; rintro e w' ⟨rfl, rfl⟩)
    exact ⟨rfl, .halt I _ _ s⟩
  · go_enter Tryz.func65, Tryz.ntmps65
    go_wp2_with (go_at_call 59; refine (must_false _ _).mono ?_; rintro e w' ⟨rfl, rfl⟩)
    exact ⟨rfl, .halt I _ _ s⟩

set_option maxHeartbeats 1000000 in
theorem d_gcd_in (hM : MS n L Q s q lk W) (x y : Nat) (hx : inR x) (hy : inR y) : Calls Tryz.prog 65 #[I x, I y] W fun e w' => Ends n L Q s q lk W (.ret (Nat.gcd x y)) I e w' := by
  have h1 : (0 : Int) ≤ x := by omega
  have h2 : (0 : Int) ≤ y := by omega
  have ⟨b1, b2⟩ := hx
  have ⟨b3, b4⟩ := hy
  go_enter Tryz.func65, Tryz.ntmps65
  go_wp2_with (go_at_call 59; refine (must_true _ _).mono ?_; rintro e w' ⟨rfl, rfl⟩)
  go_loopg [0, 1] y (fun gg s0 s1 wr => ∃ (a b r : Nat), b ≤ gg ∧ s0 = I a ∧ s1 = I b ∧ wr = W.drewN r ∧ a ≤ 1099511627776 ∧ b ≤ 1099511627776 ∧ Hid (Nat.gcd a b = Nat.gcd x y))
  case atStart => exact ⟨x, y, 0, Nat.le_refl _, rfl, rfl, rfl, by omega, by omega, Lib.hid rfl⟩
  case round =>
    obtain ⟨a, b, r, hb, rfl, rfl, rfl, ha1, hb1, hs⟩ := hrel
    by_cases hb0 : b = 0
    · subst hb0
      go_wp2
      go_ret
      have := hs.out
      rw [Nat.gcd_zero_right] at this
      rw [← this]
      exact .drewN hM I _ _
    · have hbz : (b : Int) ≠ 0 := by omega
      have hbb : ((b : Int) != 0) = true := by simpa using hbz
      go_wp2
      go_quiet (fail)
      go_wp2
      go_roundg (a % b)
      case measure => have := Nat.mod_lt a (show b > 0 by omega); omega
      case rel => exact ⟨b, a % b, r + nq, Nat.le_refl _, rfl, by go_num, by simp only [World.drewN, Nat.add_assoc], hb1, by have := Nat.mod_lt a (show b > 0 by omega); omega, Lib.hid (by rw [← hs.out, Nat.gcd_comm a b, Nat.gcd_rec b a, Nat.gcd_comm])⟩

def powO (a b : Int) : Nat → Int → Int → Out
  | 0, _, n => .ret n
  | f + 1, k, n => if k < b then (if 100000 ≤ k then .stop 0 3 else if inR (n * a) then powO a b f (k + 1) (n * a) else .stop 7 0) else .ret n

theorem d_power_out (hM : MS n L Q s q lk W) (x y : Int) (hy : ¬ 0 ≤ y) : Calls Tryz.prog 66 #[I x, I y] W fun e w' => Ends n L Q s q lk W (.stop 1 0) I e w' := by
  go_enter Tryz.func66, Tryz.ntmps66
  go_wp2_with (go_at_call 59; refine (must_false _ _).mono ?_; rintro e w' ⟨rfl, rfl⟩)
  exact ⟨rfl, .halt I _ _ s⟩

set_option maxHeartbeats 1000000 in
theorem d_power_in (hM : MS n L Q s q lk W) (x : Int) (y : Nat) (hx : inR x) (hy : inR y) : Calls Tryz.prog 66 #[I x, I y] W fun e w' => Ends n L Q s q lk W (powO x y (y + 1) 0 1) I e w' := by
  have h2 : (0 : Int) ≤ y := by omega
  have ⟨b3, b4⟩ := hy
  obtain ⟨R, hR⟩ : ∃ R, R = powO x y (y + 1) 0 1 := ⟨_, rfl⟩
  rw [← hR]
  replace hR := Lib.hid hR
  go_enter Tryz.func66, Tryz.ntmps66
  go_wp2_with (go_at_call 59; refine (must_true _ _).mono ?_; rintro e w' ⟨rfl, rfl⟩)
  go_loopg [5, 6, 11] y (fun gg s5 _ s11 wr => ∃ (k : Nat) (m : Int), k ≤ y ∧ y - k ≤ gg ∧ s5 = I m ∧ s11 = I k ∧ wr = W ∧ inR m ∧ Hid (R = powO x y (y - k + 1) k m))
  case atStart => exact ⟨0, 1, Nat.zero_le _, Nat.le_refl _, rfl, rfl, rfl, by simp [inR], Lib.hid hR.out⟩
  case round =>
    obtain ⟨k, m, hk, hg, rfl, rfl, rfl, hm, hs⟩ := hrel
    by_cases hlt : k < y
    · have hltz : (k : Int) < (y : Int) := by omega
      have hs2 := hs.out
      rw [powO, if_pos hltz] at hs2
      by_cases hbig : (100000 : Int) ≤ (k : Int)
      · rw [if_pos hbig] at hs2
        replace hs2 := Lib.hid hs2
        clear hs
        go_wp2
        rw [hs2.out]
        exact ⟨rfl, .halt I _ _ s⟩
      · rw [if_neg hbig] at hs2
        replace hs2 := Lib.hid hs2
        clear hs
        by_cases hp : inR (m * x)
        · go_wp2_with (go_at_call 104; refine (product_ok _ _ _ hm hx hp).mono ?_; rintro e w' ⟨rfl, rfl⟩)
          go_roundg (y - (k + 1))
          case measure => omega
          case rel => exact ⟨k + 1, m * x, by omega, by omega, rfl, by go_num, rfl, hp, Lib.hid (by have := hs2.out; rw [if_pos hp] at this; rw [this, show y - k = y - (k + 1) + 1 by omega]; rfl)⟩
        · go_wp2_with (go_at_call 104; refine (product_no _ _ _ hm hx hp).mono ?_; rintro e w' ⟨rfl, rfl⟩)
          have := hs2.out
          rw [if_neg hp] at this
          rw [this]
          exact ⟨rfl, .halt I _ _ s⟩
    · have hltz : ¬ (k : Int) < (y : Int) := by omega
      have := hs.out
      rw [powO, if_neg hltz] at this
      replace this := Lib.hid this
      clear hs
      go_wp2
      go_ret
      rw [this.out]
      exact .same hM I _

def facO (a : Int) : Nat → Int → Int → Out
  | 0, _, n => .ret n
  | f + 1, k, n => if k ≤ a then (if inR (n * k) then facO a f (k + 1) (n * k) else .stop 7 0) else .ret n

theorem d_fact_neg (hM : MS n L Q s q lk W) (x y : Int) (hy : ¬ 0 ≤ x) : Calls Tryz.prog 67 #[I x, I y] W fun e w' => Ends n L Q s q lk W (.stop 1 0) I e w' := by
  go_enter Tryz.func67, Tryz.ntmps67
  go_wp2_with (go_at_call 59; refine (must_false _ _).mono ?_; rintro e w' ⟨rfl, rfl⟩)
  exact ⟨rfl, .halt I _ _ s⟩
theorem d_fact_deep (hM : MS n L Q s q lk W) (x y : Int) (hy : 0 ≤ x) (hx : ¬ x < 64) : Calls Tryz.prog 67 #[I x, I y] W fun e w' => Ends n L Q s q lk W (.stop 9 0) I e w' := by
  have e2 : decide (x < 64) = false := by simpa using hx
  go_enter Tryz.func67, Tryz.ntmps67
  go_wp2_with (first
    | (go_at_call 59; with_reducible refine (must_true 1 _).mono ?_; rintro e w' ⟨rfl, rfl⟩)
    | (go_at_call 59; (try rw [e2]); with_reducible refine (must_false 9 _).mono ?_; rintro e w' ⟨rfl, rfl⟩))
  exact ⟨rfl, .halt I _ _ s⟩

set_option maxHeartbeats 1000000 in
theorem d_fact_in (hM : MS n L Q s q lk W) (x : Nat) (y : Int) (hx : x < 64) : Calls Tryz.prog 67 #[I x, I y] W fun e w' => Ends n L Q s q lk W (facO x 64 2 1) I e w' := by
  have h2 : (0 : Int) ≤ x := by omega
  have h3 : (x : Int) < 64 := by omega
  obtain ⟨R, hR⟩ : ∃ R, R = facO x 64 2 1 := ⟨_, rfl⟩
  rw [← hR]
  replace hR := Lib.hid hR
  go_enter Tryz.func67, Tryz.ntmps67
  go_wp2_with (first
    | (go_at_call 59; with_reducible refine (must_true 1 _).mono ?_; rintro e w' ⟨rfl, rfl⟩)
    | (go_at_call 59; with_reducible refine (must_true 9 _).mono ?_; rintro e w' ⟨rfl, rfl⟩))
  go_loopg [5, 6] 64 (fun gg s5 s6 wr => ∃ (k : Nat) (m : Int), k ≤ 64 ∧ 64 - k ≤ gg ∧ s5 = I m ∧ s6 = I (k + 2) ∧ wr = W ∧ inR m ∧ Hid (R = facO x (64 - k) (k + 2) m))
  case atStart => exact ⟨0, 1, Nat.zero_le _, Nat.le_refl _, rfl, rfl, rfl, by simp [inR], Lib.hid hR.out⟩
  case round =>
    obtain ⟨k, m, hk, hg, rfl, rfl, rfl, hm, hs⟩ := hrel
    by_cases hlt : k + 2 ≤ x
    · have hltz : (k : Int) + 2 ≤ (x : Int) := by omega
      have hs2 := hs.out
      rw [show 64 - k = (64 - (k + 1)) + 1 by omega, facO, if_pos hltz] at hs2
      replace hs2 := Lib.hid hs2
      clear hs
      have hkr : inR ((k : Int) + 2) := by unfold inR; omega
      by_cases hp : inR (m * ((k : Int) + 2))
      · go_wp2_with (go_at_call 104; refine (product_ok _ _ _ hm hkr hp).mono ?_; rintro e w' ⟨rfl, rfl⟩)
        go_roundg (64 - (k + 1))
        case measure => omega
        case rel => exact ⟨k + 1, m * ((k : Int) + 2), by omega, by omega, rfl, by go_num, rfl, hp, Lib.hid (by have := hs2.out; rw [if_pos hp] at this; rw [this]; congr 1)⟩
      · go_wp2_with (go_at_call 104; refine (product_no _ _ _ hm hkr hp).mono ?_; rintro e w' ⟨rfl, rfl⟩)
        have := hs2.out
        rw [if_neg hp] at this
        rw [this]
        exact ⟨rfl, .halt I _ _ s⟩
    · have hltz : ¬ (k : Int) + 2 ≤ (x : Int) := by omega
      have := hs.out
      rw [show (facO x (64 - k) (k + 2) m) = .ret m by cases hh : 64 - k with | zero => rfl | succ j => rw [facO, if_neg hltz]] at this
      replace this := Lib.hid this
      clear hs
      go_wp2
      go_ret
      rw [this.out]
      exact .same hM I _
end Go.Proofs.Bm
