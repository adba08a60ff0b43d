/- The reference's RANGE. No condition but the state's. -/
import Derived.Test.YtipdlkncacjahaaGreatDoorBRFn
import Derived.Test.YtipdlkncacjahaaGreatDoorBD7
import Derived.Deep.LoopGhost
import Derived.BigQuiet
import Derived.Deep.QuietTactic
import Derived.IntWalk
import Derived.Deep.RegionHeld3
import Derived.Handy
set_option linter.unusedSimpArgs false
set_option linter.unusedVariables false
namespace Go.Proofs.Bm
open Go.RowKit Go.Maps
variable {b : Nat} {s s' : RSt} {lL lK lO : Option Nat} {W w' : World}

/-- A number is put out, or a fault is set, or it was too long. -/
def fin (s : RSt) : Out → RSt
  | .ret r => { s with out := s.out ++ [r] }
  | .stop f e => if e = 0 then { s with fault := f } else { s with long := true }

set_option maxHeartbeats 1000000 in
theorem r_sum (h : RS b s lL lK lO W) (hn : s.out.length ≤ 1000) (hl : inR s.low) (hh : inR s.high) :
    Calls Tryz.prog 83 #[PB b] W fun e w' => e = .returned (.tuple #[]) ∧ REnds b (fin s (totO s.low s.high ((s.high - s.low).toNat + 2) s.low 0)) lL lK lO W w' := by
  have hc2 := h.c2
  have hc3 := h.c3
  have hc5 := h.c5
  have hc6 := h.c6
  have hf5 := h.f 5
  have hf6 := h.f 6
  have hS := Lib.hid h
  obtain ⟨R, hR⟩ : ∃ R, R = totO s.low s.high ((s.high - s.low).toNat + 2) s.low 0 := ⟨_, rfl⟩
  rw [← hR]
  replace hR := Lib.hid hR
  clear h
  have ⟨b1, b2⟩ := hl
  have ⟨b3, b4⟩ := hh
  go_enter Tryz.func83, Tryz.ntmps83
  go_wp2_with fail
  go_loopg [2, 3, 4] ((s.high - s.low).toNat + 1) (fun gg s2 s3 s4 wr => ∃ (j : Nat) (m : Int), (j : Int) ≤ 100000 ∧ (s.high - s.low).toNat + 1 - j ≤ gg ∧ s2 = I m ∧ s3 = I j ∧ s4 = I (s.low + j) ∧ wr = W ∧ inR m ∧ (j : Int) ≤ max 0 (s.high - s.low + 1) ∧ Hid (R = totO s.low s.high ((s.high - s.low).toNat + 2 - j) (s.low + j) m))
  case atStart => exact ⟨0, 0, by omega, by omega, rfl, rfl, by simp, rfl, by simp [inR], by omega, Lib.hid (by rw [hR.out]; simp)⟩
  case round =>
    obtain ⟨j, m, hj, hg, rfl, rfl, rfl, rfl, hm, hjm, hs⟩ := hrel
    have ⟨m1, m2⟩ := hm
    by_cases hlt : s.low + (j : Int) ≤ s.high
    · have hs2 := hs.out
      rw [show (s.high - s.low).toNat + 2 - j = ((s.high - s.low).toNat + 2 - (j + 1)) + 1 by omega, totO, if_pos hlt] at hs2
      by_cases hbig : (100000 : Int) ≤ s.low + (j : Int) - s.low
      · rw [if_pos hbig] at hs2
        replace hs2 := Lib.hid hs2
        clear hs
        obtain rfl : j = 100000 := by omega
        go_wp2
        ((try simp only [Exit.inBlock, Exit.then]); refine bodyPost_ret (results_none rfl _ _ _) rfl ?_)
        rw [hs2.out]
        exact ⟨rfl, REnds.of_set (hS.out.set_long true)⟩
      · rw [if_neg hbig] at hs2
        replace hs2 := Lib.hid hs2
        clear hs
        have hbj : ¬ (j : Int) = 100000 := by omega
        have hb := fun w => r_beyond (m + (s.low + (j : Int))) w
        by_cases hp : inR (m + (s.low + (j : Int)))
        · rw [show decide (¬ inR (m + (s.low + (j : Int)))) = false by simpa using hp] at hb
          go_wp2_with (go_at_call 81; refine (hb _).mono ?_; rintro e w' ⟨rfl, rfl⟩)
          go_roundg ((s.high - s.low).toNat + 1 - (j + 1))
          case measure => omega
          case rel => exact ⟨j + 1, m + (s.low + (j : Int)), by omega, by omega, rfl, by go_num, by go_num, rfl, hp, by omega, Lib.hid (by have := hs2.out; rw [if_pos hp] at this; rw [this]; congr 1; push_cast; omega)⟩
        · rw [show decide (¬ inR (m + (s.low + (j : Int)))) = true by simpa using hp] at hb
          go_wp2_with (go_at_call 81; refine (hb _).mono ?_; rintro e w' ⟨rfl, rfl⟩)
          ((try simp only [Exit.inBlock, Exit.then]); refine bodyPost_ret (results_none rfl _ _ _) rfl ?_)
          have := hs2.out
          rw [if_neg hp] at this
          rw [this]
          exact ⟨rfl, REnds.of_set (hS.out.set_fault 7)⟩
    · have hs2 := hs.out
      have e0 : totO s.low s.high ((s.high - s.low).toNat + 2 - j) (s.low + j) m = .ret m := by
        cases hh : (s.high - s.low).toNat + 2 - j with
        | zero => rfl
        | succ i => rw [totO, if_neg hlt]
      rw [e0] at hs2
      replace hs2 := Lib.hid hs2
      clear hs e0
      go_wp2_with (go_at_call 77; refine (r_put hS.out hn m).mono ?_; rintro e w' ⟨rfl, hRE⟩)
      go_end0
      rw [hs2.out]
      exact ⟨rfl, hRE⟩
end Go.Proofs.Bm

namespace Go.Proofs.Bm
open Go.RowKit Go.Maps
variable {b : Nat} {s s' : RSt} {lL lK lO : Option Nat} {W w' : World}

theorem beyond_no (x : Int) (w : World) (h : inR x) : Calls Tryz.prog 81 #[I x] w fun e w' => e = .returned (.bool false) ∧ w' = w :=
  (r_beyond x w).mono fun e w' ⟨h1, h2⟩ => ⟨by rw [h1]; simp [h], h2.symm⟩
theorem beyond_yes (x : Int) (w : World) (h : ¬ inR x) : Calls Tryz.prog 81 #[I x] w fun e w' => e = .returned (.bool true) ∧ w' = w :=
  (r_beyond x w).mono fun e w' ⟨h1, h2⟩ => ⟨by rw [h1]; simp [h], h2.symm⟩
theorem RS.drewN (h : RS b s lL lK lO W) (k : Nat) : RS b s lL lK lO (W.drewN k) := h.kept (G := fun _ => False) ⟨rfl, rfl, rfl, Nat.le_refl _, fun _ _ _ => rfl⟩ (fun _ _ e => e)
theorem REnds.drewN {k : Nat} (h : REnds b s' lL lK lO (W.drewN k) w') : REnds b s' lL lK lO W w' := by
  obtain ⟨k1, l1, l2, l3, r, f⟩ := h
  exact ⟨Kept.trans' (b := W.drewN k) (show Kept (FR b lL lK lO) W (W.drewN k) from ⟨rfl, rfl, rfl, Nat.le_refl _, fun _ _ _ => rfl⟩) k1, l1, l2, l3, r, f⟩

set_option maxHeartbeats 1000000 in
theorem r_range_low (h : RS b s lL lK lO W) (hn : s.out.length ≤ 1000) (x y : Int)  :
    Calls Tryz.prog 25 #[PB b, CL ⟨#[108, 111, 119]⟩ x y] W fun e w' => e = .returned (.tuple #[]) ∧ REnds b { s with out := s.out ++ [s.low] } lL lK lO W w' := by
  have hA := h.alloc (.cells #[.string ⟨#[108, 111, 119]⟩, I x, I y] 40)
  have hc2 := hA.c2
  have hc3 := hA.c3
  have hc5 := hA.c5
  have hf2 := hA.f 2
  have hf3 := hA.f 3
  have hf5 := hA.f 5
  go_enter Tryz.func25, Tryz.ntmps25
  go_wp2_with (go_at_call 77; refine (r_put hA hn s.low).mono ?_; rintro e w' ⟨rfl, hR⟩)
  first | go_end0 | ((try simp only [Exit.inBlock, Exit.then]); refine bodyPost_ret (results_none rfl _ _ _) rfl ?_)
  exact ⟨rfl, hR.alloc⟩

set_option maxHeartbeats 1000000 in
theorem r_range_high (h : RS b s lL lK lO W) (hn : s.out.length ≤ 1000) (x y : Int)  :
    Calls Tryz.prog 25 #[PB b, CL ⟨#[104, 105, 103, 104]⟩ x y] W fun e w' => e = .returned (.tuple #[]) ∧ REnds b { s with out := s.out ++ [s.high] } lL lK lO W w' := by
  have hA := h.alloc (.cells #[.string ⟨#[104, 105, 103, 104]⟩, I x, I y] 40)
  have hc2 := hA.c2
  have hc3 := hA.c3
  have hc5 := hA.c5
  have hf2 := hA.f 2
  have hf3 := hA.f 3
  have hf5 := hA.f 5
  go_enter Tryz.func25, Tryz.ntmps25
  go_wp2_with (go_at_call 77; refine (r_put hA hn s.high).mono ?_; rintro e w' ⟨rfl, hR⟩)
  first | go_end0 | ((try simp only [Exit.inBlock, Exit.then]); refine bodyPost_ret (results_none rfl _ _ _) rfl ?_)
  exact ⟨rfl, hR.alloc⟩

set_option maxHeartbeats 1000000 in
theorem r_range_span_in (h : RS b s lL lK lO W) (hn : s.out.length ≤ 1000) (x y : Int) (hy : inR y) (h1 : inR (y + 1)) (h2 : ¬ y + 1 < x) :
    Calls Tryz.prog 25 #[PB b, CL ⟨#[115, 112, 97, 110]⟩ x y] W fun e w' => e = .returned (.tuple #[]) ∧ REnds b { s with low := x, high := y } lL lK lO W w' := by
  have hA := h.alloc (.cells #[.string ⟨#[115, 112, 97, 110]⟩, I x, I y] 40)
  have hc2 := hA.c2
  have hc3 := hA.c3
  have hc5 := hA.c5
  have hf2 := hA.f 2
  have hf3 := hA.f 3
  have hf5 := hA.f 5
  have ⟨b1, b2⟩ := hy
  have hq : ((W.alloc (.cells #[.string ⟨#[115, 112, 97, 110]⟩, I x, I y] 40)).setCell ⟨b, 2, none⟩ (I x)).cell? ⟨W.heap.size, 2, none⟩ = some (I y) := by
    rw [cell_set_block _ _ _ _ _ _ (by have := h.lt; omega)]
    unfold World.cell?
    rw [heap_alloc, if_pos rfl]
    rfl
  go_enter Tryz.func25, Tryz.ntmps25
  go_wp2_with (go_at_call 81; refine (beyond_no _ _ h1).mono ?_; rintro e w' ⟨rfl, rfl⟩)
  first | go_end0 | ((try simp only [Exit.inBlock, Exit.then]); refine bodyPost_ret (results_none rfl _ _ _) rfl ?_)
  exact ⟨rfl, ((REnds.of_set (hA.set_low x)).trans fun _ _ _ hR => REnds.of_set (hR.set_high y)).alloc⟩

set_option maxHeartbeats 1000000 in
theorem r_range_span_over (h : RS b s lL lK lO W) (hn : s.out.length ≤ 1000) (x y : Int) (hy : inR y) (h1 : ¬ inR (y + 1)) :
    Calls Tryz.prog 25 #[PB b, CL ⟨#[115, 112, 97, 110]⟩ x y] W fun e w' => e = .returned (.tuple #[]) ∧ REnds b { s with fault := 7 } lL lK lO W w' := by
  have hA := h.alloc (.cells #[.string ⟨#[115, 112, 97, 110]⟩, I x, I y] 40)
  have hc2 := hA.c2
  have hc3 := hA.c3
  have hc5 := hA.c5
  have hf2 := hA.f 2
  have hf3 := hA.f 3
  have hf5 := hA.f 5
  have ⟨b1, b2⟩ := hy
  go_enter Tryz.func25, Tryz.ntmps25
  go_wp2_with (go_at_call 81; refine (beyond_yes _ _ h1).mono ?_; rintro e w' ⟨rfl, rfl⟩)
  first | go_end0 | ((try simp only [Exit.inBlock, Exit.then]); refine bodyPost_ret (results_none rfl _ _ _) rfl ?_)
  exact ⟨rfl, (REnds.of_set (hA.set_fault 7)).alloc⟩

set_option maxHeartbeats 1000000 in
theorem r_range_span_pre (h : RS b s lL lK lO W) (hn : s.out.length ≤ 1000) (x y : Int) (hy : inR y) (h1 : inR (y + 1)) (h2 : y + 1 < x) :
    Calls Tryz.prog 25 #[PB b, CL ⟨#[115, 112, 97, 110]⟩ x y] W fun e w' => e = .returned (.tuple #[]) ∧ REnds b { s with fault := 1 } lL lK lO W w' := by
  have hA := h.alloc (.cells #[.string ⟨#[115, 112, 97, 110]⟩, I x, I y] 40)
  have hc2 := hA.c2
  have hc3 := hA.c3
  have hc5 := hA.c5
  have hf2 := hA.f 2
  have hf3 := hA.f 3
  have hf5 := hA.f 5
  have ⟨b1, b2⟩ := hy
  go_enter Tryz.func25, Tryz.ntmps25
  go_wp2_with (go_at_call 81; refine (beyond_no _ _ h1).mono ?_; rintro e w' ⟨rfl, rfl⟩)
  first | go_end0 | ((try simp only [Exit.inBlock, Exit.then]); refine bodyPost_ret (results_none rfl _ _ _) rfl ?_)
  exact ⟨rfl, (REnds.of_set (hA.set_fault 1)).alloc⟩

set_option maxHeartbeats 1000000 in
theorem r_range_sum_in (h : RS b s lL lK lO W) (hn : s.out.length ≤ 1000) (x y : Int) (hl : inR s.low) (hh : inR s.high) (h1 : inR (s.high - s.low)) (h2 : inR (s.high - s.low + 1)) :
    Calls Tryz.prog 25 #[PB b, CL ⟨#[115, 117, 109]⟩ x y] W fun e w' => e = .returned (.tuple #[]) ∧ REnds b (fin s (totO s.low s.high ((s.high - s.low).toNat + 2) s.low 0)) lL lK lO W w' := by
  have hA := h.alloc (.cells #[.string ⟨#[115, 117, 109]⟩, I x, I y] 40)
  have hc2 := hA.c2
  have hc3 := hA.c3
  have hc5 := hA.c5
  have hf2 := hA.f 2
  have hf3 := hA.f 3
  have hf5 := hA.f 5
  have e1 : IntKind.i64.wrap (s.high - s.low) = s.high - s.low := IntWalk.i64_in _ (by unfold inR at *; omega)
  have e2 : IntKind.i64.wrap (s.high - s.low + 1) = s.high - s.low + 1 := IntWalk.i64_in _ (by unfold inR at *; omega)
  have c1 := fun w => beyond_no (s.high - s.low) w h1
  have c2 := fun w => beyond_no (s.high - s.low + 1) w h2
  go_enter Tryz.func25, Tryz.ntmps25
  go_wp2
  go_quiet ((first
    | (go_at_call 81; with_reducible exact Calls.quiet_of_same (c1 _))
    | (go_at_call 81; with_reducible exact Calls.quiet_of_same (c2 _))))
  have hS := hA.drewN nq
  go_wp2_with (go_at_call 83; refine (r_sum hS hn hl hh).mono ?_; rintro e w' ⟨rfl, hR⟩)
  first | go_end0 | ((try simp only [Exit.inBlock, Exit.then]); refine bodyPost_ret (results_none rfl _ _ _) rfl ?_)
  exact ⟨rfl, hR.drewN.alloc⟩

set_option maxHeartbeats 1000000 in
theorem r_range_sum_over1 (h : RS b s lL lK lO W) (hn : s.out.length ≤ 1000) (x y : Int) (hl : inR s.low) (hh : inR s.high) (h1 : ¬ inR (s.high - s.low)) :
    Calls Tryz.prog 25 #[PB b, CL ⟨#[115, 117, 109]⟩ x y] W fun e w' => e = .returned (.tuple #[]) ∧ REnds b { s with fault := 7 } lL lK lO W w' := by
  have hA := h.alloc (.cells #[.string ⟨#[115, 117, 109]⟩, I x, I y] 40)
  have hc2 := hA.c2
  have hc3 := hA.c3
  have hc5 := hA.c5
  have hf2 := hA.f 2
  have hf3 := hA.f 3
  have hf5 := hA.f 5
  have e1 : IntKind.i64.wrap (s.high - s.low) = s.high - s.low := IntWalk.i64_in _ (by unfold inR at *; omega)
  have c1 := fun w => beyond_yes (s.high - s.low) w h1
  go_enter Tryz.func25, Tryz.ntmps25
  go_wp2
  go_quiet ((go_at_call 81; with_reducible exact Calls.quiet_of_same (c1 _)))
  have hS := hA.drewN nq
  go_wp2
  first | go_end0 | ((try simp only [Exit.inBlock, Exit.then]); refine bodyPost_ret (results_none rfl _ _ _) rfl ?_)
  exact ⟨rfl, (REnds.of_set (hS.set_fault 7)).drewN.alloc⟩

set_option maxHeartbeats 1000000 in
theorem r_range_sum_over2 (h : RS b s lL lK lO W) (hn : s.out.length ≤ 1000) (x y : Int) (hl : inR s.low) (hh : inR s.high) (h1 : inR (s.high - s.low)) (h2 : ¬ inR (s.high - s.low + 1)) :
    Calls Tryz.prog 25 #[PB b, CL ⟨#[115, 117, 109]⟩ x y] W fun e w' => e = .returned (.tuple #[]) ∧ REnds b { s with fault := 7 } lL lK lO W w' := by
  have hA := h.alloc (.cells #[.string ⟨#[115, 117, 109]⟩, I x, I y] 40)
  have hc2 := hA.c2
  have hc3 := hA.c3
  have hc5 := hA.c5
  have hf2 := hA.f 2
  have hf3 := hA.f 3
  have hf5 := hA.f 5
  have e1 : IntKind.i64.wrap (s.high - s.low) = s.high - s.low := IntWalk.i64_in _ (by unfold inR at *; omega)
  have e2 : IntKind.i64.wrap (s.high - s.low + 1) = s.high - s.low + 1 := IntWalk.i64_in _ (by unfold inR at *; omega)
  have c1 := fun w => beyond_no (s.high - s.low) w h1
  have c2 := fun w => beyond_yes (s.high - s.low + 1) w h2
  go_enter Tryz.func25, Tryz.ntmps25
  go_wp2
  go_quiet ((first
    | (go_at_call 81; with_reducible exact Calls.quiet_of_same (c1 _))
    | (go_at_call 81; with_reducible exact Calls.quiet_of_same (c2 _))))
  have hS := hA.drewN nq
  go_wp2
  first | go_end0 | ((try simp only [Exit.inBlock, Exit.then]); refine bodyPost_ret (results_none rfl _ _ _) rfl ?_)
  exact ⟨rfl, (REnds.of_set (hS.set_fault 7)).drewN.alloc⟩
end Go.Proofs.Bm

namespace Go.Proofs.Bm
open Go.RowKit Go.Maps
variable {b : Nat} {s s' : RSt} {lL lK lO : Option Nat} {W w' : World}

set_option maxHeartbeats 2000000 in
theorem r_stack_count (h : RS b s lL lK lO W) (hn : s.out.length ≤ 1000) (x y : Int)  :
    Calls Tryz.prog 20 #[PB b, CL ⟨#[99, 111, 117, 110, 116]⟩ x y] W fun e w' => e = .returned (.tuple #[]) ∧ REnds b { s with out := s.out ++ [(s.L.length : Int)] } lL lK lO W w' := by
  have hA := h.alloc (.cells #[.string ⟨#[99, 111, 117, 110, 116]⟩, I x, I y] 40)
  have hc5 := hA.c5
  have hf5 := hA.f 5
  have hf0 := hA.f 0
  obtain ⟨lv, hc0, ho⟩ := hA.c0
  obtain ⟨a0, cap0, rfl, _⟩ := ho.form
  go_enter Tryz.func20, Tryz.ntmps20
  go_wp2_with (go_at_call 77; refine (r_put hA hn (s.L.length)).mono ?_; rintro e w' ⟨rfl, hR⟩)
  first | go_end0 | ((try simp only [Exit.inBlock, Exit.then]); refine bodyPost_ret (results_none rfl _ _ _) rfl ?_)
  exact ⟨rfl, hR.alloc⟩

set_option maxHeartbeats 2000000 in
theorem r_stack_push_neg (h : RS b s lL lK lO W) (hn : s.out.length ≤ 1000) (x y : Int) (hx : x < 0) :
    Calls Tryz.prog 20 #[PB b, CL ⟨#[112, 117, 115, 104]⟩ x y] W fun e w' => e = .returned (.tuple #[]) ∧ REnds b { s with fault := 1 } lL lK lO W w' := by
  have hA := h.alloc (.cells #[.string ⟨#[112, 117, 115, 104]⟩, I x, I y] 40)
  have hc5 := hA.c5
  have hf5 := hA.f 5
  have hf0 := hA.f 0
  obtain ⟨lv, hc0, ho⟩ := hA.c0
  obtain ⟨a0, cap0, rfl, _⟩ := ho.form
  go_enter Tryz.func20, Tryz.ntmps20
  go_wp2
  first | go_end0 | ((try simp only [Exit.inBlock, Exit.then]); refine bodyPost_ret (results_none rfl _ _ _) rfl ?_)
  exact ⟨rfl, (REnds.of_set (hA.set_fault 1)).alloc⟩

set_option maxHeartbeats 2000000 in
theorem r_stack_pop_nil (h : RS b s lL lK lO W) (hn : s.out.length ≤ 1000) (x y : Int) (hL : s.L = []) :
    Calls Tryz.prog 20 #[PB b, CL ⟨#[112, 111, 112]⟩ x y] W fun e w' => e = .returned (.tuple #[]) ∧ REnds b { s with fault := 1 } lL lK lO W w' := by
  have hA := h.alloc (.cells #[.string ⟨#[112, 111, 112]⟩, I x, I y] 40)
  have hc5 := hA.c5
  have hf5 := hA.f 5
  have hf0 := hA.f 0
  obtain ⟨lv, hc0, ho⟩ := hA.c0
  obtain ⟨a0, cap0, rfl, _⟩ := ho.form
  rw [hL] at hc0
  go_enter Tryz.func20, Tryz.ntmps20
  go_wp2
  first | go_end0 | ((try simp only [Exit.inBlock, Exit.then]); refine bodyPost_ret (results_none rfl _ _ _) rfl ?_)
  exact ⟨rfl, (REnds.of_set (hA.set_fault 1)).alloc⟩

set_option maxHeartbeats 2000000 in
theorem r_stack_peek_nil (h : RS b s lL lK lO W) (hn : s.out.length ≤ 1000) (x y : Int) (hL : s.L = []) :
    Calls Tryz.prog 20 #[PB b, CL ⟨#[112, 101, 101, 107]⟩ x y] W fun e w' => e = .returned (.tuple #[]) ∧ REnds b { s with out := s.out ++ [0] } lL lK lO W w' := by
  have hA := h.alloc (.cells #[.string ⟨#[112, 101, 101, 107]⟩, I x, I y] 40)
  have hc5 := hA.c5
  have hf5 := hA.f 5
  have hf0 := hA.f 0
  obtain ⟨lv, hc0, ho⟩ := hA.c0
  obtain ⟨a0, cap0, rfl, _⟩ := ho.form
  rw [hL] at hc0
  go_enter Tryz.func20, Tryz.ntmps20
  go_wp2_with (go_at_call 77; refine (r_put hA hn (0)).mono ?_; rintro e w' ⟨rfl, hR⟩)
  first | go_end0 | ((try simp only [Exit.inBlock, Exit.then]); refine bodyPost_ret (results_none rfl _ _ _) rfl ?_)
  exact ⟨rfl, hR.alloc⟩

set_option maxHeartbeats 2000000 in
theorem r_stack_peek (h : RS b s lL lK lO W) (hn : s.out.length ≤ 1000) (x y : Int) (r : List Int) (z : Int) (hL : s.L = r ++ [z]) :
    Calls Tryz.prog 20 #[PB b, CL ⟨#[112, 101, 101, 107]⟩ x y] W fun e w' => e = .returned (.tuple #[]) ∧ REnds b { s with out := s.out ++ [z] } lL lK lO W w' := by
  have hA := h.alloc (.cells #[.string ⟨#[112, 101, 101, 107]⟩, I x, I y] 40)
  have hc5 := hA.c5
  have hf5 := hA.f 5
  have hf0 := hA.f 0
  obtain ⟨lv, hc0, ho⟩ := hA.c0
  rcases ho.cases with ⟨_, _, h0⟩ | ⟨bb, off, cap, rfl, rfl⟩
  · rw [h0] at hL; simp at hL
  have hz := ho.cell (j := r.length) (x := z) (by simp [hL])
  have hl : s.L.length = r.length + 1 := by simp [hL]
  rw [hl] at hc0
  have h3 := ho.row.2.2.2.1
  have h2 := ho.row.2.2.1
  simp only [maxLen] at h3
  have hnz : ¬ (r.length : Int) + 1 = 0 := by omega
  go_enter Tryz.func20, Tryz.ntmps20
  go_wp2_with (go_at_call 77; refine (r_put hA hn (z)).mono ?_; rintro e w' ⟨rfl, hR⟩)
  first | go_end0 | ((try simp only [Exit.inBlock, Exit.then]); refine bodyPost_ret (results_none rfl _ _ _) rfl ?_)
  exact ⟨rfl, hR.alloc⟩

set_option maxHeartbeats 2000000 in
theorem r_stack_pop (h : RS b s lL lK lO W) (hn : s.out.length ≤ 1000) (x y : Int) (r : List Int) (z : Int) (hL : s.L = r ++ [z]) :
    Calls Tryz.prog 20 #[PB b, CL ⟨#[112, 111, 112]⟩ x y] W fun e w' => e = .returned (.tuple #[]) ∧ REnds b { s with L := r } lL lK lO W w' := by
  have hA := h.alloc (.cells #[.string ⟨#[112, 111, 112]⟩, I x, I y] 40)
  have hc5 := hA.c5
  have hf5 := hA.f 5
  have hf0 := hA.f 0
  obtain ⟨lv, hc0, ho⟩ := hA.c0
  rcases ho.cases with ⟨_, _, h0⟩ | ⟨bb, off, cap, rfl, rfl⟩
  · rw [h0] at hL; simp at hL
  have hl : s.L.length = r.length + 1 := by simp [hL]
  obtain ⟨_, _, h2, h3, cur, g1, g2, g3⟩ := ho.row
  have hon := OwnI.of_row (xs := r) (off := off) (cap := cap) g1 (by omega) h3 g2 (fun j u hj => g3 j u (by rw [hL, List.getElem?_append_left (List.getElem?_eq_some_iff.1 hj).1]; exact hj))
  rw [hl] at hc0
  simp only [maxLen] at h3
  have hnz : ¬ (r.length : Int) + 1 = 0 := by omega
  have hle : (r.length : Int) ≤ (cap : Int) := by omega
  go_enter Tryz.func20, Tryz.ntmps20
  go_wp2
  first | go_end0 | ((try simp only [Exit.inBlock, Exit.then]); refine bodyPost_ret (results_none rfl _ _ _) rfl ?_)
  exact ⟨rfl, (hA.set_L (Kept.refl _ _) hon (.inl rfl)).alloc⟩

set_option maxHeartbeats 2000000 in
theorem r_queue_count_nil (h : RS b s lL lK lO W) (hn : s.out.length ≤ 1000) (x y : Int) (hL : s.L = []) :
    Calls Tryz.prog 21 #[PB b, CL ⟨#[99, 111, 117, 110, 116]⟩ x y] W fun e w' => e = .returned (.tuple #[]) ∧ REnds b { s with out := s.out ++ [0] } lL lK lO W w' := by
  have hA := h.alloc (.cells #[.string ⟨#[99, 111, 117, 110, 116]⟩, I x, I y] 40)
  have hc5 := hA.c5
  have hf5 := hA.f 5
  have hf0 := hA.f 0
  obtain ⟨lv, hc0, ho⟩ := hA.c0
  obtain ⟨a0, cap0, rfl, _⟩ := ho.form
  rw [hL] at hc0
  go_enter Tryz.func21, Tryz.ntmps21
  go_wp2_with (go_at_call 77; refine (r_put hA hn (0)).mono ?_; rintro e w' ⟨rfl, hR⟩)
  first | go_end0 | ((try simp only [Exit.inBlock, Exit.then]); refine bodyPost_ret (results_none rfl _ _ _) rfl ?_)
  exact ⟨rfl, hR.alloc⟩

set_option maxHeartbeats 2000000 in
theorem r_queue_count (h : RS b s lL lK lO W) (hn : s.out.length ≤ 1000) (x y : Int) (r : List Int) (z : Int) (hL : s.L = z :: r) :
    Calls Tryz.prog 21 #[PB b, CL ⟨#[99, 111, 117, 110, 116]⟩ x y] W fun e w' => e = .returned (.tuple #[]) ∧ REnds b { s with out := s.out ++ [(r.length : Int) + 1] } lL lK lO W w' := by
  have hA := h.alloc (.cells #[.string ⟨#[99, 111, 117, 110, 116]⟩, I x, I y] 40)
  have hc5 := hA.c5
  have hf5 := hA.f 5
  have hf0 := hA.f 0
  obtain ⟨lv, hc0, ho⟩ := hA.c0
  obtain ⟨a0, cap0, rfl, _⟩ := ho.form
  have hl : s.L.length = r.length + 1 := by simp [hL]
  rw [hl] at hc0
  have hnz : ¬ (r.length : Int) + 1 = 0 := by omega
  go_enter Tryz.func21, Tryz.ntmps21
  go_wp2_with (go_at_call 77; refine (r_put hA hn ((r.length : Int) + 1)).mono ?_; rintro e w' ⟨rfl, hR⟩)
  first | go_end0 | ((try simp only [Exit.inBlock, Exit.then]); refine bodyPost_ret (results_none rfl _ _ _) rfl ?_)
  exact ⟨rfl, hR.alloc⟩

set_option maxHeartbeats 2000000 in
theorem r_queue_leave_nil (h : RS b s lL lK lO W) (hn : s.out.length ≤ 1000) (x y : Int) (hL : s.L = []) :
    Calls Tryz.prog 21 #[PB b, CL ⟨#[108, 101, 97, 118, 101]⟩ x y] W fun e w' => e = .returned (.tuple #[]) ∧ REnds b { s with fault := 1 } lL lK lO W w' := by
  have hA := h.alloc (.cells #[.string ⟨#[108, 101, 97, 118, 101]⟩, I x, I y] 40)
  have hc5 := hA.c5
  have hf5 := hA.f 5
  have hf0 := hA.f 0
  obtain ⟨lv, hc0, ho⟩ := hA.c0
  obtain ⟨a0, cap0, rfl, _⟩ := ho.form
  rw [hL] at hc0
  go_enter Tryz.func21, Tryz.ntmps21
  go_wp2
  first | go_end0 | ((try simp only [Exit.inBlock, Exit.then]); refine bodyPost_ret (results_none rfl _ _ _) rfl ?_)
  exact ⟨rfl, (REnds.of_set (hA.set_fault 1)).alloc⟩

set_option maxHeartbeats 2000000 in
theorem r_queue_front_nil (h : RS b s lL lK lO W) (hn : s.out.length ≤ 1000) (x y : Int) (hL : s.L = []) :
    Calls Tryz.prog 21 #[PB b, CL ⟨#[102, 114, 111, 110, 116]⟩ x y] W fun e w' => e = .returned (.tuple #[]) ∧ REnds b { s with fault := 1 } lL lK lO W w' := by
  have hA := h.alloc (.cells #[.string ⟨#[102, 114, 111, 110, 116]⟩, I x, I y] 40)
  have hc5 := hA.c5
  have hf5 := hA.f 5
  have hf0 := hA.f 0
  obtain ⟨lv, hc0, ho⟩ := hA.c0
  obtain ⟨a0, cap0, rfl, _⟩ := ho.form
  rw [hL] at hc0
  go_enter Tryz.func21, Tryz.ntmps21
  go_wp2
  first | go_end0 | ((try simp only [Exit.inBlock, Exit.then]); refine bodyPost_ret (results_none rfl _ _ _) rfl ?_)
  exact ⟨rfl, (REnds.of_set (hA.set_fault 1)).alloc⟩

set_option maxHeartbeats 2000000 in
theorem r_queue_front (h : RS b s lL lK lO W) (hn : s.out.length ≤ 1000) (x y : Int) (r : List Int) (z : Int) (hL : s.L = z :: r) :
    Calls Tryz.prog 21 #[PB b, CL ⟨#[102, 114, 111, 110, 116]⟩ x y] W fun e w' => e = .returned (.tuple #[]) ∧ REnds b { s with out := s.out ++ [z] } lL lK lO W w' := by
  have hA := h.alloc (.cells #[.string ⟨#[102, 114, 111, 110, 116]⟩, I x, I y] 40)
  have hc5 := hA.c5
  have hf5 := hA.f 5
  have hf0 := hA.f 0
  obtain ⟨lv, hc0, ho⟩ := hA.c0
  rcases ho.cases with ⟨_, _, h0⟩ | ⟨bb, off, cap, rfl, rfl⟩
  · rw [h0] at hL; simp at hL
  have hz := ho.cell (j := 0) (x := z) (by simp [hL])
  rw [Nat.add_zero] at hz
  have hl : s.L.length = r.length + 1 := by simp [hL]
  rw [hl] at hc0
  have hnz : ¬ (r.length : Int) + 1 = 0 := by omega
  go_enter Tryz.func21, Tryz.ntmps21
  go_wp2_with (go_at_call 77; refine (r_put hA hn (z)).mono ?_; rintro e w' ⟨rfl, hR⟩)
  first | go_end0 | ((try simp only [Exit.inBlock, Exit.then]); refine bodyPost_ret (results_none rfl _ _ _) rfl ?_)
  exact ⟨rfl, hR.alloc⟩

set_option maxHeartbeats 2000000 in
theorem r_queue_leave (h : RS b s lL lK lO W) (hn : s.out.length ≤ 1000) (x y : Int) (r : List Int) (z : Int) (hL : s.L = z :: r) :
    Calls Tryz.prog 21 #[PB b, CL ⟨#[108, 101, 97, 118, 101]⟩ x y] W fun e w' => e = .returned (.tuple #[]) ∧ REnds b { s with L := r } lL lK lO W w' := by
  have hA := h.alloc (.cells #[.string ⟨#[108, 101, 97, 118, 101]⟩, I x, I y] 40)
  have hc5 := hA.c5
  have hf5 := hA.f 5
  have hf0 := hA.f 0
  obtain ⟨lv, hc0, ho⟩ := hA.c0
  rcases ho.cases with ⟨_, _, h0⟩ | ⟨bb, off, cap, rfl, rfl⟩
  · rw [h0] at hL; simp at hL
  have hl : s.L.length = r.length + 1 := by simp [hL]
  obtain ⟨_, _, h2, h3, cur, g1, g2, g3⟩ := ho.row
  rw [hl] at hc0
  have h3' := h3
  simp only [maxLen] at h3'
  have hnz : ¬ (r.length : Int) + 1 = 0 := by omega
  go_enter Tryz.func21, Tryz.ntmps21
  go_wp2
  · first | go_end0 | ((try simp only [Exit.inBlock, Exit.then]); refine bodyPost_ret (results_none rfl _ _ _) rfl ?_)
    obtain rfl : r = [] := List.eq_nil_of_length_eq_zero (by omega)
    have hon := OwnI.of_row (xs := []) (off := off) (cap := 0) g1 (by simp) (by omega) (by omega) (by simp)
    exact ⟨rfl, (hA.set_L (Kept.refl _ _) hon (.inl rfl)).alloc⟩
  · first | go_end0 | ((try simp only [Exit.inBlock, Exit.then]); refine bodyPost_ret (results_none rfl _ _ _) rfl ?_)
    have hon := OwnI.of_row (xs := r) (off := off + 1) (cap := cap - 1) g1 (by omega) (by simp only [maxLen]; omega) (by omega) (fun j u hj => by
      have := g3 (j + 1) u (by rw [hL]; simpa using hj)
      rwa [show off + 1 + j = off + (j + 1) by omega])
    exact ⟨rfl, (hA.set_L (Kept.refl _ _) hon (.inl rfl)).alloc⟩
end Go.Proofs.Bm
