/- The reference's RANGE: size and contains. No condition but the state's. -/
import Derived.Test.YtipdlkncacjahaaGreatDoorBRRa
import Derived.Deep.LoopGhost
set_option linter.unusedSimpArgs false
set_option linter.unusedVariables false
namespace Go.Proofs.Bm
open Go.RowKit Go.Maps
variable {b : Nat} {s s' : RSt} {lL lK lO : Option Nat} {W w' : World}

theorem REnds.drew (h : REnds b s' lL lK lO W.drew w') : REnds b s' lL lK lO W w' := by
  obtain ⟨k, l1, l2, l3, r, f⟩ := h
  exact ⟨Kept.trans' (b := W.drew) (Kept.refl _ W).drew k, l1, l2, l3, r, f⟩

set_option maxHeartbeats 2000000 in
theorem r_range_size_over1 (h : RS b s lL lK lO W) (hn : s.out.length ≤ 1000) (x y : Int) (hl : inR s.low) (hh : inR s.high) (h1 : ¬ inR (s.high - s.low)) :
    Calls Tryz.prog 25 #[PB b, CL ⟨#[115, 105, 122, 101]⟩ x y] W fun e w' => e = .returned (.tuple #[]) ∧ REnds b { s with fault := 7 } lL lK lO W w' := by
  have hA := h.alloc (.cells #[.string ⟨#[115, 105, 122, 101]⟩, I x, I y] 40)
  have hc2 := hA.c2
  have hc3 := hA.c3
  have hc5 := hA.c5
  have hf5 := hA.f 5
  have e1 : IntKind.i64.wrap (s.high - s.low) = s.high - s.low := IntWalk.i64_in _ (by unfold inR at *; omega)
  have c1 := fun w => beyond_yes (s.high - s.low) w h1
  have c2 := fun w => beyond_no 0 w (by simp [inR])
  go_enter Tryz.func25, Tryz.ntmps25
  go_wp2
  go_quiet ((first
    | (go_at_call 81; with_reducible exact Calls.quiet_of_same (c1 _))
    | (go_at_call 81; with_reducible exact Calls.quiet_of_same (c2 _))))
  have hS := hA.drewN nq
  go_wp2
  first | go_end0 | ((try simp only [Exit.inBlock, Exit.then]); refine bodyPost_ret (results_none rfl _ _ _) rfl ?_)
  exact ⟨rfl, (REnds.of_set (hS.set_fault 7)).drewN.alloc⟩

set_option maxHeartbeats 2000000 in
theorem r_range_size_over2 (h : RS b s lL lK lO W) (hn : s.out.length ≤ 1000) (x y : Int) (hl : inR s.low) (hh : inR s.high) (h1 : inR (s.high - s.low)) (h2 : ¬ inR (s.high - s.low + 1)) :
    Calls Tryz.prog 25 #[PB b, CL ⟨#[115, 105, 122, 101]⟩ x y] W fun e w' => e = .returned (.tuple #[]) ∧ REnds b { s with fault := 7 } lL lK lO W w' := by
  have hA := h.alloc (.cells #[.string ⟨#[115, 105, 122, 101]⟩, I x, I y] 40)
  have hc2 := hA.c2
  have hc3 := hA.c3
  have hc5 := hA.c5
  have hf5 := hA.f 5
  have e1 : IntKind.i64.wrap (s.high - s.low) = s.high - s.low := IntWalk.i64_in _ (by unfold inR at *; omega)
  have e2 : IntKind.i64.wrap (s.high - s.low + 1) = s.high - s.low + 1 := IntWalk.i64_in _ (by unfold inR at *; omega)
  have c1 := fun w => beyond_no (s.high - s.low) w h1
  have c2 := fun w => beyond_yes (s.high - s.low + 1) w h2
  go_enter Tryz.func25, Tryz.ntmps25
  go_wp2
  go_quiet ((first
    | (go_at_call 81; with_reducible exact Calls.quiet_of_same (c1 _))
    | (go_at_call 81; with_reducible exact Calls.quiet_of_same (c2 _))))
  have hS := hA.drewN nq
  go_wp2
  first | go_end0 | ((try simp only [Exit.inBlock, Exit.then]); refine bodyPost_ret (results_none rfl _ _ _) rfl ?_)
  exact ⟨rfl, (REnds.of_set (hS.set_fault 7)).drewN.alloc⟩

set_option maxHeartbeats 2000000 in
theorem r_range_size_in (h : RS b s lL lK lO W) (hn : s.out.length ≤ 1000) (x y : Int) (hl : inR s.low) (hh : inR s.high) (h1 : inR (s.high - s.low)) (h2 : inR (s.high - s.low + 1)) :
    Calls Tryz.prog 25 #[PB b, CL ⟨#[115, 105, 122, 101]⟩ x y] W fun e w' => e = .returned (.tuple #[]) ∧ REnds b { s with out := s.out ++ [s.high - s.low + 1] } lL lK lO W w' := by
  have hA := h.alloc (.cells #[.string ⟨#[115, 105, 122, 101]⟩, I x, I y] 40)
  have hc2 := hA.c2
  have hc3 := hA.c3
  have hc5 := hA.c5
  have hf5 := hA.f 5
  have e1 : IntKind.i64.wrap (s.high - s.low) = s.high - s.low := IntWalk.i64_in _ (by unfold inR at *; omega)
  have e2 : IntKind.i64.wrap (s.high - s.low + 1) = s.high - s.low + 1 := IntWalk.i64_in _ (by unfold inR at *; omega)
  have c1 := fun w => beyond_no (s.high - s.low) w h1
  have c2 := fun w => beyond_no (s.high - s.low + 1) w h2
  go_enter Tryz.func25, Tryz.ntmps25
  go_wp2
  go_quiet ((first
    | (go_at_call 81; with_reducible exact Calls.quiet_of_same (c1 _))
    | (go_at_call 81; with_reducible exact Calls.quiet_of_same (c2 _))))
  have hS := hA.drewN nq
  go_wp2
  refine wp_region_held_drew (S := (fun V => V.cell? ⟨b, 2, none⟩ = some (I s.low) ∧ V.cell? ⟨b, 3, none⟩ = some (I s.high))) (by kernel_rfl) ⟨hc2, hc3⟩ (fun hHeld => ?_)
  refine wpAnyH_take (i := 0) (oi := _) (v := ?_) rfl (by kernel_rfl) (by kernel_rfl) (by kernel_rfl) (fun _ _ _ h => h) (Or.inl ⟨by rfl, ?_⟩) (by with_reducible assumption) ?_
  rotate_left
  · (intro V hSw; obtain ⟨s1, s2⟩ := hSw; go_simp); with_reducible rfl
  try simp only [Act.put, List.setIfInBounds_toArray, List.set_cons_zero, List.set_cons_succ, e1, e2]
  refine wpAnyH_take (i := 1) (oi := _) (v := ?_) rfl (by kernel_rfl) (by kernel_rfl) (by kernel_rfl) (fun _ _ _ h => h) (Or.inl ⟨by rfl, ?_⟩) (by with_reducible assumption) ?_
  rotate_left
  · (intro V hSw; obtain ⟨s1, s2⟩ := hSw; go_simp); with_reducible rfl
  try simp only [Act.put, List.setIfInBounds_toArray, List.set_cons_zero, List.set_cons_succ, e1, e2]
  refine wpAnyH_take (i := 2) (oi := _) (v := ?_) rfl (by kernel_rfl) (by kernel_rfl) (by kernel_rfl) (fun _ _ _ h => h) (Or.inl ⟨by rfl, ?_⟩) (by with_reducible assumption) ?_
  rotate_left
  · (intro V hSw; obtain ⟨s1, s2⟩ := hSw; go_simp); with_reducible rfl
  try simp only [Act.put, List.setIfInBounds_toArray, List.set_cons_zero, List.set_cons_succ, e1, e2]
  refine wpAnyH_take (i := 3) (oi := _) (v := ?_) rfl (by kernel_rfl) (by kernel_rfl) (by kernel_rfl) (fun _ _ _ h => h) (Or.inl ⟨by rfl, ?_⟩) (by with_reducible assumption) ?_
  rotate_left
  · (intro V hSw; obtain ⟨s1, s2⟩ := hSw; go_simp); with_reducible rfl
  try simp only [Act.put, List.setIfInBounds_toArray, List.set_cons_zero, List.set_cons_succ, e1, e2]
  refine wpAnyH_take (i := 4) (oi := _) (v := ?_) rfl (by kernel_rfl) (by kernel_rfl) (by kernel_rfl) (fun _ _ _ h => h) (Or.inl ⟨by rfl, ?_⟩) (by with_reducible assumption) ?_
  rotate_left
  · (intro V hSw; obtain ⟨s1, s2⟩ := hSw; go_simp); with_reducible rfl
  try simp only [Act.put, List.setIfInBounds_toArray, List.set_cons_zero, List.set_cons_succ, e1, e2]
  refine wpAnyH_take (i := 5) (oi := _) (v := ?_) rfl (by kernel_rfl) (by kernel_rfl) (by kernel_rfl) (fun _ _ _ h => h) (Or.inl ⟨by rfl, ?_⟩) (by with_reducible assumption) ?_
  rotate_left
  · (intro V hSw; obtain ⟨s1, s2⟩ := hSw; go_simp); with_reducible rfl
  try simp only [Act.put, List.setIfInBounds_toArray, List.set_cons_zero, List.set_cons_succ, e1, e2]
  refine wpAnyH_take (i := 6) (oi := _) (v := ?_) rfl (by kernel_rfl) (by kernel_rfl) (by kernel_rfl) (fun _ _ _ h => h) (Or.inl ⟨by rfl, ?_⟩) (by with_reducible assumption) ?_
  rotate_left
  · (intro V hSw; obtain ⟨s1, s2⟩ := hSw; go_simp); with_reducible rfl
  try simp only [Act.put, List.setIfInBounds_toArray, List.set_cons_zero, List.set_cons_succ, e1, e2]
  refine wpAnyH_take (i := 7) (oi := _) (v := ?_) rfl (by kernel_rfl) (by kernel_rfl) (by kernel_rfl) (fun _ _ _ h => h) (Or.inl ⟨by rfl, ?_⟩) (by with_reducible assumption) ?_
  rotate_left
  · (intro V hSw; obtain ⟨s1, s2⟩ := hSw; go_simp); with_reducible rfl
  try simp only [Act.put, List.setIfInBounds_toArray, List.set_cons_zero, List.set_cons_succ, e1, e2]
  refine wpAnyH_take (i := 8) (oi := _) (v := ?_) rfl (by kernel_rfl) (by kernel_rfl) (by kernel_rfl) (fun _ _ _ h => h) (Or.inl ⟨by rfl, ?_⟩) (by with_reducible assumption) ?_
  rotate_left
  · (intro V hSw; obtain ⟨s1, s2⟩ := hSw; go_simp); with_reducible rfl
  try simp only [Act.put, List.setIfInBounds_toArray, List.set_cons_zero, List.set_cons_succ, e1, e2]
  refine wpAnyH_take (i := 9) (oi := _) (v := ?_) rfl (by kernel_rfl) (by kernel_rfl) (by kernel_rfl) (fun _ _ _ h => h) (Or.inl ⟨by rfl, ?_⟩) (by with_reducible assumption) ?_
  rotate_left
  · (intro V hSw; obtain ⟨s1, s2⟩ := hSw; go_simp); with_reducible rfl
  try simp only [Act.put, List.setIfInBounds_toArray, List.set_cons_zero, List.set_cons_succ, e1, e2]
  refine wpAnyH_take (i := 10) (oi := _) (v := ?_) rfl (by kernel_rfl) (by kernel_rfl) (by kernel_rfl) (fun _ _ _ h => h) (Or.inl ⟨by rfl, ?_⟩) (by with_reducible assumption) ?_
  rotate_left
  · (intro V hSw; obtain ⟨s1, s2⟩ := hSw; go_simp); with_reducible rfl
  try simp only [Act.put, List.setIfInBounds_toArray, List.set_cons_zero, List.set_cons_succ, e1, e2]
  refine wpAnyH_ready (rs := [11]) (by kernel_rfl) (by simp) ?_
  refine AllReadyH.cons (o := _) rfl (fun K hK => ?_) AllReadyH.nil
  go_simp
  refine (r_put hS.drew hn (s.high - s.low + 1)).mono ?_
  rintro e w' ⟨rfl, hR⟩
  have hR2 := hR
  obtain ⟨_, _, _, _, hr, _⟩ := hR2
  dsimp only
  refine hK.out _ _ ⟨hr.c2, hr.c3⟩ (fun hHeld => ?_)
  clear hK K
  try simp only [Act.put, List.setIfInBounds_toArray, List.set_cons_zero, List.set_cons_succ]
  refine wpAnyH_done (by kernel_rfl) ?_ _
  go_wp2
  first | go_end0 | ((try simp only [Exit.inBlock, Exit.then]); refine bodyPost_ret (results_none rfl _ _ _) rfl ?_)
  exact ⟨rfl, (REnds.drewN (k := nq) hR.drew).alloc⟩

set_option maxHeartbeats 2000000 in
theorem r_range_contains (h : RS b s lL lK lO W) (hn : s.out.length ≤ 1000) (x y : Int)  :
    Calls Tryz.prog 25 #[PB b, CL ⟨#[99, 111, 110, 116, 97, 105, 110, 115]⟩ x y] W fun e w' => e = .returned (.tuple #[]) ∧ REnds b { s with out := s.out ++ [bi (decide (s.low ≤ x ∧ x ≤ s.high))] } lL lK lO W w' := by
  have hA := h.alloc (.cells #[.string ⟨#[99, 111, 110, 116, 97, 105, 110, 115]⟩, I x, I y] 40)
  have hc2 := hA.c2
  have hc3 := hA.c3
  have hc5 := hA.c5
  have hf5 := hA.f 5
  have hx : (W.alloc (.cells #[.string ⟨#[99, 111, 110, 116, 97, 105, 110, 115]⟩, I x, I y] 40)).cell? ⟨W.heap.size, 1, none⟩ = some (I x) := by
    unfold World.cell?
    rw [heap_alloc, if_pos rfl]
    rfl
  have hFR : ¬ FR b lL lK lO W.heap.size := by
    rintro (e | e | e | e)
    · have := h.lt; omega
    · obtain ⟨v, _, ho⟩ := h.c0; have := ho.lt _ e; omega
    · obtain ⟨v, _, ho⟩ := h.c1; have := ho.lt _ e; omega
    · obtain ⟨v, _, ho⟩ := h.c4; have := ho.lt _ e; omega
  go_enter Tryz.func25, Tryz.ntmps25
  go_wp2
  refine wp_region_held_drew (S := (fun V => V.cell? ⟨b, 2, none⟩ = some (I s.low) ∧ V.cell? ⟨b, 3, none⟩ = some (I s.high) ∧ V.cell? ⟨W.heap.size, 1, none⟩ = some (I x))) (by kernel_rfl) ⟨hc2, hc3, hx⟩ (fun hHeld => ?_)
  refine wpAnyH_take (i := 0) (oi := _) (v := ?_) rfl (by kernel_rfl) (by kernel_rfl) (by kernel_rfl) (fun _ _ _ h => h) (Or.inl ⟨by rfl, ?_⟩) (by with_reducible assumption) ?_
  rotate_left
  · (intro V hSw; obtain ⟨s1, s2, s3⟩ := hSw; go_simp); with_reducible rfl
  try simp only [Act.put, List.setIfInBounds_toArray, List.set_cons_zero, List.set_cons_succ]
  refine wpAnyH_take (i := 1) (oi := _) (v := ?_) rfl (by kernel_rfl) (by kernel_rfl) (by kernel_rfl) (fun _ _ _ h => h) (Or.inl ⟨by rfl, ?_⟩) (by with_reducible assumption) ?_
  rotate_left
  · (intro V hSw; obtain ⟨s1, s2, s3⟩ := hSw; go_simp); with_reducible rfl
  try simp only [Act.put, List.setIfInBounds_toArray, List.set_cons_zero, List.set_cons_succ]
  refine wpAnyH_take (i := 2) (oi := _) (v := ?_) rfl (by kernel_rfl) (by kernel_rfl) (by kernel_rfl) (fun _ _ _ h => h) (Or.inl ⟨by rfl, ?_⟩) (by with_reducible assumption) ?_
  rotate_left
  · (intro V hSw; obtain ⟨s1, s2, s3⟩ := hSw; go_simp); with_reducible rfl
  try simp only [Act.put, List.setIfInBounds_toArray, List.set_cons_zero, List.set_cons_succ]
  refine wpAnyH_take (i := 3) (oi := _) (v := ?_) rfl (by kernel_rfl) (by kernel_rfl) (by kernel_rfl) (fun _ _ _ h => h) (Or.inl ⟨by rfl, ?_⟩) (by with_reducible assumption) ?_
  rotate_left
  · (intro V hSw; obtain ⟨s1, s2, s3⟩ := hSw; go_simp); with_reducible rfl
  try simp only [Act.put, List.setIfInBounds_toArray, List.set_cons_zero, List.set_cons_succ]
  refine wpAnyH_take (i := 4) (oi := _) (v := ?_) rfl (by kernel_rfl) (by kernel_rfl) (by kernel_rfl) (fun _ _ _ h => h) (Or.inl ⟨by rfl, ?_⟩) (by with_reducible assumption) ?_
  rotate_left
  · (intro V hSw; obtain ⟨s1, s2, s3⟩ := hSw; go_simp); with_reducible rfl
  try simp only [Act.put, List.setIfInBounds_toArray, List.set_cons_zero, List.set_cons_succ]
  refine wpAnyH_take (i := 5) (oi := _) (v := ?_) rfl (by kernel_rfl) (by kernel_rfl) (by kernel_rfl) (fun _ _ _ h => h) (Or.inl ⟨by rfl, ?_⟩) (by with_reducible assumption) ?_
  rotate_left
  · (intro V hSw; obtain ⟨s1, s2, s3⟩ := hSw; go_simp); with_reducible rfl
  try simp only [Act.put, List.setIfInBounds_toArray, List.set_cons_zero, List.set_cons_succ]
  refine wpAnyH_take (i := 6) (oi := _) (v := ?_) rfl (by kernel_rfl) (by kernel_rfl) (by kernel_rfl) (fun _ _ _ h => h) (Or.inl ⟨by rfl, ?_⟩) (by with_reducible assumption) ?_
  rotate_left
  · (intro V hSw; obtain ⟨s1, s2, s3⟩ := hSw; go_simp); with_reducible rfl
  try simp only [Act.put, List.setIfInBounds_toArray, List.set_cons_zero, List.set_cons_succ]
  refine wpAnyH_take (i := 7) (oi := _) (v := ?_) rfl (by kernel_rfl) (by kernel_rfl) (by kernel_rfl) (fun _ _ _ h => h) (Or.inl ⟨by rfl, ?_⟩) (by with_reducible assumption) ?_
  rotate_left
  · (intro V hSw; obtain ⟨s1, s2, s3⟩ := hSw; go_simp); with_reducible rfl
  try simp only [Act.put, List.setIfInBounds_toArray, List.set_cons_zero, List.set_cons_succ]
  refine wpAnyH_take (i := 8) (oi := _) (v := ?_) rfl (by kernel_rfl) (by kernel_rfl) (by kernel_rfl) (fun _ _ _ h => h) (Or.inl ⟨by rfl, ?_⟩) (by with_reducible assumption) ?_
  rotate_left
  · (intro V hSw; obtain ⟨s1, s2, s3⟩ := hSw; go_simp); with_reducible rfl
  try simp only [Act.put, List.setIfInBounds_toArray, List.set_cons_zero, List.set_cons_succ]
  refine wpAnyH_take (i := 9) (oi := _) (v := ?_) rfl (by kernel_rfl) (by kernel_rfl) (by kernel_rfl) (fun _ _ _ h => h) (Or.inl ⟨by rfl, ?_⟩) (by with_reducible assumption) ?_
  rotate_left
  · (intro V hSw; obtain ⟨s1, s2, s3⟩ := hSw; go_simp); with_reducible rfl
  try simp only [Act.put, List.setIfInBounds_toArray, List.set_cons_zero, List.set_cons_succ]
  refine wpAnyH_take (i := 10) (oi := _) (v := ?_) rfl (by kernel_rfl) (by kernel_rfl) (by kernel_rfl) (fun _ _ _ h => h) (Or.inl ⟨by rfl, ?_⟩) (by with_reducible assumption) ?_
  rotate_left
  · (intro V hSw; obtain ⟨s1, s2, s3⟩ := hSw; go_simp); with_reducible rfl
  try simp only [Act.put, List.setIfInBounds_toArray, List.set_cons_zero, List.set_cons_succ]
  refine wpAnyH_ready (rs := [11]) (by kernel_rfl) (by simp) ?_
  refine AllReadyH.cons (o := _) rfl (fun K hK => ?_) AllReadyH.nil
  go_simp
  refine (r_in x s.low s.high _).mono ?_
  rintro e w' ⟨rfl, rfl⟩
  dsimp only
  refine hK.out _ _ hHeld (fun hHeld => ?_)
  clear hK K
  try simp only [Act.put, List.setIfInBounds_toArray, List.set_cons_zero, List.set_cons_succ]
  refine wpAnyH_ready (rs := [12]) (by kernel_rfl) (by simp) ?_
  refine AllReadyH.cons (o := _) rfl (fun K hK => ?_) AllReadyH.nil
  go_simp
  refine (r_truth hA.drew hn _).mono ?_
  rintro e w' ⟨rfl, hR⟩
  have hR2 := hR
  obtain ⟨hk, _, _, _, hr, _⟩ := hR2
  dsimp only
  refine hK.out _ _ ⟨hr.c2, hr.c3, hk.cell_some (show (W.alloc _).drew.cell? ⟨W.heap.size, 1, none⟩ = some (I x) from hx) hFR⟩ (fun hHeld => ?_)
  clear hK K
  try simp only [Act.put, List.setIfInBounds_toArray, List.set_cons_zero, List.set_cons_succ]
  refine wpAnyH_done (by kernel_rfl) ?_ _
  go_wp2
  first | go_end0 | ((try simp only [Exit.inBlock, Exit.then]); refine bodyPost_ret (results_none rfl _ _ _) rfl ?_)
  refine ⟨rfl, ?_⟩
  rw [Bool.decide_and]
  exact hR.drew.alloc
end Go.Proofs.Bm

namespace Go.Proofs.Bm
open Go.RowKit Go.Maps
variable {b : Nat} {s s' : RSt} {lL lK lO : Option Nat} {W w' : World}
theorem box_c (W : World) (nm : ByteArray) (x y : Int) : (W.alloc (.cells #[.string nm, I x, I y] 40)).cell? ⟨W.heap.size, 1, none⟩ = some (I x) ∧ (W.alloc (.cells #[.string nm, I x, I y] 40)).cell? ⟨W.heap.size, 2, none⟩ = some (I y) ∧ (W.alloc (.cells #[.string nm, I x, I y] 40)).cell? ⟨W.heap.size, 0, none⟩ = some (.string nm) := by
  refine ⟨?_, ?_, ?_⟩ <;> (unfold World.cell?; rw [heap_alloc, if_pos rfl]; rfl)

set_option maxHeartbeats 2000000 in
theorem r_tries_in (h : RS b s lL lK lO W) (hn : s.out.length ≤ 1000) (x y : Int) (hx : ¬ 20 < x) :
    Calls Tryz.prog 26 #[PB b, CL ⟨#[116, 114, 105, 101, 115]⟩ x y] W fun e w' => e = .returned (.tuple #[]) ∧ REnds b { s with out := s.out ++ [max 0 x] } lL lK lO W w' := by
  have hA := h.alloc (.cells #[.string ⟨#[116, 114, 105, 101, 115]⟩, I x, I y] 40)
  have hc5 := hA.c5
  have hf5 := hA.f 5
  have hc6 := hA.c6
  have hf6 := hA.f 6
  go_enter Tryz.func26, Tryz.ntmps26
  go_wp2_with (go_at_call 77; refine (r_put hA hn (max 0 x)).mono ?_; rintro e w' ⟨rfl, hR⟩)
  first | go_end0 | ((try simp only [Exit.inBlock, Exit.then]); refine bodyPost_ret (results_none rfl _ _ _) rfl ?_)
  exact ⟨rfl, hR.alloc⟩

set_option maxHeartbeats 2000000 in
theorem r_tries_out (h : RS b s lL lK lO W) (hn : s.out.length ≤ 1000) (x y : Int) (hx : 20 < x) :
    Calls Tryz.prog 26 #[PB b, CL ⟨#[116, 114, 105, 101, 115]⟩ x y] W fun e w' => e = .returned (.tuple #[]) ∧ REnds b { s with fault := 107 } lL lK lO W w' := by
  have hA := h.alloc (.cells #[.string ⟨#[116, 114, 105, 101, 115]⟩, I x, I y] 40)
  have hc5 := hA.c5
  have hf5 := hA.f 5
  have hc6 := hA.c6
  have hf6 := hA.f 6
  go_enter Tryz.func26, Tryz.ntmps26
  go_wp2
  first | go_end0 | ((try simp only [Exit.inBlock, Exit.then]); refine bodyPost_ret (results_none rfl _ _ _) rfl ?_)
  exact ⟨rfl, (REnds.of_set (hA.set_fault 107)).alloc⟩

set_option maxHeartbeats 2000000 in
theorem r_gcd_x (h : RS b s lL lK lO W) (hn : s.out.length ≤ 1000) (x y : Int) (hx : x < 0) :
    Calls Tryz.prog 26 #[PB b, CL ⟨#[103, 99, 100]⟩ x y] W fun e w' => e = .returned (.tuple #[]) ∧ REnds b { s with fault := 1 } lL lK lO W w' := by
  have hA := h.alloc (.cells #[.string ⟨#[103, 99, 100]⟩, I x, I y] 40)
  have hc5 := hA.c5
  have hf5 := hA.f 5
  have hc6 := hA.c6
  have hf6 := hA.f 6
  go_enter Tryz.func26, Tryz.ntmps26
  go_wp2
  first | go_end0 | ((try simp only [Exit.inBlock, Exit.then]); refine bodyPost_ret (results_none rfl _ _ _) rfl ?_)
  exact ⟨rfl, (REnds.of_set (hA.set_fault 1)).alloc⟩

set_option maxHeartbeats 2000000 in
theorem r_gcd_y (h : RS b s lL lK lO W) (hn : s.out.length ≤ 1000) (x y : Int) (hx : ¬ x < 0) (hy : y < 0) :
    Calls Tryz.prog 26 #[PB b, CL ⟨#[103, 99, 100]⟩ x y] W fun e w' => e = .returned (.tuple #[]) ∧ REnds b { s with fault := 1 } lL lK lO W w' := by
  have hA := h.alloc (.cells #[.string ⟨#[103, 99, 100]⟩, I x, I y] 40)
  have hc5 := hA.c5
  have hf5 := hA.f 5
  have hc6 := hA.c6
  have hf6 := hA.f 6
  go_enter Tryz.func26, Tryz.ntmps26
  go_wp2
  first | go_end0 | ((try simp only [Exit.inBlock, Exit.then]); refine bodyPost_ret (results_none rfl _ _ _) rfl ?_)
  exact ⟨rfl, (REnds.of_set (hA.set_fault 1)).alloc⟩

set_option maxHeartbeats 2000000 in
theorem r_power_y (h : RS b s lL lK lO W) (hn : s.out.length ≤ 1000) (x y : Int) (hy : y < 0) :
    Calls Tryz.prog 26 #[PB b, CL ⟨#[112, 111, 119, 101, 114]⟩ x y] W fun e w' => e = .returned (.tuple #[]) ∧ REnds b { s with fault := 1 } lL lK lO W w' := by
  have hA := h.alloc (.cells #[.string ⟨#[112, 111, 119, 101, 114]⟩, I x, I y] 40)
  have hc5 := hA.c5
  have hf5 := hA.f 5
  have hc6 := hA.c6
  have hf6 := hA.f 6
  by_cases hx : x < 0
  · go_enter Tryz.func26, Tryz.ntmps26
    go_wp2
    first | go_end0 | ((try simp only [Exit.inBlock, Exit.then]); refine bodyPost_ret (results_none rfl _ _ _) rfl ?_)
    exact ⟨rfl, (REnds.of_set (hA.set_fault 1)).alloc⟩
  · go_enter Tryz.func26, Tryz.ntmps26
    go_wp2
    first | go_end0 | ((try simp only [Exit.inBlock, Exit.then]); refine bodyPost_ret (results_none rfl _ _ _) rfl ?_)
    exact ⟨rfl, (REnds.of_set (hA.set_fault 1)).alloc⟩

set_option maxHeartbeats 2000000 in
theorem r_fact_x (h : RS b s lL lK lO W) (hn : s.out.length ≤ 1000) (x y : Int) (hx : x < 0) :
    Calls Tryz.prog 26 #[PB b, CL ⟨#[102, 97, 99, 116]⟩ x y] W fun e w' => e = .returned (.tuple #[]) ∧ REnds b { s with fault := 1 } lL lK lO W w' := by
  have hA := h.alloc (.cells #[.string ⟨#[102, 97, 99, 116]⟩, I x, I y] 40)
  have hc5 := hA.c5
  have hf5 := hA.f 5
  have hc6 := hA.c6
  have hf6 := hA.f 6
  go_enter Tryz.func26, Tryz.ntmps26
  go_wp2
  first | go_end0 | ((try simp only [Exit.inBlock, Exit.then]); refine bodyPost_ret (results_none rfl _ _ _) rfl ?_)
  exact ⟨rfl, (REnds.of_set (hA.set_fault 1)).alloc⟩

set_option maxHeartbeats 2000000 in
theorem r_fact_deep (h : RS b s lL lK lO W) (hn : s.out.length ≤ 1000) (x y : Int) (hx : ¬ x < 0) (hy : ¬ y < 0) (hd : 64 ≤ x) :
    Calls Tryz.prog 26 #[PB b, CL ⟨#[102, 97, 99, 116]⟩ x y] W fun e w' => e = .returned (.tuple #[]) ∧ REnds b { s with fault := 9 } lL lK lO W w' := by
  have hA := h.alloc (.cells #[.string ⟨#[102, 97, 99, 116]⟩, I x, I y] 40)
  have hc5 := hA.c5
  have hf5 := hA.f 5
  have hc6 := hA.c6
  have hf6 := hA.f 6
  go_enter Tryz.func26, Tryz.ntmps26
  go_wp2
  first | go_end0 | ((try simp only [Exit.inBlock, Exit.then]); refine bodyPost_ret (results_none rfl _ _ _) rfl ?_)
  exact ⟨rfl, (REnds.of_set (hA.set_fault 9)).alloc⟩

set_option maxHeartbeats 2000000 in
theorem r_gcd_in (h : RS b s lL lK lO W) (hn : s.out.length ≤ 1000) (x y : Nat) (hxr : inR x) (hyr : inR y) :
    Calls Tryz.prog 26 #[PB b, CL ⟨#[103, 99, 100]⟩ (x : Int) (y : Int)] W fun e w' => e = .returned (.tuple #[]) ∧ REnds b { s with out := s.out ++ [((Nat.gcd x y : Nat) : Int)] } lL lK lO W w' := by
  have hA := h.alloc (.cells #[.string ⟨#[103, 99, 100]⟩, I x, I y] 40)
  have hc5 := hA.c5
  have hf5 := hA.f 5
  have hc6 := hA.c6
  have hf6 := hA.f 6
  have hx : ¬ (x : Int) < 0 := by omega
  have hy : ¬ (y : Int) < 0 := by omega
  have ⟨b1, b2⟩ := hxr
  have ⟨b3, b4⟩ := hyr
  have hS := Lib.hid hA
  go_enter Tryz.func26, Tryz.ntmps26
  go_wp2
  go_loopg [4, 5, 6] y (fun gg s4 s5 _ wr => ∃ (p r : Nat), r ≤ gg ∧ s4 = I p ∧ s5 = I r ∧ wr = W.alloc (.cells #[.string ⟨#[103, 99, 100]⟩, I x, I y] 40) ∧ p ≤ 1099511627776 ∧ r ≤ 1099511627776 ∧ Hid (Nat.gcd p r = Nat.gcd x y))
  case atStart => exact ⟨x, y, Nat.le_refl _, rfl, rfl, rfl, by omega, by omega, Lib.hid rfl⟩
  case round =>
    obtain ⟨p, r, hr, rfl, rfl, rfl, hp1, hr1, hs⟩ := hrel
    by_cases hr0 : r = 0
    · subst hr0
      have hg := hs.out
      rw [Nat.gcd_zero_right] at hg
      replace hg := Lib.hid hg
      clear hs
      go_wp2_with (go_at_call 77; refine (r_put hS.out hn (p : Int)).mono ?_; rintro e w' ⟨rfl, hR⟩)
      first | go_end0 | ((try simp only [Exit.inBlock, Exit.then]); refine bodyPost_ret (results_none rfl _ _ _) rfl ?_)
      rw [← hg.out]
      exact ⟨rfl, hR.alloc⟩
    · have hrz : (r : Int) ≠ 0 := by omega
      have hrb : ((r : Int) != 0) = true := by simpa using hrz
      go_wp2
      go_roundg (p % r)
      case measure => have := Nat.mod_lt p (show r > 0 by omega); omega
      case rel => exact ⟨r, p % r, Nat.le_refl _, rfl, by go_num, rfl, hr1, by have := Nat.mod_lt p (show r > 0 by omega); omega, Lib.hid (by rw [← hs.out, Nat.gcd_comm p r, Nat.gcd_rec r p, Nat.gcd_comm])⟩
end Go.Proofs.Bm

namespace Go.Proofs.Bm
open Go.RowKit Go.Maps
variable {b : Nat} {s s' : RSt} {lL lK lO : Option Nat} {W w' : World}

set_option maxHeartbeats 2000000 in
theorem r_power_in (h : RS b s lL lK lO W) (hn : s.out.length ≤ 1000) (x : Int) (y : Nat) (hxr : inR x) (hyr : inR y) :
    Calls Tryz.prog 26 #[PB b, CL ⟨#[112, 111, 119, 101, 114]⟩ x (y : Int)] W fun e w' => e = .returned (.tuple #[]) ∧ REnds b (fin s (powO x y (y + 1) 0 1)) lL lK lO W w' := by
  have hA := h.alloc (.cells #[.string ⟨#[112, 111, 119, 101, 114]⟩, I x, I y] 40)
  have hc5 := hA.c5
  have hf5 := hA.f 5
  have hc6 := hA.c6
  have hf6 := hA.f 6
  have hS := Lib.hid hA
  obtain ⟨R, hR⟩ : ∃ R, R = powO x y (y + 1) 0 1 := ⟨_, rfl⟩
  rw [← hR]
  replace hR := Lib.hid hR
  have hy : ¬ (y : Int) < 0 := by omega
  have ⟨b3, b4⟩ := hyr
  by_cases hx : x < 0
  · go_enter Tryz.func26, Tryz.ntmps26
    go_wp2
    go_loopg [7, 8, 9, 10] y (fun gg s7 s8 _ _ wr => ∃ (k : Nat) (m : Int), k ≤ y ∧ (k : Int) ≤ 100000 ∧ y - k ≤ gg ∧ s7 = I m ∧ s8 = I k ∧ wr = W.alloc (.cells #[.string ⟨#[112, 111, 119, 101, 114]⟩, I x, I y] 40) ∧ inR m ∧ Hid (R = powO x y (y - k + 1) k m))
    case atStart => exact ⟨0, 1, Nat.zero_le _, by omega, Nat.le_refl _, rfl, rfl, rfl, by simp [inR], Lib.hid hR.out⟩
    case round =>
      obtain ⟨k, m, hk, hk2, hg, rfl, rfl, rfl, hm, hs⟩ := hrel
      by_cases hlt : k < y
      · have hltz : (k : Int) < (y : Int) := by omega
        have hs2 := hs.out
        rw [powO, if_pos hltz] at hs2
        by_cases hbig : (100000 : Int) ≤ (k : Int)
        · rw [if_pos hbig] at hs2
          replace hs2 := Lib.hid hs2
          clear hs
          obtain rfl : k = 100000 := by omega
          go_wp2
          first | go_end0 | ((try simp only [Exit.inBlock, Exit.then]); refine bodyPost_ret (results_none rfl _ _ _) rfl ?_)
          rw [hs2.out]
          exact ⟨rfl, (REnds.of_set (hS.out.set_long true)).alloc⟩
        · rw [if_neg hbig] at hs2
          replace hs2 := Lib.hid hs2
          clear hs
          have hbj : ¬ (k : Int) = 100000 := by omega
          have hb := fun w => r_product m x w hm hxr
          by_cases hp : inR (m * x)
          · simp only [hp, if_true, decide_true] at hb
            go_wp2_with (go_at_call 84; refine (hb _).mono ?_; rintro e w' ⟨rfl, rfl⟩)
            go_roundg (y - (k + 1))
            case measure => omega
            case rel => exact ⟨k + 1, m * x, by omega, by omega, by omega, rfl, by go_num, rfl, hp, Lib.hid (by have := hs2.out; rw [if_pos hp] at this; rw [this, show y - k = y - (k + 1) + 1 by omega]; rfl)⟩
          · simp only [hp, if_false, decide_false] at hb
            go_wp2_with (go_at_call 84; refine (hb _).mono ?_; rintro e w' ⟨rfl, rfl⟩)
            first | go_end0 | ((try simp only [Exit.inBlock, Exit.then]); refine bodyPost_ret (results_none rfl _ _ _) rfl ?_)
            have := hs2.out
            rw [if_neg hp] at this
            rw [this]
            exact ⟨rfl, (REnds.of_set (hS.out.set_fault 7)).alloc⟩
      · have hltz : ¬ (k : Int) < (y : Int) := by omega
        have := hs.out
        rw [powO, if_neg hltz] at this
        replace this := Lib.hid this
        clear hs
        go_wp2_with (go_at_call 77; refine (r_put hS.out hn m).mono ?_; rintro e w' ⟨rfl, hRE⟩)
        first | go_end0 | ((try simp only [Exit.inBlock, Exit.then]); refine bodyPost_ret (results_none rfl _ _ _) rfl ?_)
        rw [this.out]
        exact ⟨rfl, hRE.alloc⟩
  · go_enter Tryz.func26, Tryz.ntmps26
    go_wp2
    go_loopg [7, 8, 9, 10] y (fun gg s7 s8 _ _ wr => ∃ (k : Nat) (m : Int), k ≤ y ∧ (k : Int) ≤ 100000 ∧ y - k ≤ gg ∧ s7 = I m ∧ s8 = I k ∧ wr = W.alloc (.cells #[.string ⟨#[112, 111, 119, 101, 114]⟩, I x, I y] 40) ∧ inR m ∧ Hid (R = powO x y (y - k + 1) k m))
    case atStart => exact ⟨0, 1, Nat.zero_le _, by omega, Nat.le_refl _, rfl, rfl, rfl, by simp [inR], Lib.hid hR.out⟩
    case round =>
      obtain ⟨k, m, hk, hk2, hg, rfl, rfl, rfl, hm, hs⟩ := hrel
      by_cases hlt : k < y
      · have hltz : (k : Int) < (y : Int) := by omega
        have hs2 := hs.out
        rw [powO, if_pos hltz] at hs2
        by_cases hbig : (100000 : Int) ≤ (k : Int)
        · rw [if_pos hbig] at hs2
          replace hs2 := Lib.hid hs2
          clear hs
          obtain rfl : k = 100000 := by omega
          go_wp2
          first | go_end0 | ((try simp only [Exit.inBlock, Exit.then]); refine bodyPost_ret (results_none rfl _ _ _) rfl ?_)
          rw [hs2.out]
          exact ⟨rfl, (REnds.of_set (hS.out.set_long true)).alloc⟩
        · rw [if_neg hbig] at hs2
          replace hs2 := Lib.hid hs2
          clear hs
          have hbj : ¬ (k : Int) = 100000 := by omega
          have hb := fun w => r_product m x w hm hxr
          by_cases hp : inR (m * x)
          · simp only [hp, if_true, decide_true] at hb
            go_wp2_with (go_at_call 84; refine (hb _).mono ?_; rintro e w' ⟨rfl, rfl⟩)
            go_roundg (y - (k + 1))
            case measure => omega
            case rel => exact ⟨k + 1, m * x, by omega, by omega, by omega, rfl, by go_num, rfl, hp, Lib.hid (by have := hs2.out; rw [if_pos hp] at this; rw [this, show y - k = y - (k + 1) + 1 by omega]; rfl)⟩
          · simp only [hp, if_false, decide_false] at hb
            go_wp2_with (go_at_call 84; refine (hb _).mono ?_; rintro e w' ⟨rfl, rfl⟩)
            first | go_end0 | ((try simp only [Exit.inBlock, Exit.then]); refine bodyPost_ret (results_none rfl _ _ _) rfl ?_)
            have := hs2.out
            rw [if_neg hp] at this
            rw [this]
            exact ⟨rfl, (REnds.of_set (hS.out.set_fault 7)).alloc⟩
      · have hltz : ¬ (k : Int) < (y : Int) := by omega
        have := hs.out
        rw [powO, if_neg hltz] at this
        replace this := Lib.hid this
        clear hs
        go_wp2_with (go_at_call 77; refine (r_put hS.out hn m).mono ?_; rintro e w' ⟨rfl, hRE⟩)
        first | go_end0 | ((try simp only [Exit.inBlock, Exit.then]); refine bodyPost_ret (results_none rfl _ _ _) rfl ?_)
        rw [this.out]
        exact ⟨rfl, hRE.alloc⟩

set_option maxHeartbeats 2000000 in
theorem r_fact_in (h : RS b s lL lK lO W) (hn : s.out.length ≤ 1000) (x : Nat) (y : Int) (hx64 : x < 64) (hy : ¬ y < 0) :
    Calls Tryz.prog 26 #[PB b, CL ⟨#[102, 97, 99, 116]⟩ (x : Int) y] W fun e w' => e = .returned (.tuple #[]) ∧ REnds b (fin s (facO x 64 2 1)) lL lK lO W w' := by
  have hA := h.alloc (.cells #[.string ⟨#[102, 97, 99, 116]⟩, I x, I y] 40)
  have hc5 := hA.c5
  have hf5 := hA.f 5
  have hc6 := hA.c6
  have hf6 := hA.f 6
  have hS := Lib.hid hA
  obtain ⟨R, hR⟩ : ∃ R, R = facO x 64 2 1 := ⟨_, rfl⟩
  rw [← hR]
  replace hR := Lib.hid hR
  have hx : ¬ (x : Int) < 0 := by omega
  have hx2 : ¬ (64 : Int) ≤ (x : Int) := by omega
  go_enter Tryz.func26, Tryz.ntmps26
  go_wp2
  go_loopg [11, 12, 13, 14] 64 (fun gg s11 s12 _ _ wr => ∃ (k : Nat) (m : Int), k ≤ 64 ∧ 64 - k ≤ gg ∧ s11 = I m ∧ s12 = I (k + 2) ∧ wr = W.alloc (.cells #[.string ⟨#[102, 97, 99, 116]⟩, I x, I y] 40) ∧ inR m ∧ Hid (R = facO x (64 - k) (k + 2) m))
  case atStart => exact ⟨0, 1, Nat.zero_le _, Nat.le_refl _, rfl, rfl, rfl, by simp [inR], Lib.hid hR.out⟩
  case round =>
    obtain ⟨k, m, hk, hg, rfl, rfl, rfl, hm, hs⟩ := hrel
    by_cases hlt : k + 2 ≤ x
    · have hltz : (k : Int) + 2 ≤ (x : Int) := by omega
      have hs2 := hs.out
      rw [show 64 - k = (64 - (k + 1)) + 1 by omega, facO, if_pos hltz] at hs2
      replace hs2 := Lib.hid hs2
      clear hs
      have hkr : inR ((k : Int) + 2) := by unfold inR; omega
      have hb := fun w => r_product m ((k : Int) + 2) w hm hkr
      by_cases hp : inR (m * ((k : Int) + 2))
      · simp only [hp, if_true, decide_true] at hb
        go_wp2_with (go_at_call 84; refine (hb _).mono ?_; rintro e w' ⟨rfl, rfl⟩)
        go_roundg (64 - (k + 1))
        case measure => omega
        case rel => exact ⟨k + 1, m * ((k : Int) + 2), by omega, by omega, rfl, by go_num, rfl, hp, Lib.hid (by have := hs2.out; rw [if_pos hp] at this; rw [this]; congr 1)⟩
      · simp only [hp, if_false, decide_false] at hb
        go_wp2_with (go_at_call 84; refine (hb _).mono ?_; rintro e w' ⟨rfl, rfl⟩)
        first | go_end0 | ((try simp only [Exit.inBlock, Exit.then]); refine bodyPost_ret (results_none rfl _ _ _) rfl ?_)
        have := hs2.out
        rw [if_neg hp] at this
        rw [this]
        exact ⟨rfl, (REnds.of_set (hS.out.set_fault 7)).alloc⟩
    · have hltz : ¬ (k : Int) + 2 ≤ (x : Int) := by omega
      have := hs.out
      rw [show (facO x (64 - k) (k + 2) m) = .ret m by cases hh : 64 - k with | zero => rfl | succ j => rw [facO, if_neg hltz]] at this
      replace this := Lib.hid this
      clear hs
      go_wp2_with (go_at_call 77; refine (r_put hS.out hn m).mono ?_; rintro e w' ⟨rfl, hRE⟩)
      first | go_end0 | ((try simp only [Exit.inBlock, Exit.then]); refine bodyPost_ret (results_none rfl _ _ _) rfl ?_)
      rw [this.out]
      exact ⟨rfl, hRE.alloc⟩
end Go.Proofs.Bm
