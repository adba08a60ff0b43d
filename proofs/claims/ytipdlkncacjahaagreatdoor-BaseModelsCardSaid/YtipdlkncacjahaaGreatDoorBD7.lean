/- width and total. No condition but the model's. -/
import Derived.Test.YtipdlkncacjahaaGreatDoorBD3
import Derived.IntWalk
import Derived.Deep.RegionHeld3
import Derived.Handy
import Derived.Deep.LoopGhost
set_option linter.unusedSimpArgs false
set_option linter.unusedVariables false
namespace Go.Proofs.Bm
open Go.RowKit Go.Maps
variable {n q : Nat} {L : List (ByteArray × Value)} {Q : List Value} {s : St} {lk : Option Nat} {W : World}

set_option maxHeartbeats 2000000 in
theorem d_width_in (hM : MS n L Q s q lk W) (x y : Int) (hl : inR s.low) (hh : inR s.high) (h1 : inR (s.high - s.low)) (h2 : inR (s.high - s.low + 1)) : Calls Tryz.prog 63 #[P1 n, I x, I y] W fun e w' => Ends n L Q s q lk W (.ret (s.high - s.low + 1)) I e w' := by
  have hc2 := hM.c2
  have hc3 := hM.c3
  have c1 := fun w => safe_in (s.high - s.low) w h1
  have c2 := fun w => safe_in (s.high - s.low + 1) w h2
  have e1 : IntKind.i64.wrap (s.high - s.low) = s.high - s.low := IntWalk.i64_in _ (by unfold inR at *; omega)
  have e2 : IntKind.i64.wrap (s.high - s.low + 1) = s.high - s.low + 1 := IntWalk.i64_in _ (by unfold inR at *; omega)
  go_enter Tryz.func63, Tryz.ntmps63
  go_wp2
  refine wp_region_held_drew (S := (fun V => V.cell? ⟨n + 1, 2, none⟩ = some (I s.low) ∧ V.cell? ⟨n + 1, 3, none⟩ = some (I s.high))) (by kernel_rfl) ⟨hc2, hc3⟩ (fun hHeld => ?_)
  refine wpAnyH_take (i := 0) (oi := _) (v := ?_) rfl (by kernel_rfl) (by kernel_rfl) (by kernel_rfl) (fun _ _ _ h => h) (Or.inl ⟨by rfl, ?_⟩) (by with_reducible assumption) ?_
  rotate_left
  · (intro V hSw; obtain ⟨s1, s2⟩ := hSw; go_simp); with_reducible rfl
  try simp only [Act.put, List.setIfInBounds_toArray, List.set_cons_zero, List.set_cons_succ, e1, e2]
  refine wpAnyH_take (i := 1) (oi := _) (v := ?_) rfl (by kernel_rfl) (by kernel_rfl) (by kernel_rfl) (fun _ _ _ h => h) (Or.inl ⟨by rfl, ?_⟩) (by with_reducible assumption) ?_
  rotate_left
  · (intro V hSw; obtain ⟨s1, s2⟩ := hSw; go_simp); with_reducible rfl
  try simp only [Act.put, List.setIfInBounds_toArray, List.set_cons_zero, List.set_cons_succ, e1, e2]
  refine wpAnyH_take (i := 2) (oi := _) (v := ?_) rfl (by kernel_rfl) (by kernel_rfl) (by kernel_rfl) (fun _ _ _ h => h) (Or.inl ⟨by rfl, ?_⟩) (by with_reducible assumption) ?_
  rotate_left
  · (intro V hSw; obtain ⟨s1, s2⟩ := hSw; go_simp); with_reducible rfl
  try simp only [Act.put, List.setIfInBounds_toArray, List.set_cons_zero, List.set_cons_succ, e1, e2]
  refine wpAnyH_take (i := 3) (oi := _) (v := ?_) rfl (by kernel_rfl) (by kernel_rfl) (by kernel_rfl) (fun _ _ _ h => h) (Or.inl ⟨by rfl, ?_⟩) (by with_reducible assumption) ?_
  rotate_left
  · (intro V hSw; obtain ⟨s1, s2⟩ := hSw; go_simp); with_reducible rfl
  try simp only [Act.put, List.setIfInBounds_toArray, List.set_cons_zero, List.set_cons_succ, e1, e2]
  refine wpAnyH_take (i := 4) (oi := _) (v := ?_) rfl (by kernel_rfl) (by kernel_rfl) (by kernel_rfl) (fun _ _ _ h => h) (Or.inl ⟨by rfl, ?_⟩) (by with_reducible assumption) ?_
  rotate_left
  · (intro V hSw; obtain ⟨s1, s2⟩ := hSw; go_simp); with_reducible rfl
  try simp only [Act.put, List.setIfInBounds_toArray, List.set_cons_zero, List.set_cons_succ, e1, e2]
  refine wpAnyH_take (i := 5) (oi := _) (v := ?_) rfl (by kernel_rfl) (by kernel_rfl) (by kernel_rfl) (fun _ _ _ h => h) (Or.inl ⟨by rfl, ?_⟩) (by with_reducible assumption) ?_
  rotate_left
  · (intro V hSw; obtain ⟨s1, s2⟩ := hSw; go_simp); with_reducible rfl
  try simp only [Act.put, List.setIfInBounds_toArray, List.set_cons_zero, List.set_cons_succ, e1, e2]
  refine wpAnyH_take (i := 6) (oi := _) (v := ?_) rfl (by kernel_rfl) (by kernel_rfl) (by kernel_rfl) (fun _ _ _ h => h) (Or.inl ⟨by rfl, ?_⟩) (by with_reducible assumption) ?_
  rotate_left
  · (intro V hSw; obtain ⟨s1, s2⟩ := hSw; go_simp); with_reducible rfl
  try simp only [Act.put, List.setIfInBounds_toArray, List.set_cons_zero, List.set_cons_succ, e1, e2]
  refine wpAnyH_take (i := 7) (oi := _) (v := ?_) rfl (by kernel_rfl) (by kernel_rfl) (by kernel_rfl) (fun _ _ _ h => h) (Or.inl ⟨by rfl, ?_⟩) (by with_reducible assumption) ?_
  rotate_left
  · (intro V hSw; obtain ⟨s1, s2⟩ := hSw; go_simp); with_reducible rfl
  try simp only [Act.put, List.setIfInBounds_toArray, List.set_cons_zero, List.set_cons_succ, e1, e2]
  refine wpAnyH_take (i := 8) (oi := _) (v := ?_) rfl (by kernel_rfl) (by kernel_rfl) (by kernel_rfl) (fun _ _ _ h => h) (Or.inl ⟨by rfl, ?_⟩) (by with_reducible assumption) ?_
  rotate_left
  · (intro V hSw; obtain ⟨s1, s2⟩ := hSw; go_simp); with_reducible rfl
  try simp only [Act.put, List.setIfInBounds_toArray, List.set_cons_zero, List.set_cons_succ, e1, e2]
  refine wpAnyH_ready (rs := [9]) (by kernel_rfl) (by simp) ?_
  refine AllReadyH.cons (o := _) rfl (fun K hK => ?_) AllReadyH.nil
  go_simp
  refine (c1 _).mono ?_
  rintro e w' ⟨rfl, rfl⟩
  dsimp only
  refine hK.out _ _ hHeld (fun hHeld => ?_)
  clear hK K
  try simp only [Act.put, List.setIfInBounds_toArray, List.set_cons_zero, List.set_cons_succ, e1, e2]
  refine wpAnyH_take (i := 10) (oi := _) (v := ?_) rfl (by kernel_rfl) (by kernel_rfl) (by kernel_rfl) (fun _ _ _ h => h) (Or.inl ⟨by rfl, ?_⟩) (by with_reducible assumption) ?_
  rotate_left
  · (intro V hSw; obtain ⟨s1, s2⟩ := hSw; go_simp); with_reducible rfl
  try simp only [Act.put, List.setIfInBounds_toArray, List.set_cons_zero, List.set_cons_succ, e1, e2]
  refine wpAnyH_ready (rs := [11]) (by kernel_rfl) (by simp) ?_
  refine AllReadyH.cons (o := _) rfl (fun K hK => ?_) AllReadyH.nil
  go_simp
  refine (c2 _).mono ?_
  rintro e w' ⟨rfl, rfl⟩
  dsimp only
  refine hK.out _ _ hHeld (fun hHeld => ?_)
  clear hK K
  try simp only [Act.put, List.setIfInBounds_toArray, List.set_cons_zero, List.set_cons_succ, e1, e2]
  refine wpAnyH_ready (rs := [12]) (by kernel_rfl) (by simp) ?_
  refine AllReadyH.cons (o := _) rfl (fun K hK => ?_) AllReadyH.nil
  go_simp
  refine hK.out _ _ hHeld (fun hHeld => ?_)
  clear hK K
  try simp only [Act.put, List.setIfInBounds_toArray, List.set_cons_zero, List.set_cons_succ, e1, e2]
  refine wpAnyH_done (by kernel_rfl) ?_ _
  go_wp2
  go_ret
  exact .drew hM I _

set_option maxHeartbeats 2000000 in
theorem d_width_out1 (hM : MS n L Q s q lk W) (x y : Int) (hl : inR s.low) (hh : inR s.high) (h1 : ¬ inR (s.high - s.low)) : Calls Tryz.prog 63 #[P1 n, I x, I y] W fun e w' => Ends n L Q s q lk W (.stop 7 0) I e w' := by
  have hc2 := hM.c2
  have hc3 := hM.c3
  have c1 := fun w => safe_out (s.high - s.low) w (by unfold inR at *; omega) (by unfold inR at *; omega) h1
  have e1 : IntKind.i64.wrap (s.high - s.low) = s.high - s.low := IntWalk.i64_in _ (by unfold inR at *; omega)
  have e2 : IntKind.i64.wrap (s.high - s.low + 1) = s.high - s.low + 1 := IntWalk.i64_in _ (by unfold inR at *; omega)
  go_enter Tryz.func63, Tryz.ntmps63
  go_wp2
  refine wp_region_held_drew (S := (fun V => V.cell? ⟨n + 1, 2, none⟩ = some (I s.low) ∧ V.cell? ⟨n + 1, 3, none⟩ = some (I s.high))) (by kernel_rfl) ⟨hc2, hc3⟩ (fun hHeld => ?_)
  refine wpAnyH_take (i := 0) (oi := _) (v := ?_) rfl (by kernel_rfl) (by kernel_rfl) (by kernel_rfl) (fun _ _ _ h => h) (Or.inl ⟨by rfl, ?_⟩) (by with_reducible assumption) ?_
  rotate_left
  · (intro V hSw; obtain ⟨s1, s2⟩ := hSw; go_simp); with_reducible rfl
  try simp only [Act.put, List.setIfInBounds_toArray, List.set_cons_zero, List.set_cons_succ, e1, e2]
  refine wpAnyH_take (i := 1) (oi := _) (v := ?_) rfl (by kernel_rfl) (by kernel_rfl) (by kernel_rfl) (fun _ _ _ h => h) (Or.inl ⟨by rfl, ?_⟩) (by with_reducible assumption) ?_
  rotate_left
  · (intro V hSw; obtain ⟨s1, s2⟩ := hSw; go_simp); with_reducible rfl
  try simp only [Act.put, List.setIfInBounds_toArray, List.set_cons_zero, List.set_cons_succ, e1, e2]
  refine wpAnyH_take (i := 2) (oi := _) (v := ?_) rfl (by kernel_rfl) (by kernel_rfl) (by kernel_rfl) (fun _ _ _ h => h) (Or.inl ⟨by rfl, ?_⟩) (by with_reducible assumption) ?_
  rotate_left
  · (intro V hSw; obtain ⟨s1, s2⟩ := hSw; go_simp); with_reducible rfl
  try simp only [Act.put, List.setIfInBounds_toArray, List.set_cons_zero, List.set_cons_succ, e1, e2]
  refine wpAnyH_take (i := 3) (oi := _) (v := ?_) rfl (by kernel_rfl) (by kernel_rfl) (by kernel_rfl) (fun _ _ _ h => h) (Or.inl ⟨by rfl, ?_⟩) (by with_reducible assumption) ?_
  rotate_left
  · (intro V hSw; obtain ⟨s1, s2⟩ := hSw; go_simp); with_reducible rfl
  try simp only [Act.put, List.setIfInBounds_toArray, List.set_cons_zero, List.set_cons_succ, e1, e2]
  refine wpAnyH_take (i := 4) (oi := _) (v := ?_) rfl (by kernel_rfl) (by kernel_rfl) (by kernel_rfl) (fun _ _ _ h => h) (Or.inl ⟨by rfl, ?_⟩) (by with_reducible assumption) ?_
  rotate_left
  · (intro V hSw; obtain ⟨s1, s2⟩ := hSw; go_simp); with_reducible rfl
  try simp only [Act.put, List.setIfInBounds_toArray, List.set_cons_zero, List.set_cons_succ, e1, e2]
  refine wpAnyH_take (i := 5) (oi := _) (v := ?_) rfl (by kernel_rfl) (by kernel_rfl) (by kernel_rfl) (fun _ _ _ h => h) (Or.inl ⟨by rfl, ?_⟩) (by with_reducible assumption) ?_
  rotate_left
  · (intro V hSw; obtain ⟨s1, s2⟩ := hSw; go_simp); with_reducible rfl
  try simp only [Act.put, List.setIfInBounds_toArray, List.set_cons_zero, List.set_cons_succ, e1, e2]
  refine wpAnyH_take (i := 6) (oi := _) (v := ?_) rfl (by kernel_rfl) (by kernel_rfl) (by kernel_rfl) (fun _ _ _ h => h) (Or.inl ⟨by rfl, ?_⟩) (by with_reducible assumption) ?_
  rotate_left
  · (intro V hSw; obtain ⟨s1, s2⟩ := hSw; go_simp); with_reducible rfl
  try simp only [Act.put, List.setIfInBounds_toArray, List.set_cons_zero, List.set_cons_succ, e1, e2]
  refine wpAnyH_take (i := 7) (oi := _) (v := ?_) rfl (by kernel_rfl) (by kernel_rfl) (by kernel_rfl) (fun _ _ _ h => h) (Or.inl ⟨by rfl, ?_⟩) (by with_reducible assumption) ?_
  rotate_left
  · (intro V hSw; obtain ⟨s1, s2⟩ := hSw; go_simp); with_reducible rfl
  try simp only [Act.put, List.setIfInBounds_toArray, List.set_cons_zero, List.set_cons_succ, e1, e2]
  refine wpAnyH_take (i := 8) (oi := _) (v := ?_) rfl (by kernel_rfl) (by kernel_rfl) (by kernel_rfl) (fun _ _ _ h => h) (Or.inl ⟨by rfl, ?_⟩) (by with_reducible assumption) ?_
  rotate_left
  · (intro V hSw; obtain ⟨s1, s2⟩ := hSw; go_simp); with_reducible rfl
  try simp only [Act.put, List.setIfInBounds_toArray, List.set_cons_zero, List.set_cons_succ, e1, e2]
  refine wpAnyH_ready (rs := [9]) (by kernel_rfl) (by simp) ?_
  refine AllReadyH.cons (o := _) rfl (fun K hK => ?_) AllReadyH.nil
  go_simp
  refine (c1 _).mono ?_
  rintro e w' ⟨rfl, rfl⟩
  exact ⟨rfl, .dhalt I _ _ s⟩

set_option maxHeartbeats 2000000 in
theorem d_width_out2 (hM : MS n L Q s q lk W) (x y : Int) (hl : inR s.low) (hh : inR s.high) (h1 : inR (s.high - s.low)) (h2 : ¬ inR (s.high - s.low + 1)) : Calls Tryz.prog 63 #[P1 n, I x, I y] W fun e w' => Ends n L Q s q lk W (.stop 7 0) I e w' := by
  have hc2 := hM.c2
  have hc3 := hM.c3
  have c1 := fun w => safe_in (s.high - s.low) w h1
  have c2 := fun w => safe_out (s.high - s.low + 1) w (by unfold inR at *; omega) (by unfold inR at *; omega) h2
  have e1 : IntKind.i64.wrap (s.high - s.low) = s.high - s.low := IntWalk.i64_in _ (by unfold inR at *; omega)
  have e2 : IntKind.i64.wrap (s.high - s.low + 1) = s.high - s.low + 1 := IntWalk.i64_in _ (by unfold inR at *; omega)
  go_enter Tryz.func63, Tryz.ntmps63
  go_wp2
  refine wp_region_held_drew (S := (fun V => V.cell? ⟨n + 1, 2, none⟩ = some (I s.low) ∧ V.cell? ⟨n + 1, 3, none⟩ = some (I s.high))) (by kernel_rfl) ⟨hc2, hc3⟩ (fun hHeld => ?_)
  refine wpAnyH_take (i := 0) (oi := _) (v := ?_) rfl (by kernel_rfl) (by kernel_rfl) (by kernel_rfl) (fun _ _ _ h => h) (Or.inl ⟨by rfl, ?_⟩) (by with_reducible assumption) ?_
  rotate_left
  · (intro V hSw; obtain ⟨s1, s2⟩ := hSw; go_simp); with_reducible rfl
  try simp only [Act.put, List.setIfInBounds_toArray, List.set_cons_zero, List.set_cons_succ, e1, e2]
  refine wpAnyH_take (i := 1) (oi := _) (v := ?_) rfl (by kernel_rfl) (by kernel_rfl) (by kernel_rfl) (fun _ _ _ h => h) (Or.inl ⟨by rfl, ?_⟩) (by with_reducible assumption) ?_
  rotate_left
  · (intro V hSw; obtain ⟨s1, s2⟩ := hSw; go_simp); with_reducible rfl
  try simp only [Act.put, List.setIfInBounds_toArray, List.set_cons_zero, List.set_cons_succ, e1, e2]
  refine wpAnyH_take (i := 2) (oi := _) (v := ?_) rfl (by kernel_rfl) (by kernel_rfl) (by kernel_rfl) (fun _ _ _ h => h) (Or.inl ⟨by rfl, ?_⟩) (by with_reducible assumption) ?_
  rotate_left
  · (intro V hSw; obtain ⟨s1, s2⟩ := hSw; go_simp); with_reducible rfl
  try simp only [Act.put, List.setIfInBounds_toArray, List.set_cons_zero, List.set_cons_succ, e1, e2]
  refine wpAnyH_take (i := 3) (oi := _) (v := ?_) rfl (by kernel_rfl) (by kernel_rfl) (by kernel_rfl) (fun _ _ _ h => h) (Or.inl ⟨by rfl, ?_⟩) (by with_reducible assumption) ?_
  rotate_left
  · (intro V hSw; obtain ⟨s1, s2⟩ := hSw; go_simp); with_reducible rfl
  try simp only [Act.put, List.setIfInBounds_toArray, List.set_cons_zero, List.set_cons_succ, e1, e2]
  refine wpAnyH_take (i := 4) (oi := _) (v := ?_) rfl (by kernel_rfl) (by kernel_rfl) (by kernel_rfl) (fun _ _ _ h => h) (Or.inl ⟨by rfl, ?_⟩) (by with_reducible assumption) ?_
  rotate_left
  · (intro V hSw; obtain ⟨s1, s2⟩ := hSw; go_simp); with_reducible rfl
  try simp only [Act.put, List.setIfInBounds_toArray, List.set_cons_zero, List.set_cons_succ, e1, e2]
  refine wpAnyH_take (i := 5) (oi := _) (v := ?_) rfl (by kernel_rfl) (by kernel_rfl) (by kernel_rfl) (fun _ _ _ h => h) (Or.inl ⟨by rfl, ?_⟩) (by with_reducible assumption) ?_
  rotate_left
  · (intro V hSw; obtain ⟨s1, s2⟩ := hSw; go_simp); with_reducible rfl
  try simp only [Act.put, List.setIfInBounds_toArray, List.set_cons_zero, List.set_cons_succ, e1, e2]
  refine wpAnyH_take (i := 6) (oi := _) (v := ?_) rfl (by kernel_rfl) (by kernel_rfl) (by kernel_rfl) (fun _ _ _ h => h) (Or.inl ⟨by rfl, ?_⟩) (by with_reducible assumption) ?_
  rotate_left
  · (intro V hSw; obtain ⟨s1, s2⟩ := hSw; go_simp); with_reducible rfl
  try simp only [Act.put, List.setIfInBounds_toArray, List.set_cons_zero, List.set_cons_succ, e1, e2]
  refine wpAnyH_take (i := 7) (oi := _) (v := ?_) rfl (by kernel_rfl) (by kernel_rfl) (by kernel_rfl) (fun _ _ _ h => h) (Or.inl ⟨by rfl, ?_⟩) (by with_reducible assumption) ?_
  rotate_left
  · (intro V hSw; obtain ⟨s1, s2⟩ := hSw; go_simp); with_reducible rfl
  try simp only [Act.put, List.setIfInBounds_toArray, List.set_cons_zero, List.set_cons_succ, e1, e2]
  refine wpAnyH_take (i := 8) (oi := _) (v := ?_) rfl (by kernel_rfl) (by kernel_rfl) (by kernel_rfl) (fun _ _ _ h => h) (Or.inl ⟨by rfl, ?_⟩) (by with_reducible assumption) ?_
  rotate_left
  · (intro V hSw; obtain ⟨s1, s2⟩ := hSw; go_simp); with_reducible rfl
  try simp only [Act.put, List.setIfInBounds_toArray, List.set_cons_zero, List.set_cons_succ, e1, e2]
  refine wpAnyH_ready (rs := [9]) (by kernel_rfl) (by simp) ?_
  refine AllReadyH.cons (o := _) rfl (fun K hK => ?_) AllReadyH.nil
  go_simp
  refine (c1 _).mono ?_
  rintro e w' ⟨rfl, rfl⟩
  dsimp only
  refine hK.out _ _ hHeld (fun hHeld => ?_)
  clear hK K
  try simp only [Act.put, List.setIfInBounds_toArray, List.set_cons_zero, List.set_cons_succ, e1, e2]
  refine wpAnyH_take (i := 10) (oi := _) (v := ?_) rfl (by kernel_rfl) (by kernel_rfl) (by kernel_rfl) (fun _ _ _ h => h) (Or.inl ⟨by rfl, ?_⟩) (by with_reducible assumption) ?_
  rotate_left
  · (intro V hSw; obtain ⟨s1, s2⟩ := hSw; go_simp); with_reducible rfl
  try simp only [Act.put, List.setIfInBounds_toArray, List.set_cons_zero, List.set_cons_succ, e1, e2]
  refine wpAnyH_ready (rs := [11]) (by kernel_rfl) (by simp) ?_
  refine AllReadyH.cons (o := _) rfl (fun K hK => ?_) AllReadyH.nil
  go_simp
  refine (c2 _).mono ?_
  rintro e w' ⟨rfl, rfl⟩
  exact ⟨rfl, .dhalt I _ _ s⟩

set_option maxHeartbeats 2000000 in
theorem d_total_out1 (hM : MS n L Q s q lk W) (x y : Int) (hl : inR s.low) (hh : inR s.high) (h1 : ¬ inR (s.high - s.low)) : Calls Tryz.prog 64 #[P1 n, I x, I y] W fun e w' => Ends n L Q s q lk W (.stop 7 0) I e w' := by
  have hc2 := hM.c2
  have hc3 := hM.c3
  have c1 := fun w => safe_out (s.high - s.low) w (by unfold inR at *; omega) (by unfold inR at *; omega) h1
  have e1 : IntKind.i64.wrap (s.high - s.low) = s.high - s.low := IntWalk.i64_in _ (by unfold inR at *; omega)
  have e2 : IntKind.i64.wrap (s.high - s.low + 1) = s.high - s.low + 1 := IntWalk.i64_in _ (by unfold inR at *; omega)
  go_enter Tryz.func64, Tryz.ntmps64
  go_wp2
  refine wp_region_held_drew (S := (fun V => V.cell? ⟨n + 1, 2, none⟩ = some (I s.low) ∧ V.cell? ⟨n + 1, 3, none⟩ = some (I s.high))) (by kernel_rfl) ⟨hc2, hc3⟩ (fun hHeld => ?_)
  refine wpAnyH_take (i := 0) (oi := _) (v := ?_) rfl (by kernel_rfl) (by kernel_rfl) (by kernel_rfl) (fun _ _ _ h => h) (Or.inl ⟨by rfl, ?_⟩) (by with_reducible assumption) ?_
  rotate_left
  · (intro V hSw; obtain ⟨s1, s2⟩ := hSw; go_simp); with_reducible rfl
  try simp only [Act.put, List.setIfInBounds_toArray, List.set_cons_zero, List.set_cons_succ, e1, e2]
  refine wpAnyH_take (i := 1) (oi := _) (v := ?_) rfl (by kernel_rfl) (by kernel_rfl) (by kernel_rfl) (fun _ _ _ h => h) (Or.inl ⟨by rfl, ?_⟩) (by with_reducible assumption) ?_
  rotate_left
  · (intro V hSw; obtain ⟨s1, s2⟩ := hSw; go_simp); with_reducible rfl
  try simp only [Act.put, List.setIfInBounds_toArray, List.set_cons_zero, List.set_cons_succ, e1, e2]
  refine wpAnyH_take (i := 2) (oi := _) (v := ?_) rfl (by kernel_rfl) (by kernel_rfl) (by kernel_rfl) (fun _ _ _ h => h) (Or.inl ⟨by rfl, ?_⟩) (by with_reducible assumption) ?_
  rotate_left
  · (intro V hSw; obtain ⟨s1, s2⟩ := hSw; go_simp); with_reducible rfl
  try simp only [Act.put, List.setIfInBounds_toArray, List.set_cons_zero, List.set_cons_succ, e1, e2]
  refine wpAnyH_take (i := 3) (oi := _) (v := ?_) rfl (by kernel_rfl) (by kernel_rfl) (by kernel_rfl) (fun _ _ _ h => h) (Or.inl ⟨by rfl, ?_⟩) (by with_reducible assumption) ?_
  rotate_left
  · (intro V hSw; obtain ⟨s1, s2⟩ := hSw; go_simp); with_reducible rfl
  try simp only [Act.put, List.setIfInBounds_toArray, List.set_cons_zero, List.set_cons_succ, e1, e2]
  refine wpAnyH_take (i := 4) (oi := _) (v := ?_) rfl (by kernel_rfl) (by kernel_rfl) (by kernel_rfl) (fun _ _ _ h => h) (Or.inl ⟨by rfl, ?_⟩) (by with_reducible assumption) ?_
  rotate_left
  · (intro V hSw; obtain ⟨s1, s2⟩ := hSw; go_simp); with_reducible rfl
  try simp only [Act.put, List.setIfInBounds_toArray, List.set_cons_zero, List.set_cons_succ, e1, e2]
  refine wpAnyH_take (i := 5) (oi := _) (v := ?_) rfl (by kernel_rfl) (by kernel_rfl) (by kernel_rfl) (fun _ _ _ h => h) (Or.inl ⟨by rfl, ?_⟩) (by with_reducible assumption) ?_
  rotate_left
  · (intro V hSw; obtain ⟨s1, s2⟩ := hSw; go_simp); with_reducible rfl
  try simp only [Act.put, List.setIfInBounds_toArray, List.set_cons_zero, List.set_cons_succ, e1, e2]
  refine wpAnyH_take (i := 6) (oi := _) (v := ?_) rfl (by kernel_rfl) (by kernel_rfl) (by kernel_rfl) (fun _ _ _ h => h) (Or.inl ⟨by rfl, ?_⟩) (by with_reducible assumption) ?_
  rotate_left
  · (intro V hSw; obtain ⟨s1, s2⟩ := hSw; go_simp); with_reducible rfl
  try simp only [Act.put, List.setIfInBounds_toArray, List.set_cons_zero, List.set_cons_succ, e1, e2]
  refine wpAnyH_take (i := 7) (oi := _) (v := ?_) rfl (by kernel_rfl) (by kernel_rfl) (by kernel_rfl) (fun _ _ _ h => h) (Or.inl ⟨by rfl, ?_⟩) (by with_reducible assumption) ?_
  rotate_left
  · (intro V hSw; obtain ⟨s1, s2⟩ := hSw; go_simp); with_reducible rfl
  try simp only [Act.put, List.setIfInBounds_toArray, List.set_cons_zero, List.set_cons_succ, e1, e2]
  refine wpAnyH_take (i := 8) (oi := _) (v := ?_) rfl (by kernel_rfl) (by kernel_rfl) (by kernel_rfl) (fun _ _ _ h => h) (Or.inl ⟨by rfl, ?_⟩) (by with_reducible assumption) ?_
  rotate_left
  · (intro V hSw; obtain ⟨s1, s2⟩ := hSw; go_simp); with_reducible rfl
  try simp only [Act.put, List.setIfInBounds_toArray, List.set_cons_zero, List.set_cons_succ, e1, e2]
  refine wpAnyH_ready (rs := [9]) (by kernel_rfl) (by simp) ?_
  refine AllReadyH.cons (o := _) rfl (fun K hK => ?_) AllReadyH.nil
  go_simp
  refine (c1 _).mono ?_
  rintro e w' ⟨rfl, rfl⟩
  exact ⟨rfl, .dhalt I _ _ s⟩

set_option maxHeartbeats 2000000 in
theorem d_total_out2 (hM : MS n L Q s q lk W) (x y : Int) (hl : inR s.low) (hh : inR s.high) (h1 : inR (s.high - s.low)) (h2 : ¬ inR (s.high - s.low + 1)) : Calls Tryz.prog 64 #[P1 n, I x, I y] W fun e w' => Ends n L Q s q lk W (.stop 7 0) I e w' := by
  have hc2 := hM.c2
  have hc3 := hM.c3
  have c1 := fun w => safe_in (s.high - s.low) w h1
  have c2 := fun w => safe_out (s.high - s.low + 1) w (by unfold inR at *; omega) (by unfold inR at *; omega) h2
  have e1 : IntKind.i64.wrap (s.high - s.low) = s.high - s.low := IntWalk.i64_in _ (by unfold inR at *; omega)
  have e2 : IntKind.i64.wrap (s.high - s.low + 1) = s.high - s.low + 1 := IntWalk.i64_in _ (by unfold inR at *; omega)
  go_enter Tryz.func64, Tryz.ntmps64
  go_wp2
  refine wp_region_held_drew (S := (fun V => V.cell? ⟨n + 1, 2, none⟩ = some (I s.low) ∧ V.cell? ⟨n + 1, 3, none⟩ = some (I s.high))) (by kernel_rfl) ⟨hc2, hc3⟩ (fun hHeld => ?_)
  refine wpAnyH_take (i := 0) (oi := _) (v := ?_) rfl (by kernel_rfl) (by kernel_rfl) (by kernel_rfl) (fun _ _ _ h => h) (Or.inl ⟨by rfl, ?_⟩) (by with_reducible assumption) ?_
  rotate_left
  · (intro V hSw; obtain ⟨s1, s2⟩ := hSw; go_simp); with_reducible rfl
  try simp only [Act.put, List.setIfInBounds_toArray, List.set_cons_zero, List.set_cons_succ, e1, e2]
  refine wpAnyH_take (i := 1) (oi := _) (v := ?_) rfl (by kernel_rfl) (by kernel_rfl) (by kernel_rfl) (fun _ _ _ h => h) (Or.inl ⟨by rfl, ?_⟩) (by with_reducible assumption) ?_
  rotate_left
  · (intro V hSw; obtain ⟨s1, s2⟩ := hSw; go_simp); with_reducible rfl
  try simp only [Act.put, List.setIfInBounds_toArray, List.set_cons_zero, List.set_cons_succ, e1, e2]
  refine wpAnyH_take (i := 2) (oi := _) (v := ?_) rfl (by kernel_rfl) (by kernel_rfl) (by kernel_rfl) (fun _ _ _ h => h) (Or.inl ⟨by rfl, ?_⟩) (by with_reducible assumption) ?_
  rotate_left
  · (intro V hSw; obtain ⟨s1, s2⟩ := hSw; go_simp); with_reducible rfl
  try simp only [Act.put, List.setIfInBounds_toArray, List.set_cons_zero, List.set_cons_succ, e1, e2]
  refine wpAnyH_take (i := 3) (oi := _) (v := ?_) rfl (by kernel_rfl) (by kernel_rfl) (by kernel_rfl) (fun _ _ _ h => h) (Or.inl ⟨by rfl, ?_⟩) (by with_reducible assumption) ?_
  rotate_left
  · (intro V hSw; obtain ⟨s1, s2⟩ := hSw; go_simp); with_reducible rfl
  try simp only [Act.put, List.setIfInBounds_toArray, List.set_cons_zero, List.set_cons_succ, e1, e2]
  refine wpAnyH_take (i := 4) (oi := _) (v := ?_) rfl (by kernel_rfl) (by kernel_rfl) (by kernel_rfl) (fun _ _ _ h => h) (Or.inl ⟨by rfl, ?_⟩) (by with_reducible assumption) ?_
  rotate_left
  · (intro V hSw; obtain ⟨s1, s2⟩ := hSw; go_simp); with_reducible rfl
  try simp only [Act.put, List.setIfInBounds_toArray, List.set_cons_zero, List.set_cons_succ, e1, e2]
  refine wpAnyH_take (i := 5) (oi := _) (v := ?_) rfl (by kernel_rfl) (by kernel_rfl) (by kernel_rfl) (fun _ _ _ h => h) (Or.inl ⟨by rfl, ?_⟩) (by with_reducible assumption) ?_
  rotate_left
  · (intro V hSw; obtain ⟨s1, s2⟩ := hSw; go_simp); with_reducible rfl
  try simp only [Act.put, List.setIfInBounds_toArray, List.set_cons_zero, List.set_cons_succ, e1, e2]
  refine wpAnyH_take (i := 6) (oi := _) (v := ?_) rfl (by kernel_rfl) (by kernel_rfl) (by kernel_rfl) (fun _ _ _ h => h) (Or.inl ⟨by rfl, ?_⟩) (by with_reducible assumption) ?_
  rotate_left
  · (intro V hSw; obtain ⟨s1, s2⟩ := hSw; go_simp); with_reducible rfl
  try simp only [Act.put, List.setIfInBounds_toArray, List.set_cons_zero, List.set_cons_succ, e1, e2]
  refine wpAnyH_take (i := 7) (oi := _) (v := ?_) rfl (by kernel_rfl) (by kernel_rfl) (by kernel_rfl) (fun _ _ _ h => h) (Or.inl ⟨by rfl, ?_⟩) (by with_reducible assumption) ?_
  rotate_left
  · (intro V hSw; obtain ⟨s1, s2⟩ := hSw; go_simp); with_reducible rfl
  try simp only [Act.put, List.setIfInBounds_toArray, List.set_cons_zero, List.set_cons_succ, e1, e2]
  refine wpAnyH_take (i := 8) (oi := _) (v := ?_) rfl (by kernel_rfl) (by kernel_rfl) (by kernel_rfl) (fun _ _ _ h => h) (Or.inl ⟨by rfl, ?_⟩) (by with_reducible assumption) ?_
  rotate_left
  · (intro V hSw; obtain ⟨s1, s2⟩ := hSw; go_simp); with_reducible rfl
  try simp only [Act.put, List.setIfInBounds_toArray, List.set_cons_zero, List.set_cons_succ, e1, e2]
  refine wpAnyH_ready (rs := [9]) (by kernel_rfl) (by simp) ?_
  refine AllReadyH.cons (o := _) rfl (fun K hK => ?_) AllReadyH.nil
  go_simp
  refine (c1 _).mono ?_
  rintro e w' ⟨rfl, rfl⟩
  dsimp only
  refine hK.out _ _ hHeld (fun hHeld => ?_)
  clear hK K
  try simp only [Act.put, List.setIfInBounds_toArray, List.set_cons_zero, List.set_cons_succ, e1, e2]
  refine wpAnyH_take (i := 10) (oi := _) (v := ?_) rfl (by kernel_rfl) (by kernel_rfl) (by kernel_rfl) (fun _ _ _ h => h) (Or.inl ⟨by rfl, ?_⟩) (by with_reducible assumption) ?_
  rotate_left
  · (intro V hSw; obtain ⟨s1, s2⟩ := hSw; go_simp); with_reducible rfl
  try simp only [Act.put, List.setIfInBounds_toArray, List.set_cons_zero, List.set_cons_succ, e1, e2]
  refine wpAnyH_ready (rs := [11]) (by kernel_rfl) (by simp) ?_
  refine AllReadyH.cons (o := _) rfl (fun K hK => ?_) AllReadyH.nil
  go_simp
  refine (c2 _).mono ?_
  rintro e w' ⟨rfl, rfl⟩
  exact ⟨rfl, .dhalt I _ _ s⟩
end Go.Proofs.Bm

namespace Go.Proofs.Bm
open Go.RowKit Go.Maps
variable {n q : Nat} {L : List (ByteArray × Value)} {Q : List Value} {s : St} {lk : Option Nat} {W : World}

def totO (low high : Int) : Nat → Int → Int → Out
  | 0, _, n => .ret n
  | f + 1, k, n => if k ≤ high then (if 100000 ≤ k - low then .stop 0 3 else if inR (n + k) then totO low high f (k + 1) (n + k) else .stop 7 0) else .ret n

set_option maxHeartbeats 2000000 in
theorem d_total_in (hM : MS n L Q s q lk W) (x y : Int) (hl : inR s.low) (hh : inR s.high) (h1 : inR (s.high - s.low)) (h2 : inR (s.high - s.low + 1)) : Calls Tryz.prog 64 #[P1 n, I x, I y] W fun e w' => Ends n L Q s q lk W (totO s.low s.high ((s.high - s.low).toNat + 2) s.low 0) I e w' := by
  have hc2 := hM.c2
  have hc3 := hM.c3
  have c1 := fun w => safe_in (s.high - s.low) w h1
  have c2 := fun w => safe_in (s.high - s.low + 1) w h2
  have e1 : IntKind.i64.wrap (s.high - s.low) = s.high - s.low := IntWalk.i64_in _ (by unfold inR at *; omega)
  have e2 : IntKind.i64.wrap (s.high - s.low + 1) = s.high - s.low + 1 := IntWalk.i64_in _ (by unfold inR at *; omega)
  obtain ⟨R, hR⟩ : ∃ R, R = totO s.low s.high ((s.high - s.low).toNat + 2) s.low 0 := ⟨_, rfl⟩
  rw [← hR]
  replace hR := Lib.hid hR
  go_enter Tryz.func64, Tryz.ntmps64
  go_wp2
  refine wp_region_held_drew (S := (fun V => V.cell? ⟨n + 1, 2, none⟩ = some (I s.low) ∧ V.cell? ⟨n + 1, 3, none⟩ = some (I s.high))) (by kernel_rfl) ⟨hc2, hc3⟩ (fun hHeld => ?_)
  refine wpAnyH_take (i := 0) (oi := _) (v := ?_) rfl (by kernel_rfl) (by kernel_rfl) (by kernel_rfl) (fun _ _ _ h => h) (Or.inl ⟨by rfl, ?_⟩) (by with_reducible assumption) ?_
  rotate_left
  · (intro V hSw; obtain ⟨s1, s2⟩ := hSw; go_simp); with_reducible rfl
  try simp only [Act.put, List.setIfInBounds_toArray, List.set_cons_zero, List.set_cons_succ, e1, e2]
  refine wpAnyH_take (i := 1) (oi := _) (v := ?_) rfl (by kernel_rfl) (by kernel_rfl) (by kernel_rfl) (fun _ _ _ h => h) (Or.inl ⟨by rfl, ?_⟩) (by with_reducible assumption) ?_
  rotate_left
  · (intro V hSw; obtain ⟨s1, s2⟩ := hSw; go_simp); with_reducible rfl
  try simp only [Act.put, List.setIfInBounds_toArray, List.set_cons_zero, List.set_cons_succ, e1, e2]
  refine wpAnyH_take (i := 2) (oi := _) (v := ?_) rfl (by kernel_rfl) (by kernel_rfl) (by kernel_rfl) (fun _ _ _ h => h) (Or.inl ⟨by rfl, ?_⟩) (by with_reducible assumption) ?_
  rotate_left
  · (intro V hSw; obtain ⟨s1, s2⟩ := hSw; go_simp); with_reducible rfl
  try simp only [Act.put, List.setIfInBounds_toArray, List.set_cons_zero, List.set_cons_succ, e1, e2]
  refine wpAnyH_take (i := 3) (oi := _) (v := ?_) rfl (by kernel_rfl) (by kernel_rfl) (by kernel_rfl) (fun _ _ _ h => h) (Or.inl ⟨by rfl, ?_⟩) (by with_reducible assumption) ?_
  rotate_left
  · (intro V hSw; obtain ⟨s1, s2⟩ := hSw; go_simp); with_reducible rfl
  try simp only [Act.put, List.setIfInBounds_toArray, List.set_cons_zero, List.set_cons_succ, e1, e2]
  refine wpAnyH_take (i := 4) (oi := _) (v := ?_) rfl (by kernel_rfl) (by kernel_rfl) (by kernel_rfl) (fun _ _ _ h => h) (Or.inl ⟨by rfl, ?_⟩) (by with_reducible assumption) ?_
  rotate_left
  · (intro V hSw; obtain ⟨s1, s2⟩ := hSw; go_simp); with_reducible rfl
  try simp only [Act.put, List.setIfInBounds_toArray, List.set_cons_zero, List.set_cons_succ, e1, e2]
  refine wpAnyH_take (i := 5) (oi := _) (v := ?_) rfl (by kernel_rfl) (by kernel_rfl) (by kernel_rfl) (fun _ _ _ h => h) (Or.inl ⟨by rfl, ?_⟩) (by with_reducible assumption) ?_
  rotate_left
  · (intro V hSw; obtain ⟨s1, s2⟩ := hSw; go_simp); with_reducible rfl
  try simp only [Act.put, List.setIfInBounds_toArray, List.set_cons_zero, List.set_cons_succ, e1, e2]
  refine wpAnyH_take (i := 6) (oi := _) (v := ?_) rfl (by kernel_rfl) (by kernel_rfl) (by kernel_rfl) (fun _ _ _ h => h) (Or.inl ⟨by rfl, ?_⟩) (by with_reducible assumption) ?_
  rotate_left
  · (intro V hSw; obtain ⟨s1, s2⟩ := hSw; go_simp); with_reducible rfl
  try simp only [Act.put, List.setIfInBounds_toArray, List.set_cons_zero, List.set_cons_succ, e1, e2]
  refine wpAnyH_take (i := 7) (oi := _) (v := ?_) rfl (by kernel_rfl) (by kernel_rfl) (by kernel_rfl) (fun _ _ _ h => h) (Or.inl ⟨by rfl, ?_⟩) (by with_reducible assumption) ?_
  rotate_left
  · (intro V hSw; obtain ⟨s1, s2⟩ := hSw; go_simp); with_reducible rfl
  try simp only [Act.put, List.setIfInBounds_toArray, List.set_cons_zero, List.set_cons_succ, e1, e2]
  refine wpAnyH_take (i := 8) (oi := _) (v := ?_) rfl (by kernel_rfl) (by kernel_rfl) (by kernel_rfl) (fun _ _ _ h => h) (Or.inl ⟨by rfl, ?_⟩) (by with_reducible assumption) ?_
  rotate_left
  · (intro V hSw; obtain ⟨s1, s2⟩ := hSw; go_simp); with_reducible rfl
  try simp only [Act.put, List.setIfInBounds_toArray, List.set_cons_zero, List.set_cons_succ, e1, e2]
  refine wpAnyH_ready (rs := [9]) (by kernel_rfl) (by simp) ?_
  refine AllReadyH.cons (o := _) rfl (fun K hK => ?_) AllReadyH.nil
  go_simp
  refine (c1 _).mono ?_
  rintro e w' ⟨rfl, rfl⟩
  dsimp only
  refine hK.out _ _ hHeld (fun hHeld => ?_)
  clear hK K
  try simp only [Act.put, List.setIfInBounds_toArray, List.set_cons_zero, List.set_cons_succ, e1, e2]
  refine wpAnyH_take (i := 10) (oi := _) (v := ?_) rfl (by kernel_rfl) (by kernel_rfl) (by kernel_rfl) (fun _ _ _ h => h) (Or.inl ⟨by rfl, ?_⟩) (by with_reducible assumption) ?_
  rotate_left
  · (intro V hSw; obtain ⟨s1, s2⟩ := hSw; go_simp); with_reducible rfl
  try simp only [Act.put, List.setIfInBounds_toArray, List.set_cons_zero, List.set_cons_succ, e1, e2]
  refine wpAnyH_ready (rs := [11]) (by kernel_rfl) (by simp) ?_
  refine AllReadyH.cons (o := _) rfl (fun K hK => ?_) AllReadyH.nil
  go_simp
  refine (c2 _).mono ?_
  rintro e w' ⟨rfl, rfl⟩
  dsimp only
  refine hK.out _ _ hHeld (fun hHeld => ?_)
  clear hK K
  try simp only [Act.put, List.setIfInBounds_toArray, List.set_cons_zero, List.set_cons_succ, e1, e2]
  refine wpAnyH_done (by kernel_rfl) ?_ _
  have hd2 : W.drew.cell? ⟨n + 1, 2, none⟩ = some (I s.low) := hc2
  have hd3 : W.drew.cell? ⟨n + 1, 3, none⟩ = some (I s.high) := hc3
  have hM' := Lib.hid hM.drew
  have hE := Lib.hid hM
  obtain ⟨V, hV⟩ : ∃ V, V = W.drew := ⟨_, rfl⟩
  rw [← hV] at hd2 hd3 ⊢
  replace hV := Lib.hid hV
  clear c1 c2 e1 e2 hHeld hc2 hc3 hM
  have ⟨b1, b2⟩ := hl
  have ⟨b3, b4⟩ := hh
  have ⟨b5, b6⟩ := h1
  go_wp2_with fail
  go_loopg [7, 8] ((s.high - s.low).toNat + 1) (fun gg s7 s8 wr => ∃ (j : Nat) (m : Int), j ≤ (s.high - s.low + 1).toNat ∧ (s.high - s.low).toNat + 1 - j ≤ gg ∧ s7 = I m ∧ s8 = I (s.low + j) ∧ wr = V ∧ inR m ∧ Hid (R = totO s.low s.high ((s.high - s.low).toNat + 2 - j) (s.low + j) m))
  case atStart => exact ⟨0, 0, Nat.zero_le _, by omega, rfl, by simp, rfl, by simp [inR], Lib.hid (by rw [hR.out]; simp)⟩
  case round =>
    obtain ⟨j, m, hj, hg, rfl, rfl, rfl, hm, hs⟩ := hrel
    have ⟨m1, m2⟩ := hm
    by_cases hlt : s.low + (j : Int) ≤ s.high
    · have hs2 := hs.out
      rw [show (s.high - s.low).toNat + 2 - j = ((s.high - s.low).toNat + 2 - (j + 1)) + 1 by omega, totO, if_pos hlt] at hs2
      by_cases hbig : (100000 : Int) ≤ s.low + (j : Int) - s.low
      · rw [if_pos hbig] at hs2
        replace hs2 := Lib.hid hs2
        clear hs
        have hbj : 100000 ≤ j := by omega
        go_wp2
        rw [hs2.out, hV.out]
        exact ⟨rfl, .dhalt I _ _ s⟩
      · rw [if_neg hbig] at hs2
        replace hs2 := Lib.hid hs2
        clear hs
        have hbj : ¬ 100000 ≤ j := by omega
        by_cases hp : inR (m + (s.low + (j : Int)))
        · go_wp2_with (go_at_call 96; refine (safe_in _ _ hp).mono ?_; rintro e w' ⟨rfl, rfl⟩)
          go_roundg ((s.high - s.low).toNat + 1 - (j + 1))
          case measure => omega
          case rel => exact ⟨j + 1, m + (s.low + (j : Int)), by omega, by omega, rfl, by go_num, rfl, hp, Lib.hid (by have := hs2.out; rw [if_pos hp] at this; rw [this]; congr 1; push_cast; omega)⟩
        · go_wp2_with (go_at_call 96; refine (safe_out _ _ (by omega) (by omega) hp).mono ?_; rintro e w' ⟨rfl, rfl⟩)
          have := hs2.out
          rw [if_neg hp] at this
          rw [this, hV.out]
          exact ⟨rfl, .dhalt I _ _ s⟩
    · have hs2 := hs.out
      have e0 : totO s.low s.high ((s.high - s.low).toNat + 2 - j) (s.low + j) m = .ret m := by
        cases hh : (s.high - s.low).toNat + 2 - j with
        | zero => rfl
        | succ i => rw [totO, if_neg hlt]
      rw [e0] at hs2
      replace hs2 := Lib.hid hs2
      clear hs e0
      go_wp2
      go_ret
      rw [hs2.out, hV.out]
      exact .drew hE.out I _
end Go.Proofs.Bm
