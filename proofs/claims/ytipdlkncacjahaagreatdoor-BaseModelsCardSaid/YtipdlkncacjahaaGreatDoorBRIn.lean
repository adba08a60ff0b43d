/- The reference's INTS and SORTED. No condition but the state's. -/
import Derived.Test.YtipdlkncacjahaaGreatDoorBLive
set_option linter.unusedSimpArgs false
set_option linter.unusedVariables false
namespace Go.Proofs.Bm
open Go.RowKit Go.Maps
variable {b : Nat} {s s' s'' : RSt} {lL lK lO : Option Nat} {W w' w'' : World}

set_option maxRecDepth 100000 in
set_option maxHeartbeats 2000000 in
theorem r_ints_count (h : RS b s lL lK lO W) (hn : s.out.length ≤ 1000) (hn2 : s.L.length ≤ 1000) (x y : Int) (so : Bool) :
    Calls Tryz.prog 19 #[PB b, CL ⟨#[99, 111, 117, 110, 116]⟩ x y, .bool so] W fun e w' => e = .returned (.tuple #[]) ∧ REnds b { s with out := s.out ++ [(s.L.length : Int)] } lL lK lO W w' := by
  obtain ⟨V, hV⟩ : ∃ V, V = W.alloc (.cells #[.string ⟨#[99, 111, 117, 110, 116]⟩, I x, I y] 40) := ⟨_, rfl⟩
  have hA : RS b s lL lK lO V := by rw [hV]; exact h.alloc _
  obtain ⟨gx0, gx⟩ : V.cell? ⟨W.heap.size, 0, none⟩ = some (.string ⟨#[99, 111, 117, 110, 116]⟩) ∧ V.cell? ⟨W.heap.size, 1, none⟩ = some (I x) := by
    rw [hV]
    refine ⟨?_, ?_⟩ <;> (unfold World.cell?; rw [heap_alloc, if_pos rfl]; rfl)
  obtain ⟨lv, gc, ho⟩ := hA.c0
  have gf := hA.f 0
  have hfb : lL ≠ some b := fun e => (hA.dL b e).1 rfl
  obtain ⟨a0, cap0, rfl, _⟩ := ho.form
  have gcW := gc
  rw [hV] at gcW
  have gfW := gf
  rw [hV] at gfW
  have hoW := ho
  rw [hV] at hoW
  have hAW := hA
  rw [hV] at hAW
  replace hV := Lib.hid hV
  replace hA := Lib.hid hA
  replace hAW := Lib.hid hAW
  go_enter Tryz.func19, Tryz.ntmps19
  go_wp2_with (go_at_call 77; refine (r_put hAW.out hn s.L.length).mono ?_; rintro e w' ⟨rfl, hR⟩)
  first | go_end0 | ((try simp only [Exit.inBlock, Exit.then]); refine bodyPost_ret (results_none rfl _ _ _) rfl ?_)
  exact ⟨rfl, hR.alloc⟩

set_option maxRecDepth 100000 in
set_option maxHeartbeats 2000000 in
theorem r_ints_wipe (h : RS b s lL lK lO W) (hn : s.out.length ≤ 1000) (hn2 : s.L.length ≤ 1000) (x y : Int) (so : Bool) :
    Calls Tryz.prog 19 #[PB b, CL ⟨#[119, 105, 112, 101]⟩ x y, .bool so] W fun e w' => e = .returned (.tuple #[]) ∧ REnds b { s with L := [] } lL lK lO W w' := by
  obtain ⟨V, hV⟩ : ∃ V, V = W.alloc (.cells #[.string ⟨#[119, 105, 112, 101]⟩, I x, I y] 40) := ⟨_, rfl⟩
  have hA : RS b s lL lK lO V := by rw [hV]; exact h.alloc _
  obtain ⟨gx0, gx⟩ : V.cell? ⟨W.heap.size, 0, none⟩ = some (.string ⟨#[119, 105, 112, 101]⟩) ∧ V.cell? ⟨W.heap.size, 1, none⟩ = some (I x) := by
    rw [hV]
    refine ⟨?_, ?_⟩ <;> (unfold World.cell?; rw [heap_alloc, if_pos rfl]; rfl)
  obtain ⟨lv, gc, ho⟩ := hA.c0
  have gf := hA.f 0
  have hfb : lL ≠ some b := fun e => (hA.dL b e).1 rfl
  obtain ⟨a0, cap0, rfl, _⟩ := ho.form
  have gcW := gc
  rw [hV] at gcW
  have gfW := gf
  rw [hV] at gfW
  have hoW := ho
  rw [hV] at hoW
  have hAW := hA
  rw [hV] at hAW
  replace hV := Lib.hid hV
  replace hA := Lib.hid hA
  replace hAW := Lib.hid hAW
  go_enter Tryz.func19, Tryz.ntmps19
  go_wp2
  first | go_end0 | ((try simp only [Exit.inBlock, Exit.then]); refine bodyPost_ret (results_none rfl _ _ _) rfl ?_)
  exact ⟨rfl, (hAW.out.set_L (Kept.refl _ _) (OwnI.nil _) (.inr (fun _ e => (by cases e)))).alloc⟩

set_option maxRecDepth 100000 in
set_option maxHeartbeats 2000000 in
theorem r_ints_has_yes (h : RS b s lL lK lO W) (hn : s.out.length ≤ 1000) (hn2 : s.L.length ≤ 1000) (x y : Int) (so : Bool) (i : Nat) (hx : idx s.L x = (i : Int)) :
    Calls Tryz.prog 19 #[PB b, CL ⟨#[104, 97, 115]⟩ x y, .bool so] W fun e w' => e = .returned (.tuple #[]) ∧ REnds b { s with out := s.out ++ [1] } lL lK lO W w' := by
  obtain ⟨V, hV⟩ : ∃ V, V = W.alloc (.cells #[.string ⟨#[104, 97, 115]⟩, I x, I y] 40) := ⟨_, rfl⟩
  have hA : RS b s lL lK lO V := by rw [hV]; exact h.alloc _
  obtain ⟨gx0, gx⟩ : V.cell? ⟨W.heap.size, 0, none⟩ = some (.string ⟨#[104, 97, 115]⟩) ∧ V.cell? ⟨W.heap.size, 1, none⟩ = some (I x) := by
    rw [hV]
    refine ⟨?_, ?_⟩ <;> (unfold World.cell?; rw [heap_alloc, if_pos rfl]; rfl)
  obtain ⟨lv, gc, ho⟩ := hA.c0
  have gf := hA.f 0
  have hfb : lL ≠ some b := fun e => (hA.dL b e).1 rfl
  obtain ⟨a0, cap0, rfl, _⟩ := ho.form
  have gcW := gc
  rw [hV] at gcW
  have gfW := gf
  rw [hV] at gfW
  have hoW := ho
  rw [hV] at hoW
  have hAW := hA
  rw [hV] at hAW
  replace hV := Lib.hid hV
  replace hA := Lib.hid hA
  replace hAW := Lib.hid hAW
  have hi0 : (0 : Int) ≤ (i : Int) := by omega
  have hix := r_index (w := V.drew) ho.drew x
  rw [hx] at hix
  go_enter Tryz.func19, Tryz.ntmps19
  go_wp2_with fail
  rw [← hV.out]
  refine wp_region_live 9 (fun V => V.cell? ⟨b, 0, none⟩ = some (.slice a0 s.L.length cap0) ∧ V.cell? ⟨W.heap.size, 1, none⟩ = some (I x)) (by kernel_rfl) ⟨gc, gx⟩ (fun hHeld => ?_)
  refine wpAnyT_take (i := 0) (oi := _) (v := ?_) rfl (by kernel_rfl) (by kernel_rfl) (by kernel_rfl) (by kernel_rfl) (by kernel_rfl) (fun _ _ _ h => h) (Or.inl ⟨by rfl, ?_⟩) (by with_reducible assumption) ?_
  rotate_left
  · (intro V hSw; obtain ⟨s1, s2⟩ := hSw; go_simp); with_reducible rfl
  try simp only [Act.put, List.setIfInBounds_toArray, List.set_cons_zero, List.set_cons_succ]
  refine wpAnyT_take (i := 1) (oi := _) (v := ?_) rfl (by kernel_rfl) (by kernel_rfl) (by kernel_rfl) (by kernel_rfl) (by kernel_rfl) (fun _ _ _ h => h) (Or.inl ⟨by rfl, ?_⟩) (by with_reducible assumption) ?_
  rotate_left
  · (intro V hSw; obtain ⟨s1, s2⟩ := hSw; go_simp); with_reducible rfl
  try simp only [Act.put, List.setIfInBounds_toArray, List.set_cons_zero, List.set_cons_succ]
  refine wpAnyT_take (i := 2) (oi := _) (v := ?_) rfl (by kernel_rfl) (by kernel_rfl) (by kernel_rfl) (by kernel_rfl) (by kernel_rfl) (fun _ _ _ h => h) (Or.inl ⟨by rfl, ?_⟩) (by with_reducible assumption) ?_
  rotate_left
  · (intro V hSw; obtain ⟨s1, s2⟩ := hSw; go_simp); with_reducible rfl
  try simp only [Act.put, List.setIfInBounds_toArray, List.set_cons_zero, List.set_cons_succ]
  refine wpAnyT_take (i := 3) (oi := _) (v := ?_) rfl (by kernel_rfl) (by kernel_rfl) (by kernel_rfl) (by kernel_rfl) (by kernel_rfl) (fun _ _ _ h => h) (Or.inl ⟨by rfl, ?_⟩) (by with_reducible assumption) ?_
  rotate_left
  · (intro V hSw; obtain ⟨s1, s2⟩ := hSw; go_simp); with_reducible rfl
  try simp only [Act.put, List.setIfInBounds_toArray, List.set_cons_zero, List.set_cons_succ]
  refine wpAnyT_take (i := 4) (oi := _) (v := ?_) rfl (by kernel_rfl) (by kernel_rfl) (by kernel_rfl) (by kernel_rfl) (by kernel_rfl) (fun _ _ _ h => h) (Or.inl ⟨by rfl, ?_⟩) (by with_reducible assumption) ?_
  rotate_left
  · (intro V hSw; obtain ⟨s1, s2⟩ := hSw; go_simp); with_reducible rfl
  try simp only [Act.put, List.setIfInBounds_toArray, List.set_cons_zero, List.set_cons_succ]
  refine wpAnyT_take (i := 5) (oi := _) (v := ?_) rfl (by kernel_rfl) (by kernel_rfl) (by kernel_rfl) (by kernel_rfl) (by kernel_rfl) (fun _ _ _ h => h) (Or.inl ⟨by rfl, ?_⟩) (by with_reducible assumption) ?_
  rotate_left
  · (intro V hSw; obtain ⟨s1, s2⟩ := hSw; go_simp); with_reducible rfl
  try simp only [Act.put, List.setIfInBounds_toArray, List.set_cons_zero, List.set_cons_succ]
  refine wpAnyT_take (i := 6) (oi := _) (v := ?_) rfl (by kernel_rfl) (by kernel_rfl) (by kernel_rfl) (by kernel_rfl) (by kernel_rfl) (fun _ _ _ h => h) (Or.inl ⟨by rfl, ?_⟩) (by with_reducible assumption) ?_
  rotate_left
  · (intro V hSw; obtain ⟨s1, s2⟩ := hSw; go_simp); with_reducible rfl
  try simp only [Act.put, List.setIfInBounds_toArray, List.set_cons_zero, List.set_cons_succ]
  refine wpAnyT_ready (rs := [7]) (by kernel_rfl) (by simp) ?_
  refine AllReadyT.live (o := _) rfl (fun K hK => ?_) AllReadyT.nil
  go_simp
  refine hix.mono ?_
  rintro e w' ⟨rfl, rfl⟩
  dsimp only
  refine hK.out _ _ hHeld (fun hHeld => ?_)
  clear hK K
  try simp only [Act.put, List.setIfInBounds_toArray, List.set_cons_zero, List.set_cons_succ]
  refine wpAnyT_take (i := 8) (oi := _) (v := ?_) rfl (by kernel_rfl) (by kernel_rfl) (by kernel_rfl) (by kernel_rfl) (by kernel_rfl) (fun _ _ _ h => h) (Or.inl ⟨by rfl, ?_⟩) (by with_reducible assumption) ?_
  rotate_left
  · (intro V hSw; obtain ⟨s1, s2⟩ := hSw; go_simp); with_reducible rfl
  try simp only [Act.put, List.setIfInBounds_toArray, List.set_cons_zero, List.set_cons_succ]
  refine wpAnyT_ready (rs := [9]) (by kernel_rfl) (by simp) ?_
  refine AllReadyT.dead (o := _) rfl (by kernel_rfl) (fun K hK => ?_) AllReadyT.nil
  go_simp
  refine (r_truth hA.out.drew hn true).mono ?_
  rintro e w' ⟨rfl, hR⟩
  dsimp only
  refine hK.out _ _ ?_
  clear hK K
  try simp only [Act.put, List.setIfInBounds_toArray, List.set_cons_zero, List.set_cons_succ]
  refine wpAnyT_done (by kernel_rfl) ?_ _
  go_wp2_with fail
  first | go_end0 | ((try simp only [Exit.inBlock, Exit.then]); refine bodyPost_ret (results_none rfl _ _ _) rfl ?_)
  replace hR := REnds.drewN (k := 1) hR
  rw [hV.out] at hR
  exact ⟨rfl, hR.alloc⟩

set_option maxRecDepth 100000 in
set_option maxHeartbeats 2000000 in
theorem r_ints_has_no (h : RS b s lL lK lO W) (hn : s.out.length ≤ 1000) (hn2 : s.L.length ≤ 1000) (x y : Int) (so : Bool) (hx : idx s.L x = -1) :
    Calls Tryz.prog 19 #[PB b, CL ⟨#[104, 97, 115]⟩ x y, .bool so] W fun e w' => e = .returned (.tuple #[]) ∧ REnds b { s with out := s.out ++ [0] } lL lK lO W w' := by
  obtain ⟨V, hV⟩ : ∃ V, V = W.alloc (.cells #[.string ⟨#[104, 97, 115]⟩, I x, I y] 40) := ⟨_, rfl⟩
  have hA : RS b s lL lK lO V := by rw [hV]; exact h.alloc _
  obtain ⟨gx0, gx⟩ : V.cell? ⟨W.heap.size, 0, none⟩ = some (.string ⟨#[104, 97, 115]⟩) ∧ V.cell? ⟨W.heap.size, 1, none⟩ = some (I x) := by
    rw [hV]
    refine ⟨?_, ?_⟩ <;> (unfold World.cell?; rw [heap_alloc, if_pos rfl]; rfl)
  obtain ⟨lv, gc, ho⟩ := hA.c0
  have gf := hA.f 0
  have hfb : lL ≠ some b := fun e => (hA.dL b e).1 rfl
  obtain ⟨a0, cap0, rfl, _⟩ := ho.form
  have gcW := gc
  rw [hV] at gcW
  have gfW := gf
  rw [hV] at gfW
  have hoW := ho
  rw [hV] at hoW
  have hAW := hA
  rw [hV] at hAW
  replace hV := Lib.hid hV
  replace hA := Lib.hid hA
  replace hAW := Lib.hid hAW
  have hix := r_index (w := V.drew) ho.drew x
  rw [hx] at hix
  go_enter Tryz.func19, Tryz.ntmps19
  go_wp2_with fail
  rw [← hV.out]
  refine wp_region_live 9 (fun V => V.cell? ⟨b, 0, none⟩ = some (.slice a0 s.L.length cap0) ∧ V.cell? ⟨W.heap.size, 1, none⟩ = some (I x)) (by kernel_rfl) ⟨gc, gx⟩ (fun hHeld => ?_)
  refine wpAnyT_take (i := 0) (oi := _) (v := ?_) rfl (by kernel_rfl) (by kernel_rfl) (by kernel_rfl) (by kernel_rfl) (by kernel_rfl) (fun _ _ _ h => h) (Or.inl ⟨by rfl, ?_⟩) (by with_reducible assumption) ?_
  rotate_left
  · (intro V hSw; obtain ⟨s1, s2⟩ := hSw; go_simp); with_reducible rfl
  try simp only [Act.put, List.setIfInBounds_toArray, List.set_cons_zero, List.set_cons_succ]
  refine wpAnyT_take (i := 1) (oi := _) (v := ?_) rfl (by kernel_rfl) (by kernel_rfl) (by kernel_rfl) (by kernel_rfl) (by kernel_rfl) (fun _ _ _ h => h) (Or.inl ⟨by rfl, ?_⟩) (by with_reducible assumption) ?_
  rotate_left
  · (intro V hSw; obtain ⟨s1, s2⟩ := hSw; go_simp); with_reducible rfl
  try simp only [Act.put, List.setIfInBounds_toArray, List.set_cons_zero, List.set_cons_succ]
  refine wpAnyT_take (i := 2) (oi := _) (v := ?_) rfl (by kernel_rfl) (by kernel_rfl) (by kernel_rfl) (by kernel_rfl) (by kernel_rfl) (fun _ _ _ h => h) (Or.inl ⟨by rfl, ?_⟩) (by with_reducible assumption) ?_
  rotate_left
  · (intro V hSw; obtain ⟨s1, s2⟩ := hSw; go_simp); with_reducible rfl
  try simp only [Act.put, List.setIfInBounds_toArray, List.set_cons_zero, List.set_cons_succ]
  refine wpAnyT_take (i := 3) (oi := _) (v := ?_) rfl (by kernel_rfl) (by kernel_rfl) (by kernel_rfl) (by kernel_rfl) (by kernel_rfl) (fun _ _ _ h => h) (Or.inl ⟨by rfl, ?_⟩) (by with_reducible assumption) ?_
  rotate_left
  · (intro V hSw; obtain ⟨s1, s2⟩ := hSw; go_simp); with_reducible rfl
  try simp only [Act.put, List.setIfInBounds_toArray, List.set_cons_zero, List.set_cons_succ]
  refine wpAnyT_take (i := 4) (oi := _) (v := ?_) rfl (by kernel_rfl) (by kernel_rfl) (by kernel_rfl) (by kernel_rfl) (by kernel_rfl) (fun _ _ _ h => h) (Or.inl ⟨by rfl, ?_⟩) (by with_reducible assumption) ?_
  rotate_left
  · (intro V hSw; obtain ⟨s1, s2⟩ := hSw; go_simp); with_reducible rfl
  try simp only [Act.put, List.setIfInBounds_toArray, List.set_cons_zero, List.set_cons_succ]
  refine wpAnyT_take (i := 5) (oi := _) (v := ?_) rfl (by kernel_rfl) (by kernel_rfl) (by kernel_rfl) (by kernel_rfl) (by kernel_rfl) (fun _ _ _ h => h) (Or.inl ⟨by rfl, ?_⟩) (by with_reducible assumption) ?_
  rotate_left
  · (intro V hSw; obtain ⟨s1, s2⟩ := hSw; go_simp); with_reducible rfl
  try simp only [Act.put, List.setIfInBounds_toArray, List.set_cons_zero, List.set_cons_succ]
  refine wpAnyT_take (i := 6) (oi := _) (v := ?_) rfl (by kernel_rfl) (by kernel_rfl) (by kernel_rfl) (by kernel_rfl) (by kernel_rfl) (fun _ _ _ h => h) (Or.inl ⟨by rfl, ?_⟩) (by with_reducible assumption) ?_
  rotate_left
  · (intro V hSw; obtain ⟨s1, s2⟩ := hSw; go_simp); with_reducible rfl
  try simp only [Act.put, List.setIfInBounds_toArray, List.set_cons_zero, List.set_cons_succ]
  refine wpAnyT_ready (rs := [7]) (by kernel_rfl) (by simp) ?_
  refine AllReadyT.live (o := _) rfl (fun K hK => ?_) AllReadyT.nil
  go_simp
  refine hix.mono ?_
  rintro e w' ⟨rfl, rfl⟩
  dsimp only
  refine hK.out _ _ hHeld (fun hHeld => ?_)
  clear hK K
  try simp only [Act.put, List.setIfInBounds_toArray, List.set_cons_zero, List.set_cons_succ]
  refine wpAnyT_take (i := 8) (oi := _) (v := ?_) rfl (by kernel_rfl) (by kernel_rfl) (by kernel_rfl) (by kernel_rfl) (by kernel_rfl) (fun _ _ _ h => h) (Or.inl ⟨by rfl, ?_⟩) (by with_reducible assumption) ?_
  rotate_left
  · (intro V hSw; obtain ⟨s1, s2⟩ := hSw; go_simp); with_reducible rfl
  try simp only [Act.put, List.setIfInBounds_toArray, List.set_cons_zero, List.set_cons_succ]
  refine wpAnyT_ready (rs := [9]) (by kernel_rfl) (by simp) ?_
  refine AllReadyT.dead (o := _) rfl (by kernel_rfl) (fun K hK => ?_) AllReadyT.nil
  go_simp
  refine (r_truth hA.out.drew hn false).mono ?_
  rintro e w' ⟨rfl, hR⟩
  dsimp only
  refine hK.out _ _ ?_
  clear hK K
  try simp only [Act.put, List.setIfInBounds_toArray, List.set_cons_zero, List.set_cons_succ]
  refine wpAnyT_done (by kernel_rfl) ?_ _
  go_wp2_with fail
  first | go_end0 | ((try simp only [Exit.inBlock, Exit.then]); refine bodyPost_ret (results_none rfl _ _ _) rfl ?_)
  replace hR := REnds.drewN (k := 1) hR
  rw [hV.out] at hR
  exact ⟨rfl, hR.alloc⟩

set_option maxRecDepth 100000 in
set_option maxHeartbeats 2000000 in
theorem r_ints_item_in (h : RS b s lL lK lO W) (hn : s.out.length ≤ 1000) (hn2 : s.L.length ≤ 1000) (x y : Int) (so : Bool) (k : Nat) (z : Int) (hz : s.L[k]? = some z) (hx : x = (k : Int) + 1) :
    Calls Tryz.prog 19 #[PB b, CL ⟨#[105, 116, 101, 109]⟩ x y, .bool so] W fun e w' => e = .returned (.tuple #[]) ∧ REnds b { s with out := s.out ++ [z] } lL lK lO W w' := by
  obtain ⟨V, hV⟩ : ∃ V, V = W.alloc (.cells #[.string ⟨#[105, 116, 101, 109]⟩, I x, I y] 40) := ⟨_, rfl⟩
  have hA : RS b s lL lK lO V := by rw [hV]; exact h.alloc _
  obtain ⟨gx0, gx⟩ : V.cell? ⟨W.heap.size, 0, none⟩ = some (.string ⟨#[105, 116, 101, 109]⟩) ∧ V.cell? ⟨W.heap.size, 1, none⟩ = some (I x) := by
    rw [hV]
    refine ⟨?_, ?_⟩ <;> (unfold World.cell?; rw [heap_alloc, if_pos rfl]; rfl)
  obtain ⟨lv, gc, ho⟩ := hA.c0
  have gf := hA.f 0
  have hfb : lL ≠ some b := fun e => (hA.dL b e).1 rfl
  obtain ⟨a0, cap0, rfl, _⟩ := ho.form
  have gcW := gc
  rw [hV] at gcW
  have gfW := gf
  rw [hV] at gfW
  have hoW := ho
  rw [hV] at hoW
  have hAW := hA
  rw [hV] at hAW
  replace hV := Lib.hid hV
  replace hA := Lib.hid hA
  replace hAW := Lib.hid hAW
  have hlt := (List.getElem?_eq_some_iff.1 hz).1
  obtain ⟨bb, off, rfl, hbb⟩ : ∃ bb off, a0 = some ⟨bb, off, none⟩ ∧ lL = some bb := by
    rcases ho.cases with ⟨e, _, e0⟩ | ⟨bb, off, cap, e, e2⟩
    · rw [e0] at hlt; simp at hlt
    · cases e; exact ⟨bb, off, rfl, e2⟩
  have hcz := ho.cell hz
  have hin := r_in x 1 s.L.length
  rw [show decide (1 ≤ x ∧ x ≤ (s.L.length : Int)) = true by simp; omega] at hin
  have hk0 : (0 : Int) ≤ (k : Int) := by omega
  have hk1 : (k : Int) < (s.L.length : Int) := by omega
  have e1 : IntKind.i64.wrap (x - 1) = (k : Int) := by rw [IntWalk.i64_in _ (by omega)]; omega
  replace hz := Lib.hid hz
  replace hx := Lib.hid hx
  replace hbb := Lib.hid hbb
  go_enter Tryz.func19, Tryz.ntmps19
  go_wp2_with fail
  go_quiet ((go_at_call 76; exact Calls.quiet_of_same ((hin _).mono fun _ _ h => ⟨h.1, h.2.symm⟩)))
  go_wp2_with fail
  have e2 := hV.out
  obtain ⟨V2, hV2⟩ : ∃ V2, V2 = V.drewN nq := ⟨_, rfl⟩
  rw [← hV.out, ← hV2]
  have gc2 : V2.cell? ⟨b, 0, none⟩ = some (.slice (some ⟨bb, off, none⟩) s.L.length cap0) := by rw [hV2]; exact gc
  have gx2 : V2.cell? ⟨W.heap.size, 1, none⟩ = some (I x) := by rw [hV2]; exact gx
  have gz2 : V2.cell? ⟨bb, off + k, none⟩ = some (I z) := by rw [hV2]; exact hcz
  have hS2 : RS b s lL lK lO V2 := by rw [hV2]; exact hA.out.drewN nq
  replace hS2 := Lib.hid hS2
  replace hV2 := Lib.hid hV2
  clear e2 gc gx gx0 gcW gf gfW ho hoW hcz
  refine wp_region_live 10 (fun V => V.cell? ⟨b, 0, none⟩ = some (.slice (some ⟨bb, off, none⟩) s.L.length cap0) ∧ V.cell? ⟨W.heap.size, 1, none⟩ = some (I x) ∧ V.cell? ⟨bb, off + k, none⟩ = some (I z)) (by kernel_rfl) ⟨gc2, gx2, gz2⟩ (fun hHeld => ?_)
  refine wpAnyT_take (i := 0) (oi := _) (v := ?_) rfl (by kernel_rfl) (by kernel_rfl) (by kernel_rfl) (by kernel_rfl) (by kernel_rfl) (fun _ _ _ h => h) (Or.inl ⟨by rfl, ?_⟩) (by with_reducible assumption) ?_
  rotate_left
  · (intro V hSw; obtain ⟨s1, s2, s3⟩ := hSw; go_simp); with_reducible rfl
  try simp only [Act.put, List.setIfInBounds_toArray, List.set_cons_zero, List.set_cons_succ, e1]
  refine wpAnyT_take (i := 1) (oi := _) (v := ?_) rfl (by kernel_rfl) (by kernel_rfl) (by kernel_rfl) (by kernel_rfl) (by kernel_rfl) (fun _ _ _ h => h) (Or.inl ⟨by rfl, ?_⟩) (by with_reducible assumption) ?_
  rotate_left
  · (intro V hSw; obtain ⟨s1, s2, s3⟩ := hSw; go_simp); with_reducible rfl
  try simp only [Act.put, List.setIfInBounds_toArray, List.set_cons_zero, List.set_cons_succ, e1]
  refine wpAnyT_take (i := 2) (oi := _) (v := ?_) rfl (by kernel_rfl) (by kernel_rfl) (by kernel_rfl) (by kernel_rfl) (by kernel_rfl) (fun _ _ _ h => h) (Or.inl ⟨by rfl, ?_⟩) (by with_reducible assumption) ?_
  rotate_left
  · (intro V hSw; obtain ⟨s1, s2, s3⟩ := hSw; go_simp); with_reducible rfl
  try simp only [Act.put, List.setIfInBounds_toArray, List.set_cons_zero, List.set_cons_succ, e1]
  refine wpAnyT_take (i := 3) (oi := _) (v := ?_) rfl (by kernel_rfl) (by kernel_rfl) (by kernel_rfl) (by kernel_rfl) (by kernel_rfl) (fun _ _ _ h => h) (Or.inl ⟨by rfl, ?_⟩) (by with_reducible assumption) ?_
  rotate_left
  · (intro V hSw; obtain ⟨s1, s2, s3⟩ := hSw; go_simp); with_reducible rfl
  try simp only [Act.put, List.setIfInBounds_toArray, List.set_cons_zero, List.set_cons_succ, e1]
  refine wpAnyT_take (i := 4) (oi := _) (v := ?_) rfl (by kernel_rfl) (by kernel_rfl) (by kernel_rfl) (by kernel_rfl) (by kernel_rfl) (fun _ _ _ h => h) (Or.inl ⟨by rfl, ?_⟩) (by with_reducible assumption) ?_
  rotate_left
  · (intro V hSw; obtain ⟨s1, s2, s3⟩ := hSw; go_simp); with_reducible rfl
  try simp only [Act.put, List.setIfInBounds_toArray, List.set_cons_zero, List.set_cons_succ, e1]
  refine wpAnyT_take (i := 5) (oi := _) (v := ?_) rfl (by kernel_rfl) (by kernel_rfl) (by kernel_rfl) (by kernel_rfl) (by kernel_rfl) (fun _ _ _ h => h) (Or.inl ⟨by rfl, ?_⟩) (by with_reducible assumption) ?_
  rotate_left
  · (intro V hSw; obtain ⟨s1, s2, s3⟩ := hSw; go_simp); with_reducible rfl
  try simp only [Act.put, List.setIfInBounds_toArray, List.set_cons_zero, List.set_cons_succ, e1]
  refine wpAnyT_take (i := 6) (oi := _) (v := ?_) rfl (by kernel_rfl) (by kernel_rfl) (by kernel_rfl) (by kernel_rfl) (by kernel_rfl) (fun _ _ _ h => h) (Or.inl ⟨by rfl, ?_⟩) (by with_reducible assumption) ?_
  rotate_left
  · (intro V hSw; obtain ⟨s1, s2, s3⟩ := hSw; go_simp); with_reducible rfl
  try simp only [Act.put, List.setIfInBounds_toArray, List.set_cons_zero, List.set_cons_succ, e1]
  refine wpAnyT_take (i := 7) (oi := _) (v := ?_) rfl (by kernel_rfl) (by kernel_rfl) (by kernel_rfl) (by kernel_rfl) (by kernel_rfl) (fun _ _ _ h => h) (Or.inl ⟨by rfl, ?_⟩) (by with_reducible assumption) ?_
  rotate_left
  · (intro V hSw; obtain ⟨s1, s2, s3⟩ := hSw; go_simp); with_reducible rfl
  try simp only [Act.put, List.setIfInBounds_toArray, List.set_cons_zero, List.set_cons_succ, e1]
  refine wpAnyT_take (i := 8) (oi := _) (v := ?_) rfl (by kernel_rfl) (by kernel_rfl) (by kernel_rfl) (by kernel_rfl) (by kernel_rfl) (fun _ _ _ h => h) (Or.inl ⟨by rfl, ?_⟩) (by with_reducible assumption) ?_
  rotate_left
  · (intro V hSw; obtain ⟨s1, s2, s3⟩ := hSw; go_simp); with_reducible rfl
  try simp only [Act.put, List.setIfInBounds_toArray, List.set_cons_zero, List.set_cons_succ, e1]
  refine wpAnyT_take (i := 9) (oi := _) (v := ?_) rfl (by kernel_rfl) (by kernel_rfl) (by kernel_rfl) (by kernel_rfl) (by kernel_rfl) (fun _ _ _ h => h) (Or.inl ⟨by rfl, ?_⟩) (by with_reducible assumption) ?_
  rotate_left
  · (intro V hSw; obtain ⟨s1, s2, s3⟩ := hSw; go_simp); with_reducible rfl
  try simp only [Act.put, List.setIfInBounds_toArray, List.set_cons_zero, List.set_cons_succ, e1]
  refine wpAnyT_ready (rs := [10]) (by kernel_rfl) (by simp) ?_
  refine AllReadyT.dead (o := _) rfl (by kernel_rfl) (fun K hK => ?_) AllReadyT.nil
  go_simp
  refine (r_put hS2.out.drew hn z).mono ?_
  rintro e w' ⟨rfl, hR⟩
  dsimp only
  refine hK.out _ _ ?_
  clear hK K
  try simp only [Act.put, List.setIfInBounds_toArray, List.set_cons_zero, List.set_cons_succ, e1]
  refine wpAnyT_done (by kernel_rfl) ?_ _
  go_wp2_with fail
  first | go_end0 | ((try simp only [Exit.inBlock, Exit.then]); refine bodyPost_ret (results_none rfl _ _ _) rfl ?_)
  replace hR := REnds.drewN (k := 1) hR
  rw [hV2.out, hV.out] at hR
  exact ⟨rfl, hR.drewN.alloc⟩

set_option maxRecDepth 100000 in
set_option maxHeartbeats 2000000 in
theorem r_ints_item_out (h : RS b s lL lK lO W) (hn : s.out.length ≤ 1000) (hn2 : s.L.length ≤ 1000) (x y : Int) (so : Bool) (hx : ¬ (1 ≤ x ∧ x ≤ (s.L.length : Int))) :
    Calls Tryz.prog 19 #[PB b, CL ⟨#[105, 116, 101, 109]⟩ x y, .bool so] W fun e w' => e = .returned (.tuple #[]) ∧ REnds b { s with fault := 1 } lL lK lO W w' := by
  obtain ⟨V, hV⟩ : ∃ V, V = W.alloc (.cells #[.string ⟨#[105, 116, 101, 109]⟩, I x, I y] 40) := ⟨_, rfl⟩
  have hA : RS b s lL lK lO V := by rw [hV]; exact h.alloc _
  obtain ⟨gx0, gx⟩ : V.cell? ⟨W.heap.size, 0, none⟩ = some (.string ⟨#[105, 116, 101, 109]⟩) ∧ V.cell? ⟨W.heap.size, 1, none⟩ = some (I x) := by
    rw [hV]
    refine ⟨?_, ?_⟩ <;> (unfold World.cell?; rw [heap_alloc, if_pos rfl]; rfl)
  obtain ⟨lv, gc, ho⟩ := hA.c0
  have gf := hA.f 0
  have hfb : lL ≠ some b := fun e => (hA.dL b e).1 rfl
  obtain ⟨a0, cap0, rfl, _⟩ := ho.form
  have gcW := gc
  rw [hV] at gcW
  have gfW := gf
  rw [hV] at gfW
  have hoW := ho
  rw [hV] at hoW
  have hAW := hA
  rw [hV] at hAW
  replace hV := Lib.hid hV
  replace hA := Lib.hid hA
  replace hAW := Lib.hid hAW
  have hin := r_in x 1 s.L.length
  rw [show decide (1 ≤ x ∧ x ≤ (s.L.length : Int)) = false by simpa using hx] at hin
  replace hx := Lib.hid hx
  have hf5 := hAW.out.f 5
  have hc5 := hAW.out.c5
  go_enter Tryz.func19, Tryz.ntmps19
  go_wp2_with fail
  go_quiet ((go_at_call 76; exact Calls.quiet_of_same ((hin _).mono fun _ _ h => ⟨h.1, h.2.symm⟩)))
  go_wp2
  first | go_end0 | ((try simp only [Exit.inBlock, Exit.then]); refine bodyPost_ret (results_none rfl _ _ _) rfl ?_)
  exact ⟨rfl, (REnds.of_set ((hAW.out.drewN nq).set_fault 1)).drewN.alloc⟩

set_option maxRecDepth 100000 in
set_option maxHeartbeats 2000000 in
theorem r_ints_push (h : RS b s lL lK lO W) (hn : s.out.length ≤ 1000) (hn2 : s.L.length ≤ 1000) (x y : Int)  :
    Calls Tryz.prog 19 #[PB b, CL ⟨#[112, 117, 115, 104]⟩ x y, .bool false] W fun e w' => e = .returned (.tuple #[]) ∧ REnds b { s with L := x :: s.L } lL lK lO W w' := by
  obtain ⟨V, hV⟩ : ∃ V, V = W.alloc (.cells #[.string ⟨#[112, 117, 115, 104]⟩, I x, I y] 40) := ⟨_, rfl⟩
  have hA : RS b s lL lK lO V := by rw [hV]; exact h.alloc _
  obtain ⟨gx0, gx⟩ : V.cell? ⟨W.heap.size, 0, none⟩ = some (.string ⟨#[112, 117, 115, 104]⟩) ∧ V.cell? ⟨W.heap.size, 1, none⟩ = some (I x) := by
    rw [hV]
    refine ⟨?_, ?_⟩ <;> (unfold World.cell?; rw [heap_alloc, if_pos rfl]; rfl)
  obtain ⟨lv, gc, ho⟩ := hA.c0
  have gf := hA.f 0
  have hfb : lL ≠ some b := fun e => (hA.dL b e).1 rfl
  obtain ⟨a0, cap0, rfl, _⟩ := ho.form
  have gcW := gc
  rw [hV] at gcW
  have gfW := gf
  rw [hV] at gfW
  have hoW := ho
  rw [hV] at hoW
  have hAW := hA
  rw [hV] at hAW
  replace hV := Lib.hid hV
  replace hA := Lib.hid hA
  replace hAW := Lib.hid hAW
  go_enter Tryz.func19, Tryz.ntmps19
  go_wp2_with fail
  rw [← hV.out]
  refine wp_region_live 11 (fun V => V.cell? ⟨b, 0, none⟩ = some (.slice a0 s.L.length cap0) ∧ V.cell? ⟨W.heap.size, 1, none⟩ = some (I x)) (by kernel_rfl) ⟨gc, gx⟩ (fun hHeld => ?_)
  refine wpAnyT_take (i := 0) (oi := _) (v := ?_) rfl (by kernel_rfl) (by kernel_rfl) (by kernel_rfl) (by kernel_rfl) (by kernel_rfl) (fun _ _ _ h => h) (Or.inl ⟨by rfl, ?_⟩) (by with_reducible assumption) ?_
  rotate_left
  · (intro V hSw; obtain ⟨s1, s2⟩ := hSw; go_simp); with_reducible rfl
  try simp only [Act.put, List.setIfInBounds_toArray, List.set_cons_zero, List.set_cons_succ]
  refine wpAnyT_take (i := 1) (oi := _) (v := ?_) rfl (by kernel_rfl) (by kernel_rfl) (by kernel_rfl) (by kernel_rfl) (by kernel_rfl) (fun _ _ _ h => h) (Or.inl ⟨by rfl, ?_⟩) (by with_reducible assumption) ?_
  rotate_left
  · (intro V hSw; obtain ⟨s1, s2⟩ := hSw; go_simp); with_reducible rfl
  try simp only [Act.put, List.setIfInBounds_toArray, List.set_cons_zero, List.set_cons_succ]
  refine wpAnyT_take (i := 2) (oi := _) (v := ?_) rfl (by kernel_rfl) (by kernel_rfl) (by kernel_rfl) (by kernel_rfl) (by kernel_rfl) (fun _ _ _ h => h) (Or.inl ⟨by rfl, ?_⟩) (by with_reducible assumption) ?_
  rotate_left
  · (intro V hSw; obtain ⟨s1, s2⟩ := hSw; go_simp); with_reducible rfl
  try simp only [Act.put, List.setIfInBounds_toArray, List.set_cons_zero, List.set_cons_succ]
  refine wpAnyT_take (i := 3) (oi := _) (v := ?_) rfl (by kernel_rfl) (by kernel_rfl) (by kernel_rfl) (by kernel_rfl) (by kernel_rfl) (fun _ _ _ h => h) (Or.inl ⟨by rfl, ?_⟩) (by with_reducible assumption) ?_
  rotate_left
  · (intro V hSw; obtain ⟨s1, s2⟩ := hSw; go_simp); with_reducible rfl
  try simp only [Act.put, List.setIfInBounds_toArray, List.set_cons_zero, List.set_cons_succ]
  refine wpAnyT_take (i := 4) (oi := _) (v := ?_) rfl (by kernel_rfl) (by kernel_rfl) (by kernel_rfl) (by kernel_rfl) (by kernel_rfl) (fun _ _ _ h => h) (Or.inl ⟨by rfl, ?_⟩) (by with_reducible assumption) ?_
  rotate_left
  · (intro V hSw; obtain ⟨s1, s2⟩ := hSw; go_simp); with_reducible rfl
  try simp only [Act.put, List.setIfInBounds_toArray, List.set_cons_zero, List.set_cons_succ]
  refine wpAnyT_take (i := 5) (oi := _) (v := ?_) rfl (by kernel_rfl) (by kernel_rfl) (by kernel_rfl) (by kernel_rfl) (by kernel_rfl) (fun _ _ _ h => h) (Or.inl ⟨by rfl, ?_⟩) (by with_reducible assumption) ?_
  rotate_left
  · (intro V hSw; obtain ⟨s1, s2⟩ := hSw; go_simp); with_reducible rfl
  try simp only [Act.put, List.setIfInBounds_toArray, List.set_cons_zero, List.set_cons_succ]
  refine wpAnyT_take (i := 6) (oi := _) (v := ?_) rfl (by kernel_rfl) (by kernel_rfl) (by kernel_rfl) (by kernel_rfl) (by kernel_rfl) (fun _ _ _ h => h) (Or.inl ⟨by rfl, ?_⟩) (by with_reducible assumption) ?_
  rotate_left
  · (intro V hSw; obtain ⟨s1, s2⟩ := hSw; go_simp); with_reducible rfl
  try simp only [Act.put, List.setIfInBounds_toArray, List.set_cons_zero, List.set_cons_succ]
  refine wpAnyT_take (i := 7) (oi := _) (v := ?_) rfl (by kernel_rfl) (by kernel_rfl) (by kernel_rfl) (by kernel_rfl) (by kernel_rfl) (fun _ _ _ h => h) (Or.inl ⟨by rfl, ?_⟩) (by with_reducible assumption) ?_
  rotate_left
  · (intro V hSw; obtain ⟨s1, s2⟩ := hSw; go_simp); with_reducible rfl
  try simp only [Act.put, List.setIfInBounds_toArray, List.set_cons_zero, List.set_cons_succ]
  refine wpAnyT_ready (rs := [8]) (by kernel_rfl) (by simp) ?_
  refine AllReadyT.live (o := _) rfl (fun K hK => ?_) AllReadyT.nil
  go_simp
  refine (show Calls Tryz.prog 78 #[.slice a0 s.L.length cap0, I 0, I x] V.drew _ from r_insert (ho.drew) hn2 0 (Nat.zero_le _) x).mono ?_
  rintro e w' ⟨v', k', rfl, ho', hk', hr⟩
  obtain ⟨a', cap', rfl, _⟩ := ho'.form
  rw [show (s.L.take (0) ++ x :: s.L.drop (0)).length = s.L.length + 1 by simp <;> omega] at ho' ⊢
  have hk2 : Kept (fun j => lL = some j) V w' := ((Kept.refl _ V).drew).trans' (hk'.mono (fun _ e => e.elim))
  have gc' := hk2.cell_some gc hfb
  have gf' := (hk2.frozen (p := ⟨b, 0, none⟩) hA.out.lt hfb).trans gf
  have gx' := (Kept.trans' ((Kept.refl _ V).drew) hk').cell_some gx (fun e => e)
  dsimp only
  refine hK.out _ _ ⟨gc', gx'⟩ (fun hHeld => ?_)
  clear hK K
  try simp only [Act.put, List.setIfInBounds_toArray, List.set_cons_zero, List.set_cons_succ]
  refine wpAnyT_take (i := 9) (oi := _) (v := ?_) rfl (by kernel_rfl) (by kernel_rfl) (by kernel_rfl) (by kernel_rfl) (by kernel_rfl) (fun _ _ _ h => h) (Or.inl ⟨by rfl, ?_⟩) (by with_reducible assumption) ?_
  rotate_left
  · (intro V hSw; obtain ⟨s1, s2⟩ := hSw; go_simp); with_reducible rfl
  try simp only [Act.put, List.setIfInBounds_toArray, List.set_cons_zero, List.set_cons_succ]
  refine wpAnyT_take (i := 10) (oi := _) (v := ?_) rfl (by kernel_rfl) (by kernel_rfl) (by kernel_rfl) (by kernel_rfl) (by kernel_rfl) (fun _ _ _ h => h) (Or.inl ⟨by rfl, ?_⟩) (by with_reducible assumption) ?_
  rotate_left
  · (intro V hSw; obtain ⟨s1, s2⟩ := hSw; go_simp); with_reducible rfl
  try simp only [Act.put, List.setIfInBounds_toArray, List.set_cons_zero, List.set_cons_succ]
  refine wpAnyT_ready (rs := [11]) (by kernel_rfl) (by simp) ?_
  refine AllReadyT.dead (o := _) rfl (by kernel_rfl) (fun K hK => ?_) AllReadyT.nil
  go_simp
  obtain ⟨w2, hw2⟩ : ∃ w2, w2 = w'.setCell ⟨b, 0, none⟩ (.slice a' (s.L.length + 1) cap') := ⟨_, rfl⟩
  have hR : REnds b { s with L := s.L.take (0) ++ x :: s.L.drop (0) } lL lK lO V w2 := by rw [hw2]; exact hA.out.set_L hk2 ho' (.inr hr)
  rw [← hw2]
  replace hw2 := Lib.hid hw2
  refine hK.out _ _ ?_
  clear hK K
  try simp only [Act.put, List.setIfInBounds_toArray, List.set_cons_zero, List.set_cons_succ]
  refine wpAnyT_done (by kernel_rfl) ?_ _
  go_wp2_with fail
  first | go_end0 | ((try simp only [Exit.inBlock, Exit.then]); refine bodyPost_ret (results_none rfl _ _ _) rfl ?_)
  rw [hV.out] at hR
  exact ⟨rfl, hR.alloc⟩

set_option maxRecDepth 100000 in
set_option maxHeartbeats 2000000 in
theorem r_ints_extend (h : RS b s lL lK lO W) (hn : s.out.length ≤ 1000) (hn2 : s.L.length ≤ 1000) (x y : Int)  :
    Calls Tryz.prog 19 #[PB b, CL ⟨#[101, 120, 116, 101, 110, 100]⟩ x y, .bool false] W fun e w' => e = .returned (.tuple #[]) ∧ REnds b { s with L := s.L ++ [x] } lL lK lO W w' := by
  obtain ⟨V, hV⟩ : ∃ V, V = W.alloc (.cells #[.string ⟨#[101, 120, 116, 101, 110, 100]⟩, I x, I y] 40) := ⟨_, rfl⟩
  have hA : RS b s lL lK lO V := by rw [hV]; exact h.alloc _
  obtain ⟨gx0, gx⟩ : V.cell? ⟨W.heap.size, 0, none⟩ = some (.string ⟨#[101, 120, 116, 101, 110, 100]⟩) ∧ V.cell? ⟨W.heap.size, 1, none⟩ = some (I x) := by
    rw [hV]
    refine ⟨?_, ?_⟩ <;> (unfold World.cell?; rw [heap_alloc, if_pos rfl]; rfl)
  obtain ⟨lv, gc, ho⟩ := hA.c0
  have gf := hA.f 0
  have hfb : lL ≠ some b := fun e => (hA.dL b e).1 rfl
  obtain ⟨a0, cap0, rfl, _⟩ := ho.form
  have gcW := gc
  rw [hV] at gcW
  have gfW := gf
  rw [hV] at gfW
  have hoW := ho
  rw [hV] at hoW
  have hAW := hA
  rw [hV] at hAW
  replace hV := Lib.hid hV
  replace hA := Lib.hid hA
  replace hAW := Lib.hid hAW
  go_enter Tryz.func19, Tryz.ntmps19
  go_wp2_with fail
  rw [← hV.out]
  refine wp_region_live 11 (fun V => V.cell? ⟨b, 0, none⟩ = some (.slice a0 s.L.length cap0) ∧ V.cell? ⟨W.heap.size, 1, none⟩ = some (I x)) (by kernel_rfl) ⟨gc, gx⟩ (fun hHeld => ?_)
  refine wpAnyT_take (i := 0) (oi := _) (v := ?_) rfl (by kernel_rfl) (by kernel_rfl) (by kernel_rfl) (by kernel_rfl) (by kernel_rfl) (fun _ _ _ h => h) (Or.inl ⟨by rfl, ?_⟩) (by with_reducible assumption) ?_
  rotate_left
  · (intro V hSw; obtain ⟨s1, s2⟩ := hSw; go_simp); with_reducible rfl
  try simp only [Act.put, List.setIfInBounds_toArray, List.set_cons_zero, List.set_cons_succ]
  refine wpAnyT_take (i := 1) (oi := _) (v := ?_) rfl (by kernel_rfl) (by kernel_rfl) (by kernel_rfl) (by kernel_rfl) (by kernel_rfl) (fun _ _ _ h => h) (Or.inl ⟨by rfl, ?_⟩) (by with_reducible assumption) ?_
  rotate_left
  · (intro V hSw; obtain ⟨s1, s2⟩ := hSw; go_simp); with_reducible rfl
  try simp only [Act.put, List.setIfInBounds_toArray, List.set_cons_zero, List.set_cons_succ]
  refine wpAnyT_take (i := 2) (oi := _) (v := ?_) rfl (by kernel_rfl) (by kernel_rfl) (by kernel_rfl) (by kernel_rfl) (by kernel_rfl) (fun _ _ _ h => h) (Or.inl ⟨by rfl, ?_⟩) (by with_reducible assumption) ?_
  rotate_left
  · (intro V hSw; obtain ⟨s1, s2⟩ := hSw; go_simp); with_reducible rfl
  try simp only [Act.put, List.setIfInBounds_toArray, List.set_cons_zero, List.set_cons_succ]
  refine wpAnyT_take (i := 3) (oi := _) (v := ?_) rfl (by kernel_rfl) (by kernel_rfl) (by kernel_rfl) (by kernel_rfl) (by kernel_rfl) (fun _ _ _ h => h) (Or.inl ⟨by rfl, ?_⟩) (by with_reducible assumption) ?_
  rotate_left
  · (intro V hSw; obtain ⟨s1, s2⟩ := hSw; go_simp); with_reducible rfl
  try simp only [Act.put, List.setIfInBounds_toArray, List.set_cons_zero, List.set_cons_succ]
  refine wpAnyT_take (i := 4) (oi := _) (v := ?_) rfl (by kernel_rfl) (by kernel_rfl) (by kernel_rfl) (by kernel_rfl) (by kernel_rfl) (fun _ _ _ h => h) (Or.inl ⟨by rfl, ?_⟩) (by with_reducible assumption) ?_
  rotate_left
  · (intro V hSw; obtain ⟨s1, s2⟩ := hSw; go_simp); with_reducible rfl
  try simp only [Act.put, List.setIfInBounds_toArray, List.set_cons_zero, List.set_cons_succ]
  refine wpAnyT_take (i := 5) (oi := _) (v := ?_) rfl (by kernel_rfl) (by kernel_rfl) (by kernel_rfl) (by kernel_rfl) (by kernel_rfl) (fun _ _ _ h => h) (Or.inl ⟨by rfl, ?_⟩) (by with_reducible assumption) ?_
  rotate_left
  · (intro V hSw; obtain ⟨s1, s2⟩ := hSw; go_simp); with_reducible rfl
  try simp only [Act.put, List.setIfInBounds_toArray, List.set_cons_zero, List.set_cons_succ]
  refine wpAnyT_take (i := 6) (oi := _) (v := ?_) rfl (by kernel_rfl) (by kernel_rfl) (by kernel_rfl) (by kernel_rfl) (by kernel_rfl) (fun _ _ _ h => h) (Or.inl ⟨by rfl, ?_⟩) (by with_reducible assumption) ?_
  rotate_left
  · (intro V hSw; obtain ⟨s1, s2⟩ := hSw; go_simp); with_reducible rfl
  try simp only [Act.put, List.setIfInBounds_toArray, List.set_cons_zero, List.set_cons_succ]
  refine wpAnyT_take (i := 7) (oi := _) (v := ?_) rfl (by kernel_rfl) (by kernel_rfl) (by kernel_rfl) (by kernel_rfl) (by kernel_rfl) (fun _ _ _ h => h) (Or.inl ⟨by rfl, ?_⟩) (by with_reducible assumption) ?_
  rotate_left
  · (intro V hSw; obtain ⟨s1, s2⟩ := hSw; go_simp); with_reducible rfl
  try simp only [Act.put, List.setIfInBounds_toArray, List.set_cons_zero, List.set_cons_succ]
  refine wpAnyT_ready (rs := [8]) (by kernel_rfl) (by simp) ?_
  refine AllReadyT.live (o := _) rfl (fun K hK => ?_) AllReadyT.nil
  go_simp
  refine (show Calls Tryz.prog 78 #[.slice a0 s.L.length cap0, I s.L.length, I x] V.drew _ from r_insert (ho.drew) hn2 s.L.length (Nat.le_refl _) x).mono ?_
  rintro e w' ⟨v', k', rfl, ho', hk', hr⟩
  obtain ⟨a', cap', rfl, _⟩ := ho'.form
  rw [show (s.L.take (s.L.length) ++ x :: s.L.drop (s.L.length)).length = s.L.length + 1 by simp <;> omega] at ho' ⊢
  have hk2 : Kept (fun j => lL = some j) V w' := ((Kept.refl _ V).drew).trans' (hk'.mono (fun _ e => e.elim))
  have gc' := hk2.cell_some gc hfb
  have gf' := (hk2.frozen (p := ⟨b, 0, none⟩) hA.out.lt hfb).trans gf
  have gx' := (Kept.trans' ((Kept.refl _ V).drew) hk').cell_some gx (fun e => e)
  dsimp only
  refine hK.out _ _ ⟨gc', gx'⟩ (fun hHeld => ?_)
  clear hK K
  try simp only [Act.put, List.setIfInBounds_toArray, List.set_cons_zero, List.set_cons_succ]
  refine wpAnyT_take (i := 9) (oi := _) (v := ?_) rfl (by kernel_rfl) (by kernel_rfl) (by kernel_rfl) (by kernel_rfl) (by kernel_rfl) (fun _ _ _ h => h) (Or.inl ⟨by rfl, ?_⟩) (by with_reducible assumption) ?_
  rotate_left
  · (intro V hSw; obtain ⟨s1, s2⟩ := hSw; go_simp); with_reducible rfl
  try simp only [Act.put, List.setIfInBounds_toArray, List.set_cons_zero, List.set_cons_succ]
  refine wpAnyT_take (i := 10) (oi := _) (v := ?_) rfl (by kernel_rfl) (by kernel_rfl) (by kernel_rfl) (by kernel_rfl) (by kernel_rfl) (fun _ _ _ h => h) (Or.inl ⟨by rfl, ?_⟩) (by with_reducible assumption) ?_
  rotate_left
  · (intro V hSw; obtain ⟨s1, s2⟩ := hSw; go_simp); with_reducible rfl
  try simp only [Act.put, List.setIfInBounds_toArray, List.set_cons_zero, List.set_cons_succ]
  refine wpAnyT_ready (rs := [11]) (by kernel_rfl) (by simp) ?_
  refine AllReadyT.dead (o := _) rfl (by kernel_rfl) (fun K hK => ?_) AllReadyT.nil
  go_simp
  obtain ⟨w2, hw2⟩ : ∃ w2, w2 = w'.setCell ⟨b, 0, none⟩ (.slice a' (s.L.length + 1) cap') := ⟨_, rfl⟩
  have hR : REnds b { s with L := s.L.take (s.L.length) ++ x :: s.L.drop (s.L.length) } lL lK lO V w2 := by rw [hw2]; exact hA.out.set_L hk2 ho' (.inr hr)
  rw [← hw2]
  replace hw2 := Lib.hid hw2
  refine hK.out _ _ ?_
  clear hK K
  try simp only [Act.put, List.setIfInBounds_toArray, List.set_cons_zero, List.set_cons_succ]
  refine wpAnyT_done (by kernel_rfl) ?_ _
  go_wp2_with fail
  first | go_end0 | ((try simp only [Exit.inBlock, Exit.then]); refine bodyPost_ret (results_none rfl _ _ _) rfl ?_)
  rw [hV.out] at hR
  exact ⟨rfl, by simpa using hR.alloc⟩
end Go.Proofs.Bm
