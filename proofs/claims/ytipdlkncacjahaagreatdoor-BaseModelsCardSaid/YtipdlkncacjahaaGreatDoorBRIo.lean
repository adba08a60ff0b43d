/- The reference's INTS and SORTED: what goes through the list. No condition but the state's. -/
import Derived.Test.YtipdlkncacjahaaGreatDoorBRIn
import Derived.Test.YtipdlkncacjahaaGreatDoorBRRa
import Derived.Test.YtipdlkncacjahaaGreatDoorBD9
import Derived.Deep.LoopGhost
set_option linter.unusedSimpArgs false
set_option linter.unusedVariables false
namespace Go.Proofs.Bm
open Go.RowKit Go.Maps
variable {b : Nat} {s s' s'' : RSt} {lL lK lO : Option Nat} {W w' w'' : World}

set_option maxRecDepth 100000 in
set_option maxHeartbeats 2000000 in
theorem r_ints_remove_yes (h : RS b s lL lK lO W) (hn : s.out.length ≤ 1000) (hn2 : s.L.length ≤ 1000) (x y : Int) (so : Bool) (i : Nat) (hx : idx s.L x = (i : Int)) (hi : i < s.L.length) :
    Calls Tryz.prog 19 #[PB b, CL ⟨#[114, 101, 109, 111, 118, 101]⟩ x y, .bool so] W fun e w' => e = .returned (.tuple #[]) ∧ REnds b { s with L := s.L.take i ++ s.L.drop (i + 1) } lL lK lO W w' := by
  obtain ⟨V, hV⟩ : ∃ V, V = W.alloc (.cells #[.string ⟨#[114, 101, 109, 111, 118, 101]⟩, I x, I y] 40) := ⟨_, rfl⟩
  have hA : RS b s lL lK lO V := by rw [hV]; exact h.alloc _
  obtain ⟨gx0, gx⟩ : V.cell? ⟨W.heap.size, 0, none⟩ = some (.string ⟨#[114, 101, 109, 111, 118, 101]⟩) ∧ V.cell? ⟨W.heap.size, 1, none⟩ = some (I x) := by
    rw [hV]
    refine ⟨?_, ?_⟩ <;> (unfold World.cell?; rw [heap_alloc, if_pos rfl]; rfl)
  obtain ⟨lv, gc, ho⟩ := hA.c0
  have gf := hA.f 0
  have hfb : lL ≠ some b := fun e => (hA.dL b e).1 rfl
  obtain ⟨a0, cap0, rfl, _⟩ := ho.form
  have gcW := gc
  rw [hV] at gcW
  have gfW := gf
  rw [hV] at gfW
  have hoW := ho
  rw [hV] at hoW
  have hAW := hA
  rw [hV] at hAW
  replace hV := Lib.hid hV
  replace hA := Lib.hid hA
  replace hAW := Lib.hid hAW
  have hix := r_index (w := V.drew) ho.drew x
  rw [hx] at hix
  go_enter Tryz.func19, Tryz.ntmps19
  go_wp2_with fail
  rw [← hV.out]
  refine wp_region_live 15 (fun V => V.cell? ⟨b, 0, none⟩ = some (.slice a0 s.L.length cap0) ∧ V.cell? ⟨W.heap.size, 1, none⟩ = some (I x)) (by kernel_rfl) ⟨gc, gx⟩ (fun hHeld => ?_)
  refine wpAnyT_take (i := 0) (oi := _) (v := ?_) rfl (by kernel_rfl) (by kernel_rfl) (by kernel_rfl) (by kernel_rfl) (by kernel_rfl) (fun _ _ _ h => h) (Or.inl ⟨by rfl, ?_⟩) (by with_reducible assumption) ?_
  rotate_left
  · (intro V hSw; obtain ⟨s1, s2⟩ := hSw; go_simp); with_reducible rfl
  try simp only [Act.put, List.setIfInBounds_toArray, List.set_cons_zero, List.set_cons_succ]
  refine wpAnyT_take (i := 1) (oi := _) (v := ?_) rfl (by kernel_rfl) (by kernel_rfl) (by kernel_rfl) (by kernel_rfl) (by kernel_rfl) (fun _ _ _ h => h) (Or.inl ⟨by rfl, ?_⟩) (by with_reducible assumption) ?_
  rotate_left
  · (intro V hSw; obtain ⟨s1, s2⟩ := hSw; go_simp); with_reducible rfl
  try simp only [Act.put, List.setIfInBounds_toArray, List.set_cons_zero, List.set_cons_succ]
  refine wpAnyT_take (i := 2) (oi := _) (v := ?_) rfl (by kernel_rfl) (by kernel_rfl) (by kernel_rfl) (by kernel_rfl) (by kernel_rfl) (fun _ _ _ h => h) (Or.inl ⟨by rfl, ?_⟩) (by with_reducible assumption) ?_
  rotate_left
  · (intro V hSw; obtain ⟨s1, s2⟩ := hSw; go_simp); with_reducible rfl
  try simp only [Act.put, List.setIfInBounds_toArray, List.set_cons_zero, List.set_cons_succ]
  refine wpAnyT_take (i := 3) (oi := _) (v := ?_) rfl (by kernel_rfl) (by kernel_rfl) (by kernel_rfl) (by kernel_rfl) (by kernel_rfl) (fun _ _ _ h => h) (Or.inl ⟨by rfl, ?_⟩) (by with_reducible assumption) ?_
  rotate_left
  · (intro V hSw; obtain ⟨s1, s2⟩ := hSw; go_simp); with_reducible rfl
  try simp only [Act.put, List.setIfInBounds_toArray, List.set_cons_zero, List.set_cons_succ]
  refine wpAnyT_take (i := 4) (oi := _) (v := ?_) rfl (by kernel_rfl) (by kernel_rfl) (by kernel_rfl) (by kernel_rfl) (by kernel_rfl) (fun _ _ _ h => h) (Or.inl ⟨by rfl, ?_⟩) (by with_reducible assumption) ?_
  rotate_left
  · (intro V hSw; obtain ⟨s1, s2⟩ := hSw; go_simp); with_reducible rfl
  try simp only [Act.put, List.setIfInBounds_toArray, List.set_cons_zero, List.set_cons_succ]
  refine wpAnyT_take (i := 5) (oi := _) (v := ?_) rfl (by kernel_rfl) (by kernel_rfl) (by kernel_rfl) (by kernel_rfl) (by kernel_rfl) (fun _ _ _ h => h) (Or.inl ⟨by rfl, ?_⟩) (by with_reducible assumption) ?_
  rotate_left
  · (intro V hSw; obtain ⟨s1, s2⟩ := hSw; go_simp); with_reducible rfl
  try simp only [Act.put, List.setIfInBounds_toArray, List.set_cons_zero, List.set_cons_succ]
  refine wpAnyT_take (i := 6) (oi := _) (v := ?_) rfl (by kernel_rfl) (by kernel_rfl) (by kernel_rfl) (by kernel_rfl) (by kernel_rfl) (fun _ _ _ h => h) (Or.inl ⟨by rfl, ?_⟩) (by with_reducible assumption) ?_
  rotate_left
  · (intro V hSw; obtain ⟨s1, s2⟩ := hSw; go_simp); with_reducible rfl
  try simp only [Act.put, List.setIfInBounds_toArray, List.set_cons_zero, List.set_cons_succ]
  refine wpAnyT_take (i := 7) (oi := _) (v := ?_) rfl (by kernel_rfl) (by kernel_rfl) (by kernel_rfl) (by kernel_rfl) (by kernel_rfl) (fun _ _ _ h => h) (Or.inl ⟨by rfl, ?_⟩) (by with_reducible assumption) ?_
  rotate_left
  · (intro V hSw; obtain ⟨s1, s2⟩ := hSw; go_simp); with_reducible rfl
  try simp only [Act.put, List.setIfInBounds_toArray, List.set_cons_zero, List.set_cons_succ]
  refine wpAnyT_take (i := 8) (oi := _) (v := ?_) rfl (by kernel_rfl) (by kernel_rfl) (by kernel_rfl) (by kernel_rfl) (by kernel_rfl) (fun _ _ _ h => h) (Or.inl ⟨by rfl, ?_⟩) (by with_reducible assumption) ?_
  rotate_left
  · (intro V hSw; obtain ⟨s1, s2⟩ := hSw; go_simp); with_reducible rfl
  try simp only [Act.put, List.setIfInBounds_toArray, List.set_cons_zero, List.set_cons_succ]
  refine wpAnyT_take (i := 9) (oi := _) (v := ?_) rfl (by kernel_rfl) (by kernel_rfl) (by kernel_rfl) (by kernel_rfl) (by kernel_rfl) (fun _ _ _ h => h) (Or.inl ⟨by rfl, ?_⟩) (by with_reducible assumption) ?_
  rotate_left
  · (intro V hSw; obtain ⟨s1, s2⟩ := hSw; go_simp); with_reducible rfl
  try simp only [Act.put, List.setIfInBounds_toArray, List.set_cons_zero, List.set_cons_succ]
  refine wpAnyT_take (i := 10) (oi := _) (v := ?_) rfl (by kernel_rfl) (by kernel_rfl) (by kernel_rfl) (by kernel_rfl) (by kernel_rfl) (fun _ _ _ h => h) (Or.inl ⟨by rfl, ?_⟩) (by with_reducible assumption) ?_
  rotate_left
  · (intro V hSw; obtain ⟨s1, s2⟩ := hSw; go_simp); with_reducible rfl
  try simp only [Act.put, List.setIfInBounds_toArray, List.set_cons_zero, List.set_cons_succ]
  refine wpAnyT_ready (rs := [11]) (by kernel_rfl) (by simp) ?_
  refine AllReadyT.live (o := _) rfl (fun K hK => ?_) AllReadyT.nil
  go_simp
  refine hix.mono ?_
  rintro e w' ⟨rfl, rfl⟩
  dsimp only
  refine hK.out _ _ hHeld (fun hHeld => ?_)
  clear hK K
  try simp only [Act.put, List.setIfInBounds_toArray, List.set_cons_zero, List.set_cons_succ]
  refine wpAnyT_ready (rs := [12]) (by kernel_rfl) (by simp) ?_
  refine AllReadyT.live (o := _) rfl (fun K hK => ?_) AllReadyT.nil
  go_simp
  refine (r_without ho.drew hn2 i hi).mono ?_
  rintro e w' ⟨v', k', rfl, ho', hk', hr⟩
  obtain ⟨a', cap', rfl, _⟩ := ho'.form
  rw [show (s.L.take i ++ s.L.drop (i + 1)).length = s.L.length - 1 by simp; omega] at ho' ⊢
  have hk2 : Kept (fun j => lL = some j) V w' := ((Kept.refl _ V).drew).trans' (hk'.mono (fun _ e => e.elim))
  have gc' := hk2.cell_some gc hfb
  have gf' := (hk2.frozen (p := ⟨b, 0, none⟩) hA.out.lt hfb).trans gf
  have gx' := (Kept.trans' ((Kept.refl _ V).drew) hk').cell_some gx (fun e => e)
  dsimp only
  refine hK.out _ _ ⟨gc', gx'⟩ (fun hHeld => ?_)
  clear hK K
  try simp only [Act.put, List.setIfInBounds_toArray, List.set_cons_zero, List.set_cons_succ]
  refine wpAnyT_take (i := 13) (oi := _) (v := ?_) rfl (by kernel_rfl) (by kernel_rfl) (by kernel_rfl) (by kernel_rfl) (by kernel_rfl) (fun _ _ _ h => h) (Or.inl ⟨by rfl, ?_⟩) (by with_reducible assumption) ?_
  rotate_left
  · (intro V hSw; obtain ⟨s1, s2⟩ := hSw; go_simp); with_reducible rfl
  try simp only [Act.put, List.setIfInBounds_toArray, List.set_cons_zero, List.set_cons_succ]
  refine wpAnyT_take (i := 14) (oi := _) (v := ?_) rfl (by kernel_rfl) (by kernel_rfl) (by kernel_rfl) (by kernel_rfl) (by kernel_rfl) (fun _ _ _ h => h) (Or.inl ⟨by rfl, ?_⟩) (by with_reducible assumption) ?_
  rotate_left
  · (intro V hSw; obtain ⟨s1, s2⟩ := hSw; go_simp); with_reducible rfl
  try simp only [Act.put, List.setIfInBounds_toArray, List.set_cons_zero, List.set_cons_succ]
  refine wpAnyT_ready (rs := [15]) (by kernel_rfl) (by simp) ?_
  refine AllReadyT.dead (o := _) rfl (by kernel_rfl) (fun K hK => ?_) AllReadyT.nil
  go_simp
  obtain ⟨w2, hw2⟩ : ∃ w2, w2 = w'.setCell ⟨b, 0, none⟩ (.slice a' (s.L.length - 1) cap') := ⟨_, rfl⟩
  have hR : REnds b { s with L := s.L.take i ++ s.L.drop (i + 1) } lL lK lO V w2 := by rw [hw2]; exact hA.out.set_L hk2 ho' (.inr hr)
  rw [← hw2]
  replace hw2 := Lib.hid hw2
  refine hK.out _ _ ?_
  clear hK K
  try simp only [Act.put, List.setIfInBounds_toArray, List.set_cons_zero, List.set_cons_succ]
  refine wpAnyT_done (by kernel_rfl) ?_ _
  go_wp2_with fail
  first | go_end0 | ((try simp only [Exit.inBlock, Exit.then]); refine bodyPost_ret (results_none rfl _ _ _) rfl ?_)
  rw [hV.out] at hR
  exact ⟨rfl, hR.alloc⟩

set_option maxRecDepth 100000 in
set_option maxHeartbeats 2000000 in
theorem r_ints_remove_no (h : RS b s lL lK lO W) (hn : s.out.length ≤ 1000) (hn2 : s.L.length ≤ 1000) (x y : Int) (so : Bool) (hx : idx s.L x = -1) :
    Calls Tryz.prog 19 #[PB b, CL ⟨#[114, 101, 109, 111, 118, 101]⟩ x y, .bool so] W fun e w' => e = .returned (.tuple #[]) ∧ REnds b { s with L := s.L } lL lK lO W w' := by
  obtain ⟨V, hV⟩ : ∃ V, V = W.alloc (.cells #[.string ⟨#[114, 101, 109, 111, 118, 101]⟩, I x, I y] 40) := ⟨_, rfl⟩
  have hA : RS b s lL lK lO V := by rw [hV]; exact h.alloc _
  obtain ⟨gx0, gx⟩ : V.cell? ⟨W.heap.size, 0, none⟩ = some (.string ⟨#[114, 101, 109, 111, 118, 101]⟩) ∧ V.cell? ⟨W.heap.size, 1, none⟩ = some (I x) := by
    rw [hV]
    refine ⟨?_, ?_⟩ <;> (unfold World.cell?; rw [heap_alloc, if_pos rfl]; rfl)
  obtain ⟨lv, gc, ho⟩ := hA.c0
  have gf := hA.f 0
  have hfb : lL ≠ some b := fun e => (hA.dL b e).1 rfl
  obtain ⟨a0, cap0, rfl, _⟩ := ho.form
  have gcW := gc
  rw [hV] at gcW
  have gfW := gf
  rw [hV] at gfW
  have hoW := ho
  rw [hV] at hoW
  have hAW := hA
  rw [hV] at hAW
  replace hV := Lib.hid hV
  replace hA := Lib.hid hA
  replace hAW := Lib.hid hAW
  have hix := r_index (w := V.drew) ho.drew x
  rw [hx] at hix
  go_enter Tryz.func19, Tryz.ntmps19
  go_wp2_with fail
  rw [← hV.out]
  refine wp_region_live 15 (fun V => V.cell? ⟨b, 0, none⟩ = some (.slice a0 s.L.length cap0) ∧ V.cell? ⟨W.heap.size, 1, none⟩ = some (I x)) (by kernel_rfl) ⟨gc, gx⟩ (fun hHeld => ?_)
  refine wpAnyT_take (i := 0) (oi := _) (v := ?_) rfl (by kernel_rfl) (by kernel_rfl) (by kernel_rfl) (by kernel_rfl) (by kernel_rfl) (fun _ _ _ h => h) (Or.inl ⟨by rfl, ?_⟩) (by with_reducible assumption) ?_
  rotate_left
  · (intro V hSw; obtain ⟨s1, s2⟩ := hSw; go_simp); with_reducible rfl
  try simp only [Act.put, List.setIfInBounds_toArray, List.set_cons_zero, List.set_cons_succ]
  refine wpAnyT_take (i := 1) (oi := _) (v := ?_) rfl (by kernel_rfl) (by kernel_rfl) (by kernel_rfl) (by kernel_rfl) (by kernel_rfl) (fun _ _ _ h => h) (Or.inl ⟨by rfl, ?_⟩) (by with_reducible assumption) ?_
  rotate_left
  · (intro V hSw; obtain ⟨s1, s2⟩ := hSw; go_simp); with_reducible rfl
  try simp only [Act.put, List.setIfInBounds_toArray, List.set_cons_zero, List.set_cons_succ]
  refine wpAnyT_take (i := 2) (oi := _) (v := ?_) rfl (by kernel_rfl) (by kernel_rfl) (by kernel_rfl) (by kernel_rfl) (by kernel_rfl) (fun _ _ _ h => h) (Or.inl ⟨by rfl, ?_⟩) (by with_reducible assumption) ?_
  rotate_left
  · (intro V hSw; obtain ⟨s1, s2⟩ := hSw; go_simp); with_reducible rfl
  try simp only [Act.put, List.setIfInBounds_toArray, List.set_cons_zero, List.set_cons_succ]
  refine wpAnyT_take (i := 3) (oi := _) (v := ?_) rfl (by kernel_rfl) (by kernel_rfl) (by kernel_rfl) (by kernel_rfl) (by kernel_rfl) (fun _ _ _ h => h) (Or.inl ⟨by rfl, ?_⟩) (by with_reducible assumption) ?_
  rotate_left
  · (intro V hSw; obtain ⟨s1, s2⟩ := hSw; go_simp); with_reducible rfl
  try simp only [Act.put, List.setIfInBounds_toArray, List.set_cons_zero, List.set_cons_succ]
  refine wpAnyT_take (i := 4) (oi := _) (v := ?_) rfl (by kernel_rfl) (by kernel_rfl) (by kernel_rfl) (by kernel_rfl) (by kernel_rfl) (fun _ _ _ h => h) (Or.inl ⟨by rfl, ?_⟩) (by with_reducible assumption) ?_
  rotate_left
  · (intro V hSw; obtain ⟨s1, s2⟩ := hSw; go_simp); with_reducible rfl
  try simp only [Act.put, List.setIfInBounds_toArray, List.set_cons_zero, List.set_cons_succ]
  refine wpAnyT_take (i := 5) (oi := _) (v := ?_) rfl (by kernel_rfl) (by kernel_rfl) (by kernel_rfl) (by kernel_rfl) (by kernel_rfl) (fun _ _ _ h => h) (Or.inl ⟨by rfl, ?_⟩) (by with_reducible assumption) ?_
  rotate_left
  · (intro V hSw; obtain ⟨s1, s2⟩ := hSw; go_simp); with_reducible rfl
  try simp only [Act.put, List.setIfInBounds_toArray, List.set_cons_zero, List.set_cons_succ]
  refine wpAnyT_take (i := 6) (oi := _) (v := ?_) rfl (by kernel_rfl) (by kernel_rfl) (by kernel_rfl) (by kernel_rfl) (by kernel_rfl) (fun _ _ _ h => h) (Or.inl ⟨by rfl, ?_⟩) (by with_reducible assumption) ?_
  rotate_left
  · (intro V hSw; obtain ⟨s1, s2⟩ := hSw; go_simp); with_reducible rfl
  try simp only [Act.put, List.setIfInBounds_toArray, List.set_cons_zero, List.set_cons_succ]
  refine wpAnyT_take (i := 7) (oi := _) (v := ?_) rfl (by kernel_rfl) (by kernel_rfl) (by kernel_rfl) (by kernel_rfl) (by kernel_rfl) (fun _ _ _ h => h) (Or.inl ⟨by rfl, ?_⟩) (by with_reducible assumption) ?_
  rotate_left
  · (intro V hSw; obtain ⟨s1, s2⟩ := hSw; go_simp); with_reducible rfl
  try simp only [Act.put, List.setIfInBounds_toArray, List.set_cons_zero, List.set_cons_succ]
  refine wpAnyT_take (i := 8) (oi := _) (v := ?_) rfl (by kernel_rfl) (by kernel_rfl) (by kernel_rfl) (by kernel_rfl) (by kernel_rfl) (fun _ _ _ h => h) (Or.inl ⟨by rfl, ?_⟩) (by with_reducible assumption) ?_
  rotate_left
  · (intro V hSw; obtain ⟨s1, s2⟩ := hSw; go_simp); with_reducible rfl
  try simp only [Act.put, List.setIfInBounds_toArray, List.set_cons_zero, List.set_cons_succ]
  refine wpAnyT_take (i := 9) (oi := _) (v := ?_) rfl (by kernel_rfl) (by kernel_rfl) (by kernel_rfl) (by kernel_rfl) (by kernel_rfl) (fun _ _ _ h => h) (Or.inl ⟨by rfl, ?_⟩) (by with_reducible assumption) ?_
  rotate_left
  · (intro V hSw; obtain ⟨s1, s2⟩ := hSw; go_simp); with_reducible rfl
  try simp only [Act.put, List.setIfInBounds_toArray, List.set_cons_zero, List.set_cons_succ]
  refine wpAnyT_take (i := 10) (oi := _) (v := ?_) rfl (by kernel_rfl) (by kernel_rfl) (by kernel_rfl) (by kernel_rfl) (by kernel_rfl) (fun _ _ _ h => h) (Or.inl ⟨by rfl, ?_⟩) (by with_reducible assumption) ?_
  rotate_left
  · (intro V hSw; obtain ⟨s1, s2⟩ := hSw; go_simp); with_reducible rfl
  try simp only [Act.put, List.setIfInBounds_toArray, List.set_cons_zero, List.set_cons_succ]
  refine wpAnyT_ready (rs := [11]) (by kernel_rfl) (by simp) ?_
  refine AllReadyT.live (o := _) rfl (fun K hK => ?_) AllReadyT.nil
  go_simp
  refine hix.mono ?_
  rintro e w' ⟨rfl, rfl⟩
  dsimp only
  refine hK.out _ _ hHeld (fun hHeld => ?_)
  clear hK K
  try simp only [Act.put, List.setIfInBounds_toArray, List.set_cons_zero, List.set_cons_succ]
  refine wpAnyT_ready (rs := [12]) (by kernel_rfl) (by simp) ?_
  refine AllReadyT.live (o := _) rfl (fun K hK => ?_) AllReadyT.nil
  go_simp
  refine (r_without_none ho.drew (-1) (by omega)).mono ?_
  rintro e w' ⟨rfl, rfl⟩
  dsimp only
  refine hK.out _ _ hHeld (fun hHeld => ?_)
  clear hK K
  try simp only [Act.put, List.setIfInBounds_toArray, List.set_cons_zero, List.set_cons_succ]
  refine wpAnyT_take (i := 13) (oi := _) (v := ?_) rfl (by kernel_rfl) (by kernel_rfl) (by kernel_rfl) (by kernel_rfl) (by kernel_rfl) (fun _ _ _ h => h) (Or.inl ⟨by rfl, ?_⟩) (by with_reducible assumption) ?_
  rotate_left
  · (intro V hSw; obtain ⟨s1, s2⟩ := hSw; go_simp); with_reducible rfl
  try simp only [Act.put, List.setIfInBounds_toArray, List.set_cons_zero, List.set_cons_succ]
  refine wpAnyT_take (i := 14) (oi := _) (v := ?_) rfl (by kernel_rfl) (by kernel_rfl) (by kernel_rfl) (by kernel_rfl) (by kernel_rfl) (fun _ _ _ h => h) (Or.inl ⟨by rfl, ?_⟩) (by with_reducible assumption) ?_
  rotate_left
  · (intro V hSw; obtain ⟨s1, s2⟩ := hSw; go_simp); with_reducible rfl
  try simp only [Act.put, List.setIfInBounds_toArray, List.set_cons_zero, List.set_cons_succ]
  refine wpAnyT_ready (rs := [15]) (by kernel_rfl) (by simp) ?_
  refine AllReadyT.dead (o := _) rfl (by kernel_rfl) (fun K hK => ?_) AllReadyT.nil
  go_simp
  obtain ⟨w2, hw2⟩ : ∃ w2, w2 = V.setCell ⟨b, 0, none⟩ (.slice a0 s.L.length cap0) := ⟨_, rfl⟩
  have hR : REnds b { s with L := s.L } lL lK lO V w2 := by rw [hw2]; exact hA.out.set_L (Kept.refl _ _) ho (.inl rfl)
  rw [← hw2]
  replace hw2 := Lib.hid hw2
  refine hK.out _ _ ?_
  clear hK K
  try simp only [Act.put, List.setIfInBounds_toArray, List.set_cons_zero, List.set_cons_succ]
  refine wpAnyT_done (by kernel_rfl) ?_ _
  go_wp2_with fail
  first | go_end0 | ((try simp only [Exit.inBlock, Exit.then]); refine bodyPost_ret (results_none rfl _ _ _) rfl ?_)
  replace hR := hR.to_drew
  rw [hV.out] at hR
  exact ⟨rfl, hR.alloc⟩

set_option maxRecDepth 100000 in
set_option maxHeartbeats 2000000 in
theorem r_ints_sum (h : RS b s lL lK lO W) (hn : s.out.length ≤ 1000) (hn2 : s.L.length ≤ 1000) (x y : Int) (so : Bool) (hLr : ∀ z ∈ s.L, inR z) :
    Calls Tryz.prog 19 #[PB b, CL ⟨#[115, 117, 109]⟩ x y, .bool so] W fun e w' => e = .returned (.tuple #[]) ∧ REnds b (fin s (sumO 0 s.L)) lL lK lO W w' := by
  obtain ⟨V, hV⟩ : ∃ V, V = W.alloc (.cells #[.string ⟨#[115, 117, 109]⟩, I x, I y] 40) := ⟨_, rfl⟩
  have hA : RS b s lL lK lO V := by rw [hV]; exact h.alloc _
  obtain ⟨gx0, gx⟩ : V.cell? ⟨W.heap.size, 0, none⟩ = some (.string ⟨#[115, 117, 109]⟩) ∧ V.cell? ⟨W.heap.size, 1, none⟩ = some (I x) := by
    rw [hV]
    refine ⟨?_, ?_⟩ <;> (unfold World.cell?; rw [heap_alloc, if_pos rfl]; rfl)
  obtain ⟨lv, gc, ho⟩ := hA.c0
  have gf := hA.f 0
  have hfb : lL ≠ some b := fun e => (hA.dL b e).1 rfl
  obtain ⟨a0, cap0, rfl, _⟩ := ho.form
  have gcW := gc
  rw [hV] at gcW
  have gfW := gf
  rw [hV] at gfW
  have hoW := ho
  rw [hV] at hoW
  have hAW := hA
  rw [hV] at hAW
  replace hV := Lib.hid hV
  replace hA := Lib.hid hA
  replace hAW := Lib.hid hAW
  obtain ⟨R, hRR⟩ : ∃ R, R = sumO 0 s.L := ⟨_, rfl⟩
  rw [← hRR]
  replace hRR := Lib.hid hRR
  have hC : Hid (∀ (j : Nat) (z : Int), s.L[j]? = some z → ∃ bb off, a0 = some ⟨bb, off, none⟩ ∧ V.cell? ⟨bb, off + j, none⟩ = some (I z)) := Lib.hid (by
    intro j z hz
    rcases ho.cases with ⟨e, _, e0⟩ | ⟨bb, off, cap, e, e2⟩
    · rw [e0] at hz; simp at hz
    · cases e; exact ⟨bb, off, rfl, ho.cell hz⟩)
  have hLr' := Lib.hid hLr
  clear hLr
  have gcf := hA.out.c5
  have gff := hA.out.f 5
  have hn2' := hn2
  go_enter Tryz.func19, Tryz.ntmps19
  go_wp2_with fail
  rw [← hV.out]
  go_loopg [7, 8] s.L.length (fun gg s7 s8 wr => ∃ (kk : Nat) (m : Int), kk ≤ s.L.length ∧ s.L.length - kk ≤ gg ∧ s7 = I m ∧ s8 = I kk ∧ wr = V ∧ inR m ∧ Hid (R = sumO m (s.L.drop kk)))
  case atStart => exact ⟨0, 0, by omega, by omega, rfl, rfl, rfl, by simp [inR], Lib.hid (by rw [hRR.out]; simp)⟩
  case round =>
    obtain ⟨kk, m, hkk, hg, rfl, rfl, rfl, hm, hs⟩ := hrel
    have ⟨m1, m2⟩ := hm
    by_cases hlt : kk < s.L.length
    · have hltz : (kk : Int) < (s.L.length : Int) := by omega
      have hkz : (0 : Int) ≤ (kk : Int) := by omega
      have hz := List.getElem?_eq_getElem hlt
      generalize s.L[kk] = z at hz
      obtain ⟨z1, z2⟩ := hLr'.out z (List.mem_of_getElem? hz)
      obtain ⟨bb, off, rfl, hcz⟩ := hC.out kk z hz
      have hs2 := hs.out
      rw [List.drop_eq_getElem_cons hlt, show s.L[kk] = z from by rw [List.getElem?_eq_getElem hlt] at hz; exact Option.some.inj hz, sumO] at hs2
      clear hs hz
      have hbeyond := fun w => r_beyond (m + z) w
      by_cases hp : inR (m + z)
      · rw [if_pos hp] at hs2
        replace hs2 := Lib.hid hs2
        rw [show decide (¬ inR (m + z)) = false by simpa using hp] at hbeyond
        go_wp2_with (go_at_call 81; refine (hbeyond _).mono ?_; rintro e w' ⟨rfl, rfl⟩)
        go_roundg (s.L.length - (kk + 1))
        case measure => omega
        case rel => exact ⟨kk + 1, m + z, by omega, by omega, rfl, by go_num, rfl, hp, hs2⟩
      · rw [if_neg hp] at hs2
        replace hs2 := Lib.hid hs2
        rw [show decide (¬ inR (m + z)) = true by simpa using hp] at hbeyond
        go_wp2_with (go_at_call 81; refine (hbeyond _).mono ?_; rintro e w' ⟨rfl, rfl⟩)
        first | go_end0 | ((try simp only [Exit.inBlock, Exit.then]); refine bodyPost_ret (results_none rfl _ _ _) rfl ?_)
        rw [hs2.out]
        refine ⟨rfl, ?_⟩
        have hR := REnds.of_set (hA.out.set_fault 7)
        exact REnds.alloc (o := (.cells #[.string ⟨#[115, 117, 109]⟩, I x, I y] 40)) (by rw [← hV.out]; exact hR)
    · have hltz : ¬ (kk : Int) < (s.L.length : Int) := by omega
      have hs2 := hs.out
      rw [List.drop_eq_nil_of_le (by omega), sumO] at hs2
      replace hs2 := Lib.hid hs2
      clear hs
      go_wp2_with (go_at_call 77; refine (r_put hA.out hn m).mono ?_; rintro e w' ⟨rfl, hR⟩)
      first | go_end0 | ((try simp only [Exit.inBlock, Exit.then]); refine bodyPost_ret (results_none rfl _ _ _) rfl ?_)
      rw [hs2.out]
      refine ⟨rfl, ?_⟩
      exact REnds.alloc (o := (.cells #[.string ⟨#[115, 117, 109]⟩, I x, I y] 40)) (by rw [← hV.out]; exact hR)
end Go.Proofs.Bm
