/- The reference's SET. No condition but the state's. -/
import Derived.Test.YtipdlkncacjahaaGreatDoorBRAp
set_option linter.unusedSimpArgs false
set_option linter.unusedVariables false
namespace Go.Proofs.Bm
open Go.RowKit Go.Maps
variable {b : Nat} {s s' : RSt} {lL lK lO : Option Nat} {W w' : World}

set_option maxHeartbeats 2000000 in
theorem r_set_size (h : RS b s lL lK lO W) (hn : s.out.length ≤ 1000) (hn2 : s.L.length ≤ 1000) (x y : Int)  :
    Calls Tryz.prog 23 #[PB b, CL ⟨#[115, 105, 122, 101]⟩ x y] W fun e w' => e = .returned (.tuple #[]) ∧ REnds b { s with out := s.out ++ [(s.L.length : Int)] } lL lK lO W w' := by
  have hA := h.alloc (.cells #[.string ⟨#[115, 105, 122, 101]⟩, I x, I y] 40)
  have hf0 := hA.f 0
  obtain ⟨lv, hc0, ho⟩ := hA.c0
  obtain ⟨a0, cap0, rfl, _⟩ := ho.form
  have hix := fun k => r_index (w := (W.alloc (.cells #[.string ⟨#[115, 105, 122, 101]⟩, I x, I y] 40)).drewN k) (ho.keep fun _ _ => rfl) x
  go_enter Tryz.func23, Tryz.ntmps23
  go_wp2
  go_quiet ((go_at_call 80; exact Calls.quiet_of_same (hix _)))
  have hS := hA.drewN nq
  go_wp2_with (go_at_call 77; refine (r_put hS hn s.L.length).mono ?_; rintro e w' ⟨rfl, hR⟩)
  first | go_end0 | ((try simp only [Exit.inBlock, Exit.then]); refine bodyPost_ret (results_none rfl _ _ _) rfl ?_)
  exact ⟨rfl, hR.drewN.alloc⟩

set_option maxHeartbeats 2000000 in
theorem r_set_has_no (h : RS b s lL lK lO W) (hn : s.out.length ≤ 1000) (hn2 : s.L.length ≤ 1000) (x y : Int) (hx : idx s.L x = -1) :
    Calls Tryz.prog 23 #[PB b, CL ⟨#[104, 97, 115]⟩ x y] W fun e w' => e = .returned (.tuple #[]) ∧ REnds b { s with out := s.out ++ [0] } lL lK lO W w' := by
  have hA := h.alloc (.cells #[.string ⟨#[104, 97, 115]⟩, I x, I y] 40)
  have hf0 := hA.f 0
  obtain ⟨lv, hc0, ho⟩ := hA.c0
  obtain ⟨a0, cap0, rfl, _⟩ := ho.form
  have hix := fun k => r_index (w := (W.alloc (.cells #[.string ⟨#[104, 97, 115]⟩, I x, I y] 40)).drewN k) (ho.keep fun _ _ => rfl) x
  rw [hx] at hix
  go_enter Tryz.func23, Tryz.ntmps23
  go_wp2
  go_quiet ((go_at_call 80; exact Calls.quiet_of_same (hix _)))
  have hS := hA.drewN nq
  go_wp2_with (go_at_call 79; refine (r_truth hS hn false).mono ?_; rintro e w' ⟨rfl, hR⟩)
  first | go_end0 | ((try simp only [Exit.inBlock, Exit.then]); refine bodyPost_ret (results_none rfl _ _ _) rfl ?_)
  exact ⟨rfl, hR.drewN.alloc⟩

set_option maxHeartbeats 2000000 in
theorem r_set_has_yes (h : RS b s lL lK lO W) (hn : s.out.length ≤ 1000) (hn2 : s.L.length ≤ 1000) (x y : Int) (i : Nat) (hx : idx s.L x = (i : Int)) :
    Calls Tryz.prog 23 #[PB b, CL ⟨#[104, 97, 115]⟩ x y] W fun e w' => e = .returned (.tuple #[]) ∧ REnds b { s with out := s.out ++ [1] } lL lK lO W w' := by
  have hA := h.alloc (.cells #[.string ⟨#[104, 97, 115]⟩, I x, I y] 40)
  have hf0 := hA.f 0
  obtain ⟨lv, hc0, ho⟩ := hA.c0
  obtain ⟨a0, cap0, rfl, _⟩ := ho.form
  have hix := fun k => r_index (w := (W.alloc (.cells #[.string ⟨#[104, 97, 115]⟩, I x, I y] 40)).drewN k) (ho.keep fun _ _ => rfl) x
  rw [hx] at hix
  have hi0 : (0 : Int) ≤ (i : Int) := by omega
  go_enter Tryz.func23, Tryz.ntmps23
  go_wp2
  go_quiet ((go_at_call 80; exact Calls.quiet_of_same (hix _)))
  have hS := hA.drewN nq
  go_wp2_with (go_at_call 79; refine (r_truth hS hn true).mono ?_; rintro e w' ⟨rfl, hR⟩)
  first | go_end0 | ((try simp only [Exit.inBlock, Exit.then]); refine bodyPost_ret (results_none rfl _ _ _) rfl ?_)
  exact ⟨rfl, hR.drewN.alloc⟩

set_option maxHeartbeats 2000000 in
theorem r_set_drop_no (h : RS b s lL lK lO W) (hn : s.out.length ≤ 1000) (hn2 : s.L.length ≤ 1000) (x y : Int) (hx : idx s.L x = -1) :
    Calls Tryz.prog 23 #[PB b, CL ⟨#[100, 114, 111, 112]⟩ x y] W fun e w' => e = .returned (.tuple #[]) ∧ REnds b { s with L := s.L } lL lK lO W w' := by
  have hA := h.alloc (.cells #[.string ⟨#[100, 114, 111, 112]⟩, I x, I y] 40)
  have hf0 := hA.f 0
  obtain ⟨lv, hc0, ho⟩ := hA.c0
  obtain ⟨a0, cap0, rfl, _⟩ := ho.form
  have hix := fun k => r_index (w := (W.alloc (.cells #[.string ⟨#[100, 114, 111, 112]⟩, I x, I y] 40)).drewN k) (ho.keep fun _ _ => rfl) x
  rw [hx] at hix
  have hw := fun k => r_without_none (w := (W.alloc (.cells #[.string ⟨#[100, 114, 111, 112]⟩, I x, I y] 40)).drewN k) (ho.keep fun _ _ => rfl) (-1) (by omega)
  have hoN := fun k => (show OwnI ((W.alloc (.cells #[.string ⟨#[100, 114, 111, 112]⟩, I x, I y] 40)).drewN k) _ lL s.L from ho.keep fun _ _ => rfl)
  go_enter Tryz.func23, Tryz.ntmps23
  go_wp2
  go_quiet ((go_at_call 80; exact Calls.quiet_of_same (hix _)))
  have hS := hA.drewN nq
  go_wp2_with (go_at_call 82; refine (hw nq).mono ?_; rintro e w' ⟨rfl, rfl⟩)
  first | go_end0 | ((try simp only [Exit.inBlock, Exit.then]); refine bodyPost_ret (results_none rfl _ _ _) rfl ?_)
  exact ⟨rfl, (hS.set_L (Kept.refl _ _) (hoN nq) (.inl rfl)).drewN.alloc⟩

set_option maxHeartbeats 2000000 in
theorem r_set_drop_yes (h : RS b s lL lK lO W) (hn : s.out.length ≤ 1000) (hn2 : s.L.length ≤ 1000) (x y : Int) (i : Nat) (hx : idx s.L x = (i : Int)) (hi : i < s.L.length) :
    Calls Tryz.prog 23 #[PB b, CL ⟨#[100, 114, 111, 112]⟩ x y] W fun e w' => e = .returned (.tuple #[]) ∧ REnds b { s with L := s.L.take i ++ s.L.drop (i + 1) } lL lK lO W w' := by
  have hA := h.alloc (.cells #[.string ⟨#[100, 114, 111, 112]⟩, I x, I y] 40)
  have hf0 := hA.f 0
  obtain ⟨lv, hc0, ho⟩ := hA.c0
  obtain ⟨a0, cap0, rfl, _⟩ := ho.form
  have hix := fun k => r_index (w := (W.alloc (.cells #[.string ⟨#[100, 114, 111, 112]⟩, I x, I y] 40)).drewN k) (ho.keep fun _ _ => rfl) x
  rw [hx] at hix
  have hlen : (s.L.take i ++ s.L.drop (i + 1)).length = s.L.length - 1 := by simp; omega
  have hw := fun k => r_without (w := (W.alloc (.cells #[.string ⟨#[100, 114, 111, 112]⟩, I x, I y] 40)).drewN k) (ho.keep fun _ _ => rfl) hn2 i hi
  go_enter Tryz.func23, Tryz.ntmps23
  go_wp2
  go_quiet ((go_at_call 80; exact Calls.quiet_of_same (hix _)))
  have hS := hA.drewN nq
  go_wp2_with (go_at_call 82; refine (hw nq).mono ?_; rintro e w' ⟨v', k', rfl, ho', hk', hr⟩; obtain ⟨a', cap', rfl, _⟩ := ho'.form; rw [hlen] at ho' ⊢; have hk2 := hk'.mono (G := fun j => lL = some j) (fun _ e => e.elim); have hm' := hk'.cell_some (show ((W.alloc (.cells #[.string ⟨#[100, 114, 111, 112]⟩, I x, I y] 40)).drewN nq).cell? ⟨b, 0, none⟩ = _ from hc0) (fun e => e); have hf2 := (hk'.frozen (p := ⟨b, 0, none⟩) hS.lt (fun e => e)).trans (hS.f 0))
  first | go_end0 | ((try simp only [Exit.inBlock, Exit.then]); refine bodyPost_ret (results_none rfl _ _ _) rfl ?_)
  exact ⟨rfl, (hS.set_L hk2 ho' (.inr hr)).drewN.alloc⟩

set_option maxHeartbeats 2000000 in
theorem r_set_add_yes (h : RS b s lL lK lO W) (hn : s.out.length ≤ 1000) (hn2 : s.L.length ≤ 1000) (x y : Int) (i : Nat) (hx : idx s.L x = (i : Int)) :
    Calls Tryz.prog 23 #[PB b, CL ⟨#[97, 100, 100]⟩ x y] W fun e w' => e = .returned (.tuple #[]) ∧ REnds b s lL lK lO W w' := by
  have hA := h.alloc (.cells #[.string ⟨#[97, 100, 100]⟩, I x, I y] 40)
  have hf0 := hA.f 0
  obtain ⟨lv, hc0, ho⟩ := hA.c0
  obtain ⟨a0, cap0, rfl, _⟩ := ho.form
  have hix := fun k => r_index (w := (W.alloc (.cells #[.string ⟨#[97, 100, 100]⟩, I x, I y] 40)).drewN k) (ho.keep fun _ _ => rfl) x
  rw [hx] at hix
  have hi0 : ¬ (i : Int) < 0 := by omega
  go_enter Tryz.func23, Tryz.ntmps23
  go_wp2
  go_quiet ((go_at_call 80; exact Calls.quiet_of_same (hix _)))
  have hS := hA.drewN nq
  go_wp2
  first | go_end0 | ((try simp only [Exit.inBlock, Exit.then]); refine bodyPost_ret (results_none rfl _ _ _) rfl ?_)
  exact ⟨rfl, (REnds.refl hS).drewN.alloc⟩

set_option maxRecDepth 100000 in
set_option maxHeartbeats 2000000 in
theorem r_set_add_no (h : RS b s lL lK lO W) (hn : s.out.length ≤ 1000) (hn2 : s.L.length ≤ 1000) (x y : Int) (hx : idx s.L x = -1) :
    Calls Tryz.prog 23 #[PB b, CL ⟨#[97, 100, 100]⟩ x y] W fun e w' => e = .returned (.tuple #[]) ∧ REnds b { s with L := s.L ++ [x] } lL lK lO W w' := by
  have hA := h.alloc (.cells #[.string ⟨#[97, 100, 100]⟩, I x, I y] 40)
  have hf0 := hA.f 0
  obtain ⟨lv, hc0, ho⟩ := hA.c0
  obtain ⟨a0, cap0, rfl, _⟩ := ho.form
  have hix := fun k => r_index (w := (W.alloc (.cells #[.string ⟨#[97, 100, 100]⟩, I x, I y] 40)).drewN k) (ho.keep fun _ _ => rfl) x
  rw [hx] at hix
  go_enter Tryz.func23, Tryz.ntmps23
  go_wp2
  go_quiet ((go_at_call 80; exact Calls.quiet_of_same (hix _)))
  have hS := hA.drewN nq
  go_wp2_with fail
  obtain ⟨V, hV⟩ : ∃ V, V = (W.alloc (.cells #[.string ⟨#[97, 100, 100]⟩, I x, I y] 40)).drewN nq := ⟨_, rfl⟩
  rw [← hV]
  rw [← hV] at hS
  have hVs : V.heap.size = W.heap.size + 1 := by rw [hV]; simp
  have gx : V.cell? ⟨W.heap.size, 1, none⟩ = some (I x) := by
    rw [hV]
    show (W.alloc _).cell? _ = _
    unfold World.cell?; rw [heap_alloc, if_pos rfl]; rfl
  have gc : V.cell? ⟨b, 0, none⟩ = some (.slice a0 s.L.length cap0) := by rw [hV]; exact hc0
  have gf := hS.f 0
  have hfb : lL ≠ some b := fun e => (hS.dL b e).1 rfl
  have hlen : (s.L ++ [x]).length = s.L.length + 1 := by simp
  have hoV : OwnI V (.slice a0 s.L.length cap0) lL s.L := by rw [hV]; exact ho.keep fun _ _ => rfl
  have ho2 : OwnI (V.drew.alloc (.cells #[I x] 3)) (.slice a0 s.L.length cap0) lL s.L := hoV.drew.alloc _
  have hx2 : (V.drew.alloc (.cells #[I x] 3)).cell? ⟨W.heap.size + 1, 0, none⟩ = some (I x) := by rw [← hVs]; exact cell_new1 V.drew _ _
  replace hV := Lib.hid hV
  replace hS := Lib.hid hS
  clear hix
  refine wp_region_held_drew (S := fun _ => True) (by kernel_rfl) trivial (fun _ => ?_)
  have gc1 : V.drew.cell? ⟨b, 0, none⟩ = some (.slice a0 s.L.length cap0) := gc
  have gx1 : V.drew.cell? ⟨W.heap.size, 1, none⟩ = some (I x) := gx
  refine wpAnyH_take (i := 0) (oi := _) (v := ?_) rfl (by kernel_rfl) (by kernel_rfl) (by kernel_rfl) (fun _ _ _ h => h) (Or.inl ⟨by rfl, ?_⟩) trivial ?_
  rotate_left
  · (intro V' hSw; clear hSw; go_simp); with_reducible rfl
  try simp only [Act.put, List.setIfInBounds_toArray, List.set_cons_zero, List.set_cons_succ]
  refine wpAnyH_take (i := 1) (oi := _) (v := ?_) rfl (by kernel_rfl) (by kernel_rfl) (by kernel_rfl) (fun _ _ _ h => h) (Or.inl ⟨by rfl, ?_⟩) trivial ?_
  rotate_left
  · (intro V' hSw; clear hSw; go_simp); with_reducible rfl
  try simp only [Act.put, List.setIfInBounds_toArray, List.set_cons_zero, List.set_cons_succ]
  refine wpAnyH_take (i := 2) (oi := _) (v := ?_) rfl (by kernel_rfl) (by kernel_rfl) (by kernel_rfl) (fun _ _ _ h => h) (Or.inl ⟨by rfl, ?_⟩) trivial ?_
  rotate_left
  · (intro V' hSw; clear hSw; go_simp); with_reducible rfl
  try simp only [Act.put, List.setIfInBounds_toArray, List.set_cons_zero, List.set_cons_succ]
  refine wpAnyH_take (i := 3) (oi := _) (v := ?_) rfl (by kernel_rfl) (by kernel_rfl) (by kernel_rfl) (fun _ _ _ h => h) (Or.inl ⟨by rfl, ?_⟩) trivial ?_
  rotate_left
  · (intro V' hSw; clear hSw; go_simp); with_reducible rfl
  try simp only [Act.put, List.setIfInBounds_toArray, List.set_cons_zero, List.set_cons_succ]
  refine wpAnyH_take (i := 5) (oi := _) (v := ?_) rfl (by kernel_rfl) (by kernel_rfl) (by kernel_rfl) (fun _ _ _ h => h) (Or.inl ⟨by rfl, ?_⟩) trivial ?_
  rotate_left
  · (intro V' hSw; clear hSw; go_simp); with_reducible rfl
  try simp only [Act.put, List.setIfInBounds_toArray, List.set_cons_zero, List.set_cons_succ]
  refine wpAnyH_ready (rs := [4, 6]) (by kernel_rfl) (by simp) ?_
  refine AllReadyH.cons (o := _) rfl (fun K hK => ?_) (AllReadyH.cons (o := _) rfl (fun K hK => ?_) AllReadyH.nil)
  · go_simp
    refine hK.out _ _ trivial (fun _ => ?_)
    clear hK K
    try simp only [Act.put, List.setIfInBounds_toArray, List.set_cons_zero, List.set_cons_succ]
    refine wpAnyH_ready (rs := [6]) (by kernel_rfl) (by simp) ?_
    refine AllReadyH.cons (o := _) rfl (fun K hK => ?_) AllReadyH.nil
    go_simp
    refine hK.out _ _ trivial (fun _ => ?_)
    clear hK K
    try simp only [Act.put, List.setIfInBounds_toArray, List.set_cons_zero, List.set_cons_succ]
    refine wpAnyH_ready (rs := [7]) (by kernel_rfl) (by simp) ?_
    refine AllReadyH.cons (o := _) rfl (fun K hK => ?_) AllReadyH.nil
    go_simp
    refine hK.out _ _ trivial (fun _ => ?_)
    clear hK K
    try simp only [Act.put, List.setIfInBounds_toArray, List.set_cons_zero, List.set_cons_succ]
    refine wpAnyH_ready (rs := [8]) (by kernel_rfl) (by simp) ?_
    refine AllReadyH.cons (o := _) rfl (fun K hK => ?_) AllReadyH.nil
    refine step_of_wp rfl ?_
    refine wp_append_I _ _ rfl rfl x (W.heap.size + 1) 1 rfl ho2 (by omega) hx2 ?_
    intro v' k' w' ho' hk' hr
    obtain ⟨a', cap', rfl, _⟩ := ho'.form
    rw [hlen] at ho' ⊢
    have hk2 : Kept (fun j => lL = some j) V w' := (((Kept.refl _ V).drew).alloc _).trans' hk'
    have gc' := hk2.cell_some gc hfb
    have gf' := (hk2.frozen (p := ⟨b, 0, none⟩) hS.out.lt hfb).trans gf
    refine hK.out _ _ trivial (fun _ => ?_)
    clear hK K
    try simp only [Act.put, List.setIfInBounds_toArray, List.set_cons_zero, List.set_cons_succ]
    refine wpAnyH_take (i := 9) (oi := _) (v := ?_) rfl (by kernel_rfl) (by kernel_rfl) (by kernel_rfl) (fun _ _ _ h => h) (Or.inl ⟨by rfl, ?_⟩) trivial ?_
    rotate_left
    · (intro V' hSw; clear hSw; go_simp); with_reducible rfl
    try simp only [Act.put, List.setIfInBounds_toArray, List.set_cons_zero, List.set_cons_succ]
    refine wpAnyH_take (i := 10) (oi := _) (v := ?_) rfl (by kernel_rfl) (by kernel_rfl) (by kernel_rfl) (fun _ _ _ h => h) (Or.inl ⟨by rfl, ?_⟩) trivial ?_
    rotate_left
    · (intro V' hSw; clear hSw; go_simp); with_reducible rfl
    try simp only [Act.put, List.setIfInBounds_toArray, List.set_cons_zero, List.set_cons_succ]
    refine wpAnyH_ready (rs := [11]) (by kernel_rfl) (by simp) ?_
    refine AllReadyH.cons (o := _) rfl (fun K hK => ?_) AllReadyH.nil
    go_simp
    obtain ⟨w2, hw2⟩ : ∃ w2, w2 = w'.setCell ⟨b, 0, none⟩ (.slice a' (s.L.length + 1) cap') := ⟨_, rfl⟩
    have hR : REnds b { s with L := s.L ++ [x] } lL lK lO V w2 := by rw [hw2]; exact hS.out.set_L hk2 ho' (hr.of_le (by show V.heap.size ≤ (V.drew.alloc _).heap.size; simp))
    rw [← hw2]
    replace hw2 := Lib.hid hw2
    refine hK.out _ _ trivial (fun _ => ?_)
    clear hK K
    try simp only [Act.put, List.setIfInBounds_toArray, List.set_cons_zero, List.set_cons_succ]
    refine wpAnyH_done (by kernel_rfl) ?_ _
    go_wp2
    first | go_end0 | ((try simp only [Exit.inBlock, Exit.then]); refine bodyPost_ret (results_none rfl _ _ _) rfl ?_)
    rw [hV.out] at hR
    exact ⟨rfl, hR.drewN.alloc⟩
  · go_simp
    refine hK.out _ _ trivial (fun _ => ?_)
    clear hK K
    try simp only [Act.put, List.setIfInBounds_toArray, List.set_cons_zero, List.set_cons_succ]
    refine wpAnyH_ready (rs := [4, 7]) (by kernel_rfl) (by simp) ?_
    refine AllReadyH.cons (o := _) rfl (fun K hK => ?_) (AllReadyH.cons (o := _) rfl (fun K hK => ?_) AllReadyH.nil)
    · go_simp
      refine hK.out _ _ trivial (fun _ => ?_)
      clear hK K
      try simp only [Act.put, List.setIfInBounds_toArray, List.set_cons_zero, List.set_cons_succ]
      refine wpAnyH_ready (rs := [7]) (by kernel_rfl) (by simp) ?_
      refine AllReadyH.cons (o := _) rfl (fun K hK => ?_) AllReadyH.nil
      go_simp
      refine hK.out _ _ trivial (fun _ => ?_)
      clear hK K
      try simp only [Act.put, List.setIfInBounds_toArray, List.set_cons_zero, List.set_cons_succ]
      refine wpAnyH_ready (rs := [8]) (by kernel_rfl) (by simp) ?_
      refine AllReadyH.cons (o := _) rfl (fun K hK => ?_) AllReadyH.nil
      refine step_of_wp rfl ?_
      refine wp_append_I _ _ rfl rfl x (W.heap.size + 1) 1 rfl ho2 (by omega) hx2 ?_
      intro v' k' w' ho' hk' hr
      obtain ⟨a', cap', rfl, _⟩ := ho'.form
      rw [hlen] at ho' ⊢
      have hk2 : Kept (fun j => lL = some j) V w' := (((Kept.refl _ V).drew).alloc _).trans' hk'
      have gc' := hk2.cell_some gc hfb
      have gf' := (hk2.frozen (p := ⟨b, 0, none⟩) hS.out.lt hfb).trans gf
      refine hK.out _ _ trivial (fun _ => ?_)
      clear hK K
      try simp only [Act.put, List.setIfInBounds_toArray, List.set_cons_zero, List.set_cons_succ]
      refine wpAnyH_take (i := 9) (oi := _) (v := ?_) rfl (by kernel_rfl) (by kernel_rfl) (by kernel_rfl) (fun _ _ _ h => h) (Or.inl ⟨by rfl, ?_⟩) trivial ?_
      rotate_left
      · (intro V' hSw; clear hSw; go_simp); with_reducible rfl
      try simp only [Act.put, List.setIfInBounds_toArray, List.set_cons_zero, List.set_cons_succ]
      refine wpAnyH_take (i := 10) (oi := _) (v := ?_) rfl (by kernel_rfl) (by kernel_rfl) (by kernel_rfl) (fun _ _ _ h => h) (Or.inl ⟨by rfl, ?_⟩) trivial ?_
      rotate_left
      · (intro V' hSw; clear hSw; go_simp); with_reducible rfl
      try simp only [Act.put, List.setIfInBounds_toArray, List.set_cons_zero, List.set_cons_succ]
      refine wpAnyH_ready (rs := [11]) (by kernel_rfl) (by simp) ?_
      refine AllReadyH.cons (o := _) rfl (fun K hK => ?_) AllReadyH.nil
      go_simp
      obtain ⟨w2, hw2⟩ : ∃ w2, w2 = w'.setCell ⟨b, 0, none⟩ (.slice a' (s.L.length + 1) cap') := ⟨_, rfl⟩
      have hR : REnds b { s with L := s.L ++ [x] } lL lK lO V w2 := by rw [hw2]; exact hS.out.set_L hk2 ho' (hr.of_le (by show V.heap.size ≤ (V.drew.alloc _).heap.size; simp))
      rw [← hw2]
      replace hw2 := Lib.hid hw2
      refine hK.out _ _ trivial (fun _ => ?_)
      clear hK K
      try simp only [Act.put, List.setIfInBounds_toArray, List.set_cons_zero, List.set_cons_succ]
      refine wpAnyH_done (by kernel_rfl) ?_ _
      go_wp2
      first | go_end0 | ((try simp only [Exit.inBlock, Exit.then]); refine bodyPost_ret (results_none rfl _ _ _) rfl ?_)
      rw [hV.out] at hR
      exact ⟨rfl, hR.drewN.alloc⟩
    · go_simp
      have gc2 : (V.alloc (.cells #[I x] 3)).drew.cell? ⟨b, 0, none⟩ = some (.slice a0 s.L.length cap0) := (cell_alloc _ _ _ _ hS.out.lt).trans gc
      refine hK.out _ _ trivial (fun _ => ?_)
      clear hK K
      try simp only [Act.put, List.setIfInBounds_toArray, List.set_cons_zero, List.set_cons_succ]
      refine wpAnyH_ready (rs := [4]) (by kernel_rfl) (by simp) ?_
      refine AllReadyH.cons (o := _) rfl (fun K hK => ?_) AllReadyH.nil
      go_simp
      refine hK.out _ _ trivial (fun _ => ?_)
      clear hK K
      try simp only [Act.put, List.setIfInBounds_toArray, List.set_cons_zero, List.set_cons_succ]
      refine wpAnyH_ready (rs := [8]) (by kernel_rfl) (by simp) ?_
      refine AllReadyH.cons (o := _) rfl (fun K hK => ?_) AllReadyH.nil
      refine step_of_wp rfl ?_
      refine wp_append_I _ _ rfl rfl x (W.heap.size + 1) 1 rfl ho2 (by omega) hx2 ?_
      intro v' k' w' ho' hk' hr
      obtain ⟨a', cap', rfl, _⟩ := ho'.form
      rw [hlen] at ho' ⊢
      have hk2 : Kept (fun j => lL = some j) V w' := (((Kept.refl _ V).drew).alloc _).trans' hk'
      have gc' := hk2.cell_some gc hfb
      have gf' := (hk2.frozen (p := ⟨b, 0, none⟩) hS.out.lt hfb).trans gf
      refine hK.out _ _ trivial (fun _ => ?_)
      clear hK K
      try simp only [Act.put, List.setIfInBounds_toArray, List.set_cons_zero, List.set_cons_succ]
      refine wpAnyH_take (i := 9) (oi := _) (v := ?_) rfl (by kernel_rfl) (by kernel_rfl) (by kernel_rfl) (fun _ _ _ h => h) (Or.inl ⟨by rfl, ?_⟩) trivial ?_
      rotate_left
      · (intro V' hSw; clear hSw; go_simp); with_reducible rfl
      try simp only [Act.put, List.setIfInBounds_toArray, List.set_cons_zero, List.set_cons_succ]
      refine wpAnyH_take (i := 10) (oi := _) (v := ?_) rfl (by kernel_rfl) (by kernel_rfl) (by kernel_rfl) (fun _ _ _ h => h) (Or.inl ⟨by rfl, ?_⟩) trivial ?_
      rotate_left
      · (intro V' hSw; clear hSw; go_simp); with_reducible rfl
      try simp only [Act.put, List.setIfInBounds_toArray, List.set_cons_zero, List.set_cons_succ]
      refine wpAnyH_ready (rs := [11]) (by kernel_rfl) (by simp) ?_
      refine AllReadyH.cons (o := _) rfl (fun K hK => ?_) AllReadyH.nil
      go_simp
      obtain ⟨w2, hw2⟩ : ∃ w2, w2 = w'.setCell ⟨b, 0, none⟩ (.slice a' (s.L.length + 1) cap') := ⟨_, rfl⟩
      have hR : REnds b { s with L := s.L ++ [x] } lL lK lO V w2 := by rw [hw2]; exact hS.out.set_L hk2 ho' (hr.of_le (by show V.heap.size ≤ (V.drew.alloc _).heap.size; simp))
      rw [← hw2]
      replace hw2 := Lib.hid hw2
      refine hK.out _ _ trivial (fun _ => ?_)
      clear hK K
      try simp only [Act.put, List.setIfInBounds_toArray, List.set_cons_zero, List.set_cons_succ]
      refine wpAnyH_done (by kernel_rfl) ?_ _
      go_wp2
      first | go_end0 | ((try simp only [Exit.inBlock, Exit.then]); refine bodyPost_ret (results_none rfl _ _ _) rfl ?_)
      rw [hV.out] at hR
      exact ⟨rfl, hR.drewN.alloc⟩
end Go.Proofs.Bm

namespace Go.Proofs.Bm
open Go.RowKit Go.Maps
variable {b : Nat} {s s' : RSt} {lL lK lO : Option Nat} {W w' : World}

set_option maxHeartbeats 2000000 in
theorem r_table_count (h : RS b s lL lK lO W) (hn : s.out.length ≤ 1000) (hn2 : s.L.length ≤ 1000) (hn3 : s.K.length ≤ 1000) (x y : Int)  :
    Calls Tryz.prog 22 #[PB b, CL ⟨#[99, 111, 117, 110, 116]⟩ x y] W fun e w' => e = .returned (.tuple #[]) ∧ REnds b { s with out := s.out ++ [(s.K.length : Int)] } lL lK lO W w' := by
  have hA := h.alloc (.cells #[.string ⟨#[99, 111, 117, 110, 116]⟩, I x, I y] 40)
  have hf0 := hA.f 0
  have hf1 := hA.f 1
  obtain ⟨lv, hc1, ho⟩ := hA.c1
  obtain ⟨a0, cap0, rfl, _⟩ := ho.form
  have hix := fun k => r_index (w := (W.alloc (.cells #[.string ⟨#[99, 111, 117, 110, 116]⟩, I x, I y] 40)).drewN k) (ho.keep fun _ _ => rfl) x
  go_enter Tryz.func22, Tryz.ntmps22
  go_wp2
  go_quiet ((go_at_call 80; exact Calls.quiet_of_same (hix _)))
  have hS := hA.drewN nq
  go_wp2_with (go_at_call 77; refine (r_put hS hn s.K.length).mono ?_; rintro e w' ⟨rfl, hR⟩)
  first | go_end0 | ((try simp only [Exit.inBlock, Exit.then]); refine bodyPost_ret (results_none rfl _ _ _) rfl ?_)
  exact ⟨rfl, hR.drewN.alloc⟩

set_option maxHeartbeats 2000000 in
theorem r_table_has_no (h : RS b s lL lK lO W) (hn : s.out.length ≤ 1000) (hn2 : s.L.length ≤ 1000) (hn3 : s.K.length ≤ 1000) (x y : Int) (hx : idx s.K x = -1) :
    Calls Tryz.prog 22 #[PB b, CL ⟨#[104, 97, 115]⟩ x y] W fun e w' => e = .returned (.tuple #[]) ∧ REnds b { s with out := s.out ++ [0] } lL lK lO W w' := by
  have hA := h.alloc (.cells #[.string ⟨#[104, 97, 115]⟩, I x, I y] 40)
  have hf0 := hA.f 0
  have hf1 := hA.f 1
  obtain ⟨lv, hc1, ho⟩ := hA.c1
  obtain ⟨a0, cap0, rfl, _⟩ := ho.form
  have hix := fun k => r_index (w := (W.alloc (.cells #[.string ⟨#[104, 97, 115]⟩, I x, I y] 40)).drewN k) (ho.keep fun _ _ => rfl) x
  rw [hx] at hix
  go_enter Tryz.func22, Tryz.ntmps22
  go_wp2
  go_quiet ((go_at_call 80; exact Calls.quiet_of_same (hix _)))
  have hS := hA.drewN nq
  go_wp2_with (go_at_call 79; refine (r_truth hS hn false).mono ?_; rintro e w' ⟨rfl, hR⟩)
  first | go_end0 | ((try simp only [Exit.inBlock, Exit.then]); refine bodyPost_ret (results_none rfl _ _ _) rfl ?_)
  exact ⟨rfl, hR.drewN.alloc⟩

set_option maxHeartbeats 2000000 in
theorem r_table_has_yes (h : RS b s lL lK lO W) (hn : s.out.length ≤ 1000) (hn2 : s.L.length ≤ 1000) (hn3 : s.K.length ≤ 1000) (x y : Int) (i : Nat) (hx : idx s.K x = (i : Int)) :
    Calls Tryz.prog 22 #[PB b, CL ⟨#[104, 97, 115]⟩ x y] W fun e w' => e = .returned (.tuple #[]) ∧ REnds b { s with out := s.out ++ [1] } lL lK lO W w' := by
  have hA := h.alloc (.cells #[.string ⟨#[104, 97, 115]⟩, I x, I y] 40)
  have hf0 := hA.f 0
  have hf1 := hA.f 1
  obtain ⟨lv, hc1, ho⟩ := hA.c1
  obtain ⟨a0, cap0, rfl, _⟩ := ho.form
  have hix := fun k => r_index (w := (W.alloc (.cells #[.string ⟨#[104, 97, 115]⟩, I x, I y] 40)).drewN k) (ho.keep fun _ _ => rfl) x
  rw [hx] at hix
  have hi0 : (0 : Int) ≤ (i : Int) := by omega
  go_enter Tryz.func22, Tryz.ntmps22
  go_wp2
  go_quiet ((go_at_call 80; exact Calls.quiet_of_same (hix _)))
  have hS := hA.drewN nq
  go_wp2_with (go_at_call 79; refine (r_truth hS hn true).mono ?_; rintro e w' ⟨rfl, hR⟩)
  first | go_end0 | ((try simp only [Exit.inBlock, Exit.then]); refine bodyPost_ret (results_none rfl _ _ _) rfl ?_)
  exact ⟨rfl, hR.drewN.alloc⟩

set_option maxHeartbeats 2000000 in
theorem r_table_value_no (h : RS b s lL lK lO W) (hn : s.out.length ≤ 1000) (hn2 : s.L.length ≤ 1000) (hn3 : s.K.length ≤ 1000) (x y : Int) (hx : idx s.K x = -1) :
    Calls Tryz.prog 22 #[PB b, CL ⟨#[118, 97, 108, 117, 101, 95, 111, 102]⟩ x y] W fun e w' => e = .returned (.tuple #[]) ∧ REnds b { s with out := s.out ++ [0] } lL lK lO W w' := by
  have hA := h.alloc (.cells #[.string ⟨#[118, 97, 108, 117, 101, 95, 111, 102]⟩, I x, I y] 40)
  have hf0 := hA.f 0
  have hf1 := hA.f 1
  obtain ⟨lv, hc1, ho⟩ := hA.c1
  obtain ⟨a0, cap0, rfl, _⟩ := ho.form
  have hix := fun k => r_index (w := (W.alloc (.cells #[.string ⟨#[118, 97, 108, 117, 101, 95, 111, 102]⟩, I x, I y] 40)).drewN k) (ho.keep fun _ _ => rfl) x
  rw [hx] at hix
  go_enter Tryz.func22, Tryz.ntmps22
  go_wp2
  go_quiet ((go_at_call 80; exact Calls.quiet_of_same (hix _)))
  have hS := hA.drewN nq
  go_wp2_with (go_at_call 77; refine (r_put hS hn 0).mono ?_; rintro e w' ⟨rfl, hR⟩)
  first | go_end0 | ((try simp only [Exit.inBlock, Exit.then]); refine bodyPost_ret (results_none rfl _ _ _) rfl ?_)
  exact ⟨rfl, hR.drewN.alloc⟩

set_option maxHeartbeats 2000000 in
theorem r_table_value_yes (h : RS b s lL lK lO W) (hn : s.out.length ≤ 1000) (hn2 : s.L.length ≤ 1000) (hn3 : s.K.length ≤ 1000) (x y : Int) (i : Nat) (z : Int) (hx : idx s.K x = (i : Int)) (hz : s.L[i]? = some z) :
    Calls Tryz.prog 22 #[PB b, CL ⟨#[118, 97, 108, 117, 101, 95, 111, 102]⟩ x y] W fun e w' => e = .returned (.tuple #[]) ∧ REnds b { s with out := s.out ++ [z] } lL lK lO W w' := by
  have hA := h.alloc (.cells #[.string ⟨#[118, 97, 108, 117, 101, 95, 111, 102]⟩, I x, I y] 40)
  have hf0 := hA.f 0
  have hf1 := hA.f 1
  obtain ⟨lv, hc1, ho⟩ := hA.c1
  obtain ⟨a0, cap0, rfl, _⟩ := ho.form
  have hix := fun k => r_index (w := (W.alloc (.cells #[.string ⟨#[118, 97, 108, 117, 101, 95, 111, 102]⟩, I x, I y] 40)).drewN k) (ho.keep fun _ _ => rfl) x
  rw [hx] at hix
  have hi0 : ¬ (i : Int) < 0 := by omega
  obtain ⟨lv, hc0, hoL⟩ := hA.c0
  have hlt := (List.getElem?_eq_some_iff.1 hz).1
  rcases hoL.cases with ⟨_, _, h0⟩ | ⟨bb, off, cap, rfl, e⟩
  · rw [h0] at hlt; simp at hlt
  have hcz := hoL.cell hz
  have hltz : (i : Int) < (s.L.length : Int) := by omega
  go_enter Tryz.func22, Tryz.ntmps22
  go_wp2
  go_quiet ((go_at_call 80; exact Calls.quiet_of_same (hix _)))
  have hS := hA.drewN nq
  go_wp2_with (go_at_call 77; refine (r_put hS hn z).mono ?_; rintro e w' ⟨rfl, hR⟩)
  first | go_end0 | ((try simp only [Exit.inBlock, Exit.then]); refine bodyPost_ret (results_none rfl _ _ _) rfl ?_)
  exact ⟨rfl, hR.drewN.alloc⟩
end Go.Proofs.Bm
