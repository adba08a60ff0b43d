/- The reference's STACK and QUEUE: what appends. No condition but the state's. -/
import Derived.Test.YtipdlkncacjahaaGreatDoorBRRa
import Derived.Test.YtipdlkncacjahaaGreatDoorBRFn
set_option linter.unusedSimpArgs false
set_option linter.unusedVariables false
namespace Go.Proofs.Bm
open Go.RowKit Go.Maps
variable {b : Nat} {s s' : RSt} {lL lK lO : Option Nat} {W w' : World}

theorem wp_append_I {w : World} {v : Value} {k : Option Nat} {xs : List Int} {o : Oper} {a : Act} {K : Act → World → Prop} {Q : Exit → Act → World → Prop} (s x : Operand) (hop : o.op = Op.call { callee := Callee.builtin Builtin.append, args := #[s, x], argTypes := #[25, 25] })
    (hs : a.eval s = v) (y : Int) (vb c : Nat) (hx : a.eval x = .slice (some ⟨vb, 0, none⟩) 1 c) (h : OwnI w v k xs) (hn : xs.length ≤ 1000000) (hy : w.cell? ⟨vb, 0, none⟩ = some (.int .i64 y))
    (hK : ∀ v' k' w', OwnI w' v' k' (xs ++ [y]) → Kept (fun j => k = some j) w w' → Row w k k' → K (a.put o.dst v') w') :
    o.wp Tryz.prog a w K Q := by
  obtain ⟨v', k', w', hrun, r1, r2, r3⟩ := run_append_I o.type h hn y vb c hy
  unfold Oper.wp
  simp [execOp, hop, resolve, invoke, builtin, hs, hx, hrun, Result.andThen]
  exact hK v' k' w' r1 r2 r3

set_option maxRecDepth 100000 in
set_option maxHeartbeats 2000000 in
theorem r_stack_push (h : RS b s lL lK lO W) (hn : s.L.length ≤ 1000) (x y : Int) (hx : ¬ x < 0) :
    Calls Tryz.prog 20 #[PB b, CL ⟨#[112, 117, 115, 104]⟩ x y] W fun e w' => e = .returned (.tuple #[]) ∧ REnds b { s with L := s.L ++ [x] } lL lK lO W w' := by
  obtain ⟨V, hV⟩ : ∃ V, V = W.alloc (.cells #[.string ⟨#[112, 117, 115, 104]⟩, I x, I y] 40) := ⟨_, rfl⟩
  have hVs : V.heap.size = W.heap.size + 1 := by rw [hV]; simp
  have hA : RS b s lL lK lO V := by rw [hV]; exact h.alloc _
  obtain ⟨gx0, gx⟩ : V.cell? ⟨W.heap.size, 0, none⟩ = some (.string ⟨#[112, 117, 115, 104]⟩) ∧ V.cell? ⟨W.heap.size, 1, none⟩ = some (I x) := by
    rw [hV]
    refine ⟨?_, ?_⟩ <;> (unfold World.cell?; rw [heap_alloc, if_pos rfl]; rfl)
  obtain ⟨lv, gc, ho⟩ := hA.c0
  have gf := hA.f 0
  have hfb : lL ≠ some b := fun e => (hA.dL b e).1 rfl
  have hlen : (s.L ++ [x]).length = s.L.length + 1 := by simp
  obtain ⟨a0, cap0, rfl, _⟩ := ho.form
  have ho2 : OwnI (V.drew.alloc (.cells #[I x] 3)) (.slice a0 s.L.length cap0) lL s.L := ho.drew.alloc _
  have hx2 : (V.drew.alloc (.cells #[I x] 3)).cell? ⟨W.heap.size + 1, 0, none⟩ = some (I x) := by rw [← hVs]; exact cell_new1 V.drew _ _
  have gcW := gc
  rw [hV] at gcW
  replace hV := Lib.hid hV
  replace hA := Lib.hid hA
  go_enter Tryz.func20, Tryz.ntmps20
  go_wp2_with fail
  rw [← hV.out]
  refine wp_region_held_drew (S := fun _ => True) (by kernel_rfl) trivial (fun _ => ?_)
  have gc1 : V.drew.cell? ⟨b, 0, none⟩ = some (.slice a0 s.L.length cap0) := gc
  have gx1 : V.drew.cell? ⟨W.heap.size, 1, none⟩ = some (I x) := gx
  refine wpAnyH_take (i := 0) (oi := _) (v := ?_) rfl (by kernel_rfl) (by kernel_rfl) (by kernel_rfl) (fun _ _ _ h => h) (Or.inl ⟨by rfl, ?_⟩) trivial ?_
  rotate_left
  · (intro V' hSw; clear hSw; go_simp); with_reducible rfl
  try simp only [Act.put, List.setIfInBounds_toArray, List.set_cons_zero, List.set_cons_succ]
  refine wpAnyH_take (i := 1) (oi := _) (v := ?_) rfl (by kernel_rfl) (by kernel_rfl) (by kernel_rfl) (fun _ _ _ h => h) (Or.inl ⟨by rfl, ?_⟩) trivial ?_
  rotate_left
  · (intro V' hSw; clear hSw; go_simp); with_reducible rfl
  try simp only [Act.put, List.setIfInBounds_toArray, List.set_cons_zero, List.set_cons_succ]
  refine wpAnyH_take (i := 2) (oi := _) (v := ?_) rfl (by kernel_rfl) (by kernel_rfl) (by kernel_rfl) (fun _ _ _ h => h) (Or.inl ⟨by rfl, ?_⟩) trivial ?_
  rotate_left
  · (intro V' hSw; clear hSw; go_simp); with_reducible rfl
  try simp only [Act.put, List.setIfInBounds_toArray, List.set_cons_zero, List.set_cons_succ]
  refine wpAnyH_take (i := 3) (oi := _) (v := ?_) rfl (by kernel_rfl) (by kernel_rfl) (by kernel_rfl) (fun _ _ _ h => h) (Or.inl ⟨by rfl, ?_⟩) trivial ?_
  rotate_left
  · (intro V' hSw; clear hSw; go_simp); with_reducible rfl
  try simp only [Act.put, List.setIfInBounds_toArray, List.set_cons_zero, List.set_cons_succ]
  refine wpAnyH_take (i := 5) (oi := _) (v := ?_) rfl (by kernel_rfl) (by kernel_rfl) (by kernel_rfl) (fun _ _ _ h => h) (Or.inl ⟨by rfl, ?_⟩) trivial ?_
  rotate_left
  · (intro V' hSw; clear hSw; go_simp); with_reducible rfl
  try simp only [Act.put, List.setIfInBounds_toArray, List.set_cons_zero, List.set_cons_succ]
  refine wpAnyH_ready (rs := [4, 6]) (by kernel_rfl) (by simp) ?_
  refine AllReadyH.cons (o := _) rfl (fun K hK => ?_) (AllReadyH.cons (o := _) rfl (fun K hK => ?_) AllReadyH.nil)
  · go_simp
    refine hK.out _ _ trivial (fun _ => ?_)
    clear hK K
    try simp only [Act.put, List.setIfInBounds_toArray, List.set_cons_zero, List.set_cons_succ]
    refine wpAnyH_ready (rs := [6]) (by kernel_rfl) (by simp) ?_
    refine AllReadyH.cons (o := _) rfl (fun K hK => ?_) AllReadyH.nil
    go_simp
    refine hK.out _ _ trivial (fun _ => ?_)
    clear hK K
    try simp only [Act.put, List.setIfInBounds_toArray, List.set_cons_zero, List.set_cons_succ]
    refine wpAnyH_ready (rs := [7]) (by kernel_rfl) (by simp) ?_
    refine AllReadyH.cons (o := _) rfl (fun K hK => ?_) AllReadyH.nil
    go_simp
    refine hK.out _ _ trivial (fun _ => ?_)
    clear hK K
    try simp only [Act.put, List.setIfInBounds_toArray, List.set_cons_zero, List.set_cons_succ]
    refine wpAnyH_ready (rs := [8]) (by kernel_rfl) (by simp) ?_
    refine AllReadyH.cons (o := _) rfl (fun K hK => ?_) AllReadyH.nil
    refine step_of_wp rfl ?_
    refine wp_append_I _ _ rfl rfl x (W.heap.size + 1) 1 rfl ho2 (by omega) hx2 ?_
    intro v' k' w' ho' hk' hr
    obtain ⟨a', cap', rfl, _⟩ := ho'.form
    rw [hlen] at ho' ⊢
    have hk2 : Kept (fun j => lL = some j) V w' := (((Kept.refl _ V).drew).alloc _).trans' hk'
    have gc' := hk2.cell_some gc hfb
    have gf' := (hk2.frozen (p := ⟨b, 0, none⟩) hA.out.lt hfb).trans gf
    refine hK.out _ _ trivial (fun _ => ?_)
    clear hK K
    try simp only [Act.put, List.setIfInBounds_toArray, List.set_cons_zero, List.set_cons_succ]
    refine wpAnyH_take (i := 9) (oi := _) (v := ?_) rfl (by kernel_rfl) (by kernel_rfl) (by kernel_rfl) (fun _ _ _ h => h) (Or.inl ⟨by rfl, ?_⟩) trivial ?_
    rotate_left
    · (intro V' hSw; clear hSw; go_simp); with_reducible rfl
    try simp only [Act.put, List.setIfInBounds_toArray, List.set_cons_zero, List.set_cons_succ]
    refine wpAnyH_take (i := 10) (oi := _) (v := ?_) rfl (by kernel_rfl) (by kernel_rfl) (by kernel_rfl) (fun _ _ _ h => h) (Or.inl ⟨by rfl, ?_⟩) trivial ?_
    rotate_left
    · (intro V' hSw; clear hSw; go_simp); with_reducible rfl
    try simp only [Act.put, List.setIfInBounds_toArray, List.set_cons_zero, List.set_cons_succ]
    refine wpAnyH_ready (rs := [11]) (by kernel_rfl) (by simp) ?_
    refine AllReadyH.cons (o := _) rfl (fun K hK => ?_) AllReadyH.nil
    go_simp
    obtain ⟨w2, hw2⟩ : ∃ w2, w2 = w'.setCell ⟨b, 0, none⟩ (.slice a' (s.L.length + 1) cap') := ⟨_, rfl⟩
    have hR : REnds b { s with L := s.L ++ [x] } lL lK lO V w2 := by rw [hw2]; exact hA.out.set_L hk2 ho' (hr.of_le (by show V.heap.size ≤ (V.drew.alloc _).heap.size; simp))
    rw [← hw2]
    replace hw2 := Lib.hid hw2
    refine hK.out _ _ trivial (fun _ => ?_)
    clear hK K
    try simp only [Act.put, List.setIfInBounds_toArray, List.set_cons_zero, List.set_cons_succ]
    refine wpAnyH_done (by kernel_rfl) ?_ _
    go_wp2
    first | go_end0 | ((try simp only [Exit.inBlock, Exit.then]); refine bodyPost_ret (results_none rfl _ _ _) rfl ?_)
    rw [hV.out] at hR
    exact ⟨rfl, hR.alloc⟩
  · go_simp
    refine hK.out _ _ trivial (fun _ => ?_)
    clear hK K
    try simp only [Act.put, List.setIfInBounds_toArray, List.set_cons_zero, List.set_cons_succ]
    refine wpAnyH_ready (rs := [4, 7]) (by kernel_rfl) (by simp) ?_
    refine AllReadyH.cons (o := _) rfl (fun K hK => ?_) (AllReadyH.cons (o := _) rfl (fun K hK => ?_) AllReadyH.nil)
    · go_simp
      refine hK.out _ _ trivial (fun _ => ?_)
      clear hK K
      try simp only [Act.put, List.setIfInBounds_toArray, List.set_cons_zero, List.set_cons_succ]
      refine wpAnyH_ready (rs := [7]) (by kernel_rfl) (by simp) ?_
      refine AllReadyH.cons (o := _) rfl (fun K hK => ?_) AllReadyH.nil
      go_simp
      refine hK.out _ _ trivial (fun _ => ?_)
      clear hK K
      try simp only [Act.put, List.setIfInBounds_toArray, List.set_cons_zero, List.set_cons_succ]
      refine wpAnyH_ready (rs := [8]) (by kernel_rfl) (by simp) ?_
      refine AllReadyH.cons (o := _) rfl (fun K hK => ?_) AllReadyH.nil
      refine step_of_wp rfl ?_
      refine wp_append_I _ _ rfl rfl x (W.heap.size + 1) 1 rfl ho2 (by omega) hx2 ?_
      intro v' k' w' ho' hk' hr
      obtain ⟨a', cap', rfl, _⟩ := ho'.form
      rw [hlen] at ho' ⊢
      have hk2 : Kept (fun j => lL = some j) V w' := (((Kept.refl _ V).drew).alloc _).trans' hk'
      have gc' := hk2.cell_some gc hfb
      have gf' := (hk2.frozen (p := ⟨b, 0, none⟩) hA.out.lt hfb).trans gf
      refine hK.out _ _ trivial (fun _ => ?_)
      clear hK K
      try simp only [Act.put, List.setIfInBounds_toArray, List.set_cons_zero, List.set_cons_succ]
      refine wpAnyH_take (i := 9) (oi := _) (v := ?_) rfl (by kernel_rfl) (by kernel_rfl) (by kernel_rfl) (fun _ _ _ h => h) (Or.inl ⟨by rfl, ?_⟩) trivial ?_
      rotate_left
      · (intro V' hSw; clear hSw; go_simp); with_reducible rfl
      try simp only [Act.put, List.setIfInBounds_toArray, List.set_cons_zero, List.set_cons_succ]
      refine wpAnyH_take (i := 10) (oi := _) (v := ?_) rfl (by kernel_rfl) (by kernel_rfl) (by kernel_rfl) (fun _ _ _ h => h) (Or.inl ⟨by rfl, ?_⟩) trivial ?_
      rotate_left
      · (intro V' hSw; clear hSw; go_simp); with_reducible rfl
      try simp only [Act.put, List.setIfInBounds_toArray, List.set_cons_zero, List.set_cons_succ]
      refine wpAnyH_ready (rs := [11]) (by kernel_rfl) (by simp) ?_
      refine AllReadyH.cons (o := _) rfl (fun K hK => ?_) AllReadyH.nil
      go_simp
      obtain ⟨w2, hw2⟩ : ∃ w2, w2 = w'.setCell ⟨b, 0, none⟩ (.slice a' (s.L.length + 1) cap') := ⟨_, rfl⟩
      have hR : REnds b { s with L := s.L ++ [x] } lL lK lO V w2 := by rw [hw2]; exact hA.out.set_L hk2 ho' (hr.of_le (by show V.heap.size ≤ (V.drew.alloc _).heap.size; simp))
      rw [← hw2]
      replace hw2 := Lib.hid hw2
      refine hK.out _ _ trivial (fun _ => ?_)
      clear hK K
      try simp only [Act.put, List.setIfInBounds_toArray, List.set_cons_zero, List.set_cons_succ]
      refine wpAnyH_done (by kernel_rfl) ?_ _
      go_wp2
      first | go_end0 | ((try simp only [Exit.inBlock, Exit.then]); refine bodyPost_ret (results_none rfl _ _ _) rfl ?_)
      rw [hV.out] at hR
      exact ⟨rfl, hR.alloc⟩
    · go_simp
      have gc2 : (V.alloc (.cells #[I x] 3)).drew.cell? ⟨b, 0, none⟩ = some (.slice a0 s.L.length cap0) := (cell_alloc _ _ _ _ hA.out.lt).trans gc
      refine hK.out _ _ trivial (fun _ => ?_)
      clear hK K
      try simp only [Act.put, List.setIfInBounds_toArray, List.set_cons_zero, List.set_cons_succ]
      refine wpAnyH_ready (rs := [4]) (by kernel_rfl) (by simp) ?_
      refine AllReadyH.cons (o := _) rfl (fun K hK => ?_) AllReadyH.nil
      go_simp
      refine hK.out _ _ trivial (fun _ => ?_)
      clear hK K
      try simp only [Act.put, List.setIfInBounds_toArray, List.set_cons_zero, List.set_cons_succ]
      refine wpAnyH_ready (rs := [8]) (by kernel_rfl) (by simp) ?_
      refine AllReadyH.cons (o := _) rfl (fun K hK => ?_) AllReadyH.nil
      refine step_of_wp rfl ?_
      refine wp_append_I _ _ rfl rfl x (W.heap.size + 1) 1 rfl ho2 (by omega) hx2 ?_
      intro v' k' w' ho' hk' hr
      obtain ⟨a', cap', rfl, _⟩ := ho'.form
      rw [hlen] at ho' ⊢
      have hk2 : Kept (fun j => lL = some j) V w' := (((Kept.refl _ V).drew).alloc _).trans' hk'
      have gc' := hk2.cell_some gc hfb
      have gf' := (hk2.frozen (p := ⟨b, 0, none⟩) hA.out.lt hfb).trans gf
      refine hK.out _ _ trivial (fun _ => ?_)
      clear hK K
      try simp only [Act.put, List.setIfInBounds_toArray, List.set_cons_zero, List.set_cons_succ]
      refine wpAnyH_take (i := 9) (oi := _) (v := ?_) rfl (by kernel_rfl) (by kernel_rfl) (by kernel_rfl) (fun _ _ _ h => h) (Or.inl ⟨by rfl, ?_⟩) trivial ?_
      rotate_left
      · (intro V' hSw; clear hSw; go_simp); with_reducible rfl
      try simp only [Act.put, List.setIfInBounds_toArray, List.set_cons_zero, List.set_cons_succ]
      refine wpAnyH_take (i := 10) (oi := _) (v := ?_) rfl (by kernel_rfl) (by kernel_rfl) (by kernel_rfl) (fun _ _ _ h => h) (Or.inl ⟨by rfl, ?_⟩) trivial ?_
      rotate_left
      · (intro V' hSw; clear hSw; go_simp); with_reducible rfl
      try simp only [Act.put, List.setIfInBounds_toArray, List.set_cons_zero, List.set_cons_succ]
      refine wpAnyH_ready (rs := [11]) (by kernel_rfl) (by simp) ?_
      refine AllReadyH.cons (o := _) rfl (fun K hK => ?_) AllReadyH.nil
      go_simp
      obtain ⟨w2, hw2⟩ : ∃ w2, w2 = w'.setCell ⟨b, 0, none⟩ (.slice a' (s.L.length + 1) cap') := ⟨_, rfl⟩
      have hR : REnds b { s with L := s.L ++ [x] } lL lK lO V w2 := by rw [hw2]; exact hA.out.set_L hk2 ho' (hr.of_le (by show V.heap.size ≤ (V.drew.alloc _).heap.size; simp))
      rw [← hw2]
      replace hw2 := Lib.hid hw2
      refine hK.out _ _ trivial (fun _ => ?_)
      clear hK K
      try simp only [Act.put, List.setIfInBounds_toArray, List.set_cons_zero, List.set_cons_succ]
      refine wpAnyH_done (by kernel_rfl) ?_ _
      go_wp2
      first | go_end0 | ((try simp only [Exit.inBlock, Exit.then]); refine bodyPost_ret (results_none rfl _ _ _) rfl ?_)
      rw [hV.out] at hR
      exact ⟨rfl, hR.alloc⟩

set_option maxRecDepth 100000 in
set_option maxHeartbeats 2000000 in
theorem r_queue_enter_nil (h : RS b s lL lK lO W) (hn : s.L.length ≤ 1000) (x y : Int) (hL : s.L = []) :
    Calls Tryz.prog 21 #[PB b, CL ⟨#[101, 110, 116, 101, 114]⟩ x y] W fun e w' => e = .returned (.tuple #[]) ∧ REnds b { s with L := s.L ++ [x] } lL lK lO W w' := by
  obtain ⟨V, hV⟩ : ∃ V, V = W.alloc (.cells #[.string ⟨#[101, 110, 116, 101, 114]⟩, I x, I y] 40) := ⟨_, rfl⟩
  have hVs : V.heap.size = W.heap.size + 1 := by rw [hV]; simp
  have hA : RS b s lL lK lO V := by rw [hV]; exact h.alloc _
  obtain ⟨gx0, gx⟩ : V.cell? ⟨W.heap.size, 0, none⟩ = some (.string ⟨#[101, 110, 116, 101, 114]⟩) ∧ V.cell? ⟨W.heap.size, 1, none⟩ = some (I x) := by
    rw [hV]
    refine ⟨?_, ?_⟩ <;> (unfold World.cell?; rw [heap_alloc, if_pos rfl]; rfl)
  obtain ⟨lv, gc, ho⟩ := hA.c0
  have gf := hA.f 0
  have hfb : lL ≠ some b := fun e => (hA.dL b e).1 rfl
  have hlen : (s.L ++ [x]).length = 1 := by simp [hL]
  obtain ⟨a0, cap0, rfl, _⟩ := ho.form
  rw [show s.L.length = 0 by simp [hL]] at gc ho
  have ho2 : OwnI (V.drew.alloc (.cells #[I x] 3)) (.slice a0 0 cap0) lL s.L := ho.drew.alloc _
  have hx2 : (V.drew.alloc (.cells #[I x] 3)).cell? ⟨W.heap.size + 1, 0, none⟩ = some (I x) := by rw [← hVs]; exact cell_new1 V.drew _ _
  have gcW := gc
  rw [hV] at gcW
  replace hV := Lib.hid hV
  replace hA := Lib.hid hA
  go_enter Tryz.func21, Tryz.ntmps21
  go_wp2_with fail
  rw [← hV.out]
  refine wp_region_held_drew (S := fun _ => True) (by kernel_rfl) trivial (fun _ => ?_)
  have gc1 : V.drew.cell? ⟨b, 0, none⟩ = some (.slice a0 0 cap0) := gc
  have gx1 : V.drew.cell? ⟨W.heap.size, 1, none⟩ = some (I x) := gx
  refine wpAnyH_take (i := 0) (oi := _) (v := ?_) rfl (by kernel_rfl) (by kernel_rfl) (by kernel_rfl) (fun _ _ _ h => h) (Or.inl ⟨by rfl, ?_⟩) trivial ?_
  rotate_left
  · (intro V' hSw; clear hSw; go_simp); with_reducible rfl
  try simp only [Act.put, List.setIfInBounds_toArray, List.set_cons_zero, List.set_cons_succ]
  refine wpAnyH_take (i := 1) (oi := _) (v := ?_) rfl (by kernel_rfl) (by kernel_rfl) (by kernel_rfl) (fun _ _ _ h => h) (Or.inl ⟨by rfl, ?_⟩) trivial ?_
  rotate_left
  · (intro V' hSw; clear hSw; go_simp); with_reducible rfl
  try simp only [Act.put, List.setIfInBounds_toArray, List.set_cons_zero, List.set_cons_succ]
  refine wpAnyH_take (i := 2) (oi := _) (v := ?_) rfl (by kernel_rfl) (by kernel_rfl) (by kernel_rfl) (fun _ _ _ h => h) (Or.inl ⟨by rfl, ?_⟩) trivial ?_
  rotate_left
  · (intro V' hSw; clear hSw; go_simp); with_reducible rfl
  try simp only [Act.put, List.setIfInBounds_toArray, List.set_cons_zero, List.set_cons_succ]
  refine wpAnyH_take (i := 3) (oi := _) (v := ?_) rfl (by kernel_rfl) (by kernel_rfl) (by kernel_rfl) (fun _ _ _ h => h) (Or.inl ⟨by rfl, ?_⟩) trivial ?_
  rotate_left
  · (intro V' hSw; clear hSw; go_simp); with_reducible rfl
  try simp only [Act.put, List.setIfInBounds_toArray, List.set_cons_zero, List.set_cons_succ]
  refine wpAnyH_take (i := 5) (oi := _) (v := ?_) rfl (by kernel_rfl) (by kernel_rfl) (by kernel_rfl) (fun _ _ _ h => h) (Or.inl ⟨by rfl, ?_⟩) trivial ?_
  rotate_left
  · (intro V' hSw; clear hSw; go_simp); with_reducible rfl
  try simp only [Act.put, List.setIfInBounds_toArray, List.set_cons_zero, List.set_cons_succ]
  refine wpAnyH_ready (rs := [4, 6]) (by kernel_rfl) (by simp) ?_
  refine AllReadyH.cons (o := _) rfl (fun K hK => ?_) (AllReadyH.cons (o := _) rfl (fun K hK => ?_) AllReadyH.nil)
  · go_simp
    refine hK.out _ _ trivial (fun _ => ?_)
    clear hK K
    try simp only [Act.put, List.setIfInBounds_toArray, List.set_cons_zero, List.set_cons_succ]
    refine wpAnyH_ready (rs := [6]) (by kernel_rfl) (by simp) ?_
    refine AllReadyH.cons (o := _) rfl (fun K hK => ?_) AllReadyH.nil
    go_simp
    refine hK.out _ _ trivial (fun _ => ?_)
    clear hK K
    try simp only [Act.put, List.setIfInBounds_toArray, List.set_cons_zero, List.set_cons_succ]
    refine wpAnyH_ready (rs := [7]) (by kernel_rfl) (by simp) ?_
    refine AllReadyH.cons (o := _) rfl (fun K hK => ?_) AllReadyH.nil
    go_simp
    refine hK.out _ _ trivial (fun _ => ?_)
    clear hK K
    try simp only [Act.put, List.setIfInBounds_toArray, List.set_cons_zero, List.set_cons_succ]
    refine wpAnyH_ready (rs := [8]) (by kernel_rfl) (by simp) ?_
    refine AllReadyH.cons (o := _) rfl (fun K hK => ?_) AllReadyH.nil
    refine step_of_wp rfl ?_
    refine wp_append_I _ _ rfl rfl x (W.heap.size + 1) 1 rfl ho2 (by omega) hx2 ?_
    intro v' k' w' ho' hk' hr
    obtain ⟨a', cap', rfl, _⟩ := ho'.form
    rw [hlen] at ho' ⊢
    have hk2 : Kept (fun j => lL = some j) V w' := (((Kept.refl _ V).drew).alloc _).trans' hk'
    have gc' := hk2.cell_some gc hfb
    have gf' := (hk2.frozen (p := ⟨b, 0, none⟩) hA.out.lt hfb).trans gf
    refine hK.out _ _ trivial (fun _ => ?_)
    clear hK K
    try simp only [Act.put, List.setIfInBounds_toArray, List.set_cons_zero, List.set_cons_succ]
    refine wpAnyH_take (i := 9) (oi := _) (v := ?_) rfl (by kernel_rfl) (by kernel_rfl) (by kernel_rfl) (fun _ _ _ h => h) (Or.inl ⟨by rfl, ?_⟩) trivial ?_
    rotate_left
    · (intro V' hSw; clear hSw; go_simp); with_reducible rfl
    try simp only [Act.put, List.setIfInBounds_toArray, List.set_cons_zero, List.set_cons_succ]
    refine wpAnyH_take (i := 10) (oi := _) (v := ?_) rfl (by kernel_rfl) (by kernel_rfl) (by kernel_rfl) (fun _ _ _ h => h) (Or.inl ⟨by rfl, ?_⟩) trivial ?_
    rotate_left
    · (intro V' hSw; clear hSw; go_simp); with_reducible rfl
    try simp only [Act.put, List.setIfInBounds_toArray, List.set_cons_zero, List.set_cons_succ]
    refine wpAnyH_ready (rs := [11]) (by kernel_rfl) (by simp) ?_
    refine AllReadyH.cons (o := _) rfl (fun K hK => ?_) AllReadyH.nil
    go_simp
    obtain ⟨w2, hw2⟩ : ∃ w2, w2 = w'.setCell ⟨b, 0, none⟩ (.slice a' (1) cap') := ⟨_, rfl⟩
    have hR : REnds b { s with L := s.L ++ [x] } lL lK lO V w2 := by rw [hw2]; exact hA.out.set_L hk2 ho' (hr.of_le (by show V.heap.size ≤ (V.drew.alloc _).heap.size; simp))
    rw [← hw2]
    replace hw2 := Lib.hid hw2
    refine hK.out _ _ trivial (fun _ => ?_)
    clear hK K
    try simp only [Act.put, List.setIfInBounds_toArray, List.set_cons_zero, List.set_cons_succ]
    refine wpAnyH_done (by kernel_rfl) ?_ _
    go_wp2
    first | go_end0 | ((try simp only [Exit.inBlock, Exit.then]); refine bodyPost_ret (results_none rfl _ _ _) rfl ?_)
    rw [hV.out] at hR
    exact ⟨rfl, hR.alloc⟩
  · go_simp
    refine hK.out _ _ trivial (fun _ => ?_)
    clear hK K
    try simp only [Act.put, List.setIfInBounds_toArray, List.set_cons_zero, List.set_cons_succ]
    refine wpAnyH_ready (rs := [4, 7]) (by kernel_rfl) (by simp) ?_
    refine AllReadyH.cons (o := _) rfl (fun K hK => ?_) (AllReadyH.cons (o := _) rfl (fun K hK => ?_) AllReadyH.nil)
    · go_simp
      refine hK.out _ _ trivial (fun _ => ?_)
      clear hK K
      try simp only [Act.put, List.setIfInBounds_toArray, List.set_cons_zero, List.set_cons_succ]
      refine wpAnyH_ready (rs := [7]) (by kernel_rfl) (by simp) ?_
      refine AllReadyH.cons (o := _) rfl (fun K hK => ?_) AllReadyH.nil
      go_simp
      refine hK.out _ _ trivial (fun _ => ?_)
      clear hK K
      try simp only [Act.put, List.setIfInBounds_toArray, List.set_cons_zero, List.set_cons_succ]
      refine wpAnyH_ready (rs := [8]) (by kernel_rfl) (by simp) ?_
      refine AllReadyH.cons (o := _) rfl (fun K hK => ?_) AllReadyH.nil
      refine step_of_wp rfl ?_
      refine wp_append_I _ _ rfl rfl x (W.heap.size + 1) 1 rfl ho2 (by omega) hx2 ?_
      intro v' k' w' ho' hk' hr
      obtain ⟨a', cap', rfl, _⟩ := ho'.form
      rw [hlen] at ho' ⊢
      have hk2 : Kept (fun j => lL = some j) V w' := (((Kept.refl _ V).drew).alloc _).trans' hk'
      have gc' := hk2.cell_some gc hfb
      have gf' := (hk2.frozen (p := ⟨b, 0, none⟩) hA.out.lt hfb).trans gf
      refine hK.out _ _ trivial (fun _ => ?_)
      clear hK K
      try simp only [Act.put, List.setIfInBounds_toArray, List.set_cons_zero, List.set_cons_succ]
      refine wpAnyH_take (i := 9) (oi := _) (v := ?_) rfl (by kernel_rfl) (by kernel_rfl) (by kernel_rfl) (fun _ _ _ h => h) (Or.inl ⟨by rfl, ?_⟩) trivial ?_
      rotate_left
      · (intro V' hSw; clear hSw; go_simp); with_reducible rfl
      try simp only [Act.put, List.setIfInBounds_toArray, List.set_cons_zero, List.set_cons_succ]
      refine wpAnyH_take (i := 10) (oi := _) (v := ?_) rfl (by kernel_rfl) (by kernel_rfl) (by kernel_rfl) (fun _ _ _ h => h) (Or.inl ⟨by rfl, ?_⟩) trivial ?_
      rotate_left
      · (intro V' hSw; clear hSw; go_simp); with_reducible rfl
      try simp only [Act.put, List.setIfInBounds_toArray, List.set_cons_zero, List.set_cons_succ]
      refine wpAnyH_ready (rs := [11]) (by kernel_rfl) (by simp) ?_
      refine AllReadyH.cons (o := _) rfl (fun K hK => ?_) AllReadyH.nil
      go_simp
      obtain ⟨w2, hw2⟩ : ∃ w2, w2 = w'.setCell ⟨b, 0, none⟩ (.slice a' (1) cap') := ⟨_, rfl⟩
      have hR : REnds b { s with L := s.L ++ [x] } lL lK lO V w2 := by rw [hw2]; exact hA.out.set_L hk2 ho' (hr.of_le (by show V.heap.size ≤ (V.drew.alloc _).heap.size; simp))
      rw [← hw2]
      replace hw2 := Lib.hid hw2
      refine hK.out _ _ trivial (fun _ => ?_)
      clear hK K
      try simp only [Act.put, List.setIfInBounds_toArray, List.set_cons_zero, List.set_cons_succ]
      refine wpAnyH_done (by kernel_rfl) ?_ _
      go_wp2
      first | go_end0 | ((try simp only [Exit.inBlock, Exit.then]); refine bodyPost_ret (results_none rfl _ _ _) rfl ?_)
      rw [hV.out] at hR
      exact ⟨rfl, hR.alloc⟩
    · go_simp
      have gc2 : (V.alloc (.cells #[I x] 3)).drew.cell? ⟨b, 0, none⟩ = some (.slice a0 0 cap0) := (cell_alloc _ _ _ _ hA.out.lt).trans gc
      refine hK.out _ _ trivial (fun _ => ?_)
      clear hK K
      try simp only [Act.put, List.setIfInBounds_toArray, List.set_cons_zero, List.set_cons_succ]
      refine wpAnyH_ready (rs := [4]) (by kernel_rfl) (by simp) ?_
      refine AllReadyH.cons (o := _) rfl (fun K hK => ?_) AllReadyH.nil
      go_simp
      refine hK.out _ _ trivial (fun _ => ?_)
      clear hK K
      try simp only [Act.put, List.setIfInBounds_toArray, List.set_cons_zero, List.set_cons_succ]
      refine wpAnyH_ready (rs := [8]) (by kernel_rfl) (by simp) ?_
      refine AllReadyH.cons (o := _) rfl (fun K hK => ?_) AllReadyH.nil
      refine step_of_wp rfl ?_
      refine wp_append_I _ _ rfl rfl x (W.heap.size + 1) 1 rfl ho2 (by omega) hx2 ?_
      intro v' k' w' ho' hk' hr
      obtain ⟨a', cap', rfl, _⟩ := ho'.form
      rw [hlen] at ho' ⊢
      have hk2 : Kept (fun j => lL = some j) V w' := (((Kept.refl _ V).drew).alloc _).trans' hk'
      have gc' := hk2.cell_some gc hfb
      have gf' := (hk2.frozen (p := ⟨b, 0, none⟩) hA.out.lt hfb).trans gf
      refine hK.out _ _ trivial (fun _ => ?_)
      clear hK K
      try simp only [Act.put, List.setIfInBounds_toArray, List.set_cons_zero, List.set_cons_succ]
      refine wpAnyH_take (i := 9) (oi := _) (v := ?_) rfl (by kernel_rfl) (by kernel_rfl) (by kernel_rfl) (fun _ _ _ h => h) (Or.inl ⟨by rfl, ?_⟩) trivial ?_
      rotate_left
      · (intro V' hSw; clear hSw; go_simp); with_reducible rfl
      try simp only [Act.put, List.setIfInBounds_toArray, List.set_cons_zero, List.set_cons_succ]
      refine wpAnyH_take (i := 10) (oi := _) (v := ?_) rfl (by kernel_rfl) (by kernel_rfl) (by kernel_rfl) (fun _ _ _ h => h) (Or.inl ⟨by rfl, ?_⟩) trivial ?_
      rotate_left
      · (intro V' hSw; clear hSw; go_simp); with_reducible rfl
      try simp only [Act.put, List.setIfInBounds_toArray, List.set_cons_zero, List.set_cons_succ]
      refine wpAnyH_ready (rs := [11]) (by kernel_rfl) (by simp) ?_
      refine AllReadyH.cons (o := _) rfl (fun K hK => ?_) AllReadyH.nil
      go_simp
      obtain ⟨w2, hw2⟩ : ∃ w2, w2 = w'.setCell ⟨b, 0, none⟩ (.slice a' (1) cap') := ⟨_, rfl⟩
      have hR : REnds b { s with L := s.L ++ [x] } lL lK lO V w2 := by rw [hw2]; exact hA.out.set_L hk2 ho' (hr.of_le (by show V.heap.size ≤ (V.drew.alloc _).heap.size; simp))
      rw [← hw2]
      replace hw2 := Lib.hid hw2
      refine hK.out _ _ trivial (fun _ => ?_)
      clear hK K
      try simp only [Act.put, List.setIfInBounds_toArray, List.set_cons_zero, List.set_cons_succ]
      refine wpAnyH_done (by kernel_rfl) ?_ _
      go_wp2
      first | go_end0 | ((try simp only [Exit.inBlock, Exit.then]); refine bodyPost_ret (results_none rfl _ _ _) rfl ?_)
      rw [hV.out] at hR
      exact ⟨rfl, hR.alloc⟩

set_option maxRecDepth 100000 in
set_option maxHeartbeats 2000000 in
theorem r_queue_enter (h : RS b s lL lK lO W) (hn : s.L.length ≤ 1000) (x y : Int) (r : List Int) (z : Int) (hL : s.L = z :: r) :
    Calls Tryz.prog 21 #[PB b, CL ⟨#[101, 110, 116, 101, 114]⟩ x y] W fun e w' => e = .returned (.tuple #[]) ∧ REnds b { s with L := s.L ++ [x] } lL lK lO W w' := by
  obtain ⟨V, hV⟩ : ∃ V, V = W.alloc (.cells #[.string ⟨#[101, 110, 116, 101, 114]⟩, I x, I y] 40) := ⟨_, rfl⟩
  have hVs : V.heap.size = W.heap.size + 1 := by rw [hV]; simp
  have hA : RS b s lL lK lO V := by rw [hV]; exact h.alloc _
  obtain ⟨gx0, gx⟩ : V.cell? ⟨W.heap.size, 0, none⟩ = some (.string ⟨#[101, 110, 116, 101, 114]⟩) ∧ V.cell? ⟨W.heap.size, 1, none⟩ = some (I x) := by
    rw [hV]
    refine ⟨?_, ?_⟩ <;> (unfold World.cell?; rw [heap_alloc, if_pos rfl]; rfl)
  obtain ⟨lv, gc, ho⟩ := hA.c0
  have gf := hA.f 0
  have hfb : lL ≠ some b := fun e => (hA.dL b e).1 rfl
  have hlen : (s.L ++ [x]).length = (r.length + 1 + 1) := by simp [hL]
  obtain ⟨a0, cap0, rfl, _⟩ := ho.form
  rw [show s.L.length = r.length + 1 by simp [hL]] at gc ho
  have ho2 : OwnI (V.drew.alloc (.cells #[I x] 3)) (.slice a0 (r.length + 1) cap0) lL s.L := ho.drew.alloc _
  have hx2 : (V.drew.alloc (.cells #[I x] 3)).cell? ⟨W.heap.size + 1, 0, none⟩ = some (I x) := by rw [← hVs]; exact cell_new1 V.drew _ _
  have gcW := gc
  rw [hV] at gcW
  replace hV := Lib.hid hV
  replace hA := Lib.hid hA
  have hnz : ¬ (r.length : Int) + 1 = 0 := by omega
  go_enter Tryz.func21, Tryz.ntmps21
  go_wp2_with fail
  rw [← hV.out]
  refine wp_region_held_drew (S := fun _ => True) (by kernel_rfl) trivial (fun _ => ?_)
  have gc1 : V.drew.cell? ⟨b, 0, none⟩ = some (.slice a0 (r.length + 1) cap0) := gc
  have gx1 : V.drew.cell? ⟨W.heap.size, 1, none⟩ = some (I x) := gx
  refine wpAnyH_take (i := 0) (oi := _) (v := ?_) rfl (by kernel_rfl) (by kernel_rfl) (by kernel_rfl) (fun _ _ _ h => h) (Or.inl ⟨by rfl, ?_⟩) trivial ?_
  rotate_left
  · (intro V' hSw; clear hSw; go_simp); with_reducible rfl
  try simp only [Act.put, List.setIfInBounds_toArray, List.set_cons_zero, List.set_cons_succ]
  refine wpAnyH_take (i := 1) (oi := _) (v := ?_) rfl (by kernel_rfl) (by kernel_rfl) (by kernel_rfl) (fun _ _ _ h => h) (Or.inl ⟨by rfl, ?_⟩) trivial ?_
  rotate_left
  · (intro V' hSw; clear hSw; go_simp); with_reducible rfl
  try simp only [Act.put, List.setIfInBounds_toArray, List.set_cons_zero, List.set_cons_succ]
  refine wpAnyH_take (i := 2) (oi := _) (v := ?_) rfl (by kernel_rfl) (by kernel_rfl) (by kernel_rfl) (fun _ _ _ h => h) (Or.inl ⟨by rfl, ?_⟩) trivial ?_
  rotate_left
  · (intro V' hSw; clear hSw; go_simp); with_reducible rfl
  try simp only [Act.put, List.setIfInBounds_toArray, List.set_cons_zero, List.set_cons_succ]
  refine wpAnyH_take (i := 3) (oi := _) (v := ?_) rfl (by kernel_rfl) (by kernel_rfl) (by kernel_rfl) (fun _ _ _ h => h) (Or.inl ⟨by rfl, ?_⟩) trivial ?_
  rotate_left
  · (intro V' hSw; clear hSw; go_simp); with_reducible rfl
  try simp only [Act.put, List.setIfInBounds_toArray, List.set_cons_zero, List.set_cons_succ]
  refine wpAnyH_take (i := 5) (oi := _) (v := ?_) rfl (by kernel_rfl) (by kernel_rfl) (by kernel_rfl) (fun _ _ _ h => h) (Or.inl ⟨by rfl, ?_⟩) trivial ?_
  rotate_left
  · (intro V' hSw; clear hSw; go_simp); with_reducible rfl
  try simp only [Act.put, List.setIfInBounds_toArray, List.set_cons_zero, List.set_cons_succ]
  refine wpAnyH_ready (rs := [4, 6]) (by kernel_rfl) (by simp) ?_
  refine AllReadyH.cons (o := _) rfl (fun K hK => ?_) (AllReadyH.cons (o := _) rfl (fun K hK => ?_) AllReadyH.nil)
  · go_simp
    refine hK.out _ _ trivial (fun _ => ?_)
    clear hK K
    try simp only [Act.put, List.setIfInBounds_toArray, List.set_cons_zero, List.set_cons_succ]
    refine wpAnyH_ready (rs := [6]) (by kernel_rfl) (by simp) ?_
    refine AllReadyH.cons (o := _) rfl (fun K hK => ?_) AllReadyH.nil
    go_simp
    refine hK.out _ _ trivial (fun _ => ?_)
    clear hK K
    try simp only [Act.put, List.setIfInBounds_toArray, List.set_cons_zero, List.set_cons_succ]
    refine wpAnyH_ready (rs := [7]) (by kernel_rfl) (by simp) ?_
    refine AllReadyH.cons (o := _) rfl (fun K hK => ?_) AllReadyH.nil
    go_simp
    refine hK.out _ _ trivial (fun _ => ?_)
    clear hK K
    try simp only [Act.put, List.setIfInBounds_toArray, List.set_cons_zero, List.set_cons_succ]
    refine wpAnyH_ready (rs := [8]) (by kernel_rfl) (by simp) ?_
    refine AllReadyH.cons (o := _) rfl (fun K hK => ?_) AllReadyH.nil
    refine step_of_wp rfl ?_
    refine wp_append_I _ _ rfl rfl x (W.heap.size + 1) 1 rfl ho2 (by omega) hx2 ?_
    intro v' k' w' ho' hk' hr
    obtain ⟨a', cap', rfl, _⟩ := ho'.form
    rw [hlen] at ho' ⊢
    have hk2 : Kept (fun j => lL = some j) V w' := (((Kept.refl _ V).drew).alloc _).trans' hk'
    have gc' := hk2.cell_some gc hfb
    have gf' := (hk2.frozen (p := ⟨b, 0, none⟩) hA.out.lt hfb).trans gf
    refine hK.out _ _ trivial (fun _ => ?_)
    clear hK K
    try simp only [Act.put, List.setIfInBounds_toArray, List.set_cons_zero, List.set_cons_succ]
    refine wpAnyH_take (i := 9) (oi := _) (v := ?_) rfl (by kernel_rfl) (by kernel_rfl) (by kernel_rfl) (fun _ _ _ h => h) (Or.inl ⟨by rfl, ?_⟩) trivial ?_
    rotate_left
    · (intro V' hSw; clear hSw; go_simp); with_reducible rfl
    try simp only [Act.put, List.setIfInBounds_toArray, List.set_cons_zero, List.set_cons_succ]
    refine wpAnyH_take (i := 10) (oi := _) (v := ?_) rfl (by kernel_rfl) (by kernel_rfl) (by kernel_rfl) (fun _ _ _ h => h) (Or.inl ⟨by rfl, ?_⟩) trivial ?_
    rotate_left
    · (intro V' hSw; clear hSw; go_simp); with_reducible rfl
    try simp only [Act.put, List.setIfInBounds_toArray, List.set_cons_zero, List.set_cons_succ]
    refine wpAnyH_ready (rs := [11]) (by kernel_rfl) (by simp) ?_
    refine AllReadyH.cons (o := _) rfl (fun K hK => ?_) AllReadyH.nil
    go_simp
    obtain ⟨w2, hw2⟩ : ∃ w2, w2 = w'.setCell ⟨b, 0, none⟩ (.slice a' ((r.length + 1 + 1)) cap') := ⟨_, rfl⟩
    have hR : REnds b { s with L := s.L ++ [x] } lL lK lO V w2 := by rw [hw2]; exact hA.out.set_L hk2 ho' (hr.of_le (by show V.heap.size ≤ (V.drew.alloc _).heap.size; simp))
    rw [← hw2]
    replace hw2 := Lib.hid hw2
    refine hK.out _ _ trivial (fun _ => ?_)
    clear hK K
    try simp only [Act.put, List.setIfInBounds_toArray, List.set_cons_zero, List.set_cons_succ]
    refine wpAnyH_done (by kernel_rfl) ?_ _
    go_wp2
    first | go_end0 | ((try simp only [Exit.inBlock, Exit.then]); refine bodyPost_ret (results_none rfl _ _ _) rfl ?_)
    rw [hV.out] at hR
    exact ⟨rfl, hR.alloc⟩
  · go_simp
    refine hK.out _ _ trivial (fun _ => ?_)
    clear hK K
    try simp only [Act.put, List.setIfInBounds_toArray, List.set_cons_zero, List.set_cons_succ]
    refine wpAnyH_ready (rs := [4, 7]) (by kernel_rfl) (by simp) ?_
    refine AllReadyH.cons (o := _) rfl (fun K hK => ?_) (AllReadyH.cons (o := _) rfl (fun K hK => ?_) AllReadyH.nil)
    · go_simp
      refine hK.out _ _ trivial (fun _ => ?_)
      clear hK K
      try simp only [Act.put, List.setIfInBounds_toArray, List.set_cons_zero, List.set_cons_succ]
      refine wpAnyH_ready (rs := [7]) (by kernel_rfl) (by simp) ?_
      refine AllReadyH.cons (o := _) rfl (fun K hK => ?_) AllReadyH.nil
      go_simp
      refine hK.out _ _ trivial (fun _ => ?_)
      clear hK K
      try simp only [Act.put, List.setIfInBounds_toArray, List.set_cons_zero, List.set_cons_succ]
      refine wpAnyH_ready (rs := [8]) (by kernel_rfl) (by simp) ?_
      refine AllReadyH.cons (o := _) rfl (fun K hK => ?_) AllReadyH.nil
      refine step_of_wp rfl ?_
      refine wp_append_I _ _ rfl rfl x (W.heap.size + 1) 1 rfl ho2 (by omega) hx2 ?_
      intro v' k' w' ho' hk' hr
      obtain ⟨a', cap', rfl, _⟩ := ho'.form
      rw [hlen] at ho' ⊢
      have hk2 : Kept (fun j => lL = some j) V w' := (((Kept.refl _ V).drew).alloc _).trans' hk'
      have gc' := hk2.cell_some gc hfb
      have gf' := (hk2.frozen (p := ⟨b, 0, none⟩) hA.out.lt hfb).trans gf
      refine hK.out _ _ trivial (fun _ => ?_)
      clear hK K
      try simp only [Act.put, List.setIfInBounds_toArray, List.set_cons_zero, List.set_cons_succ]
      refine wpAnyH_take (i := 9) (oi := _) (v := ?_) rfl (by kernel_rfl) (by kernel_rfl) (by kernel_rfl) (fun _ _ _ h => h) (Or.inl ⟨by rfl, ?_⟩) trivial ?_
      rotate_left
      · (intro V' hSw; clear hSw; go_simp); with_reducible rfl
      try simp only [Act.put, List.setIfInBounds_toArray, List.set_cons_zero, List.set_cons_succ]
      refine wpAnyH_take (i := 10) (oi := _) (v := ?_) rfl (by kernel_rfl) (by kernel_rfl) (by kernel_rfl) (fun _ _ _ h => h) (Or.inl ⟨by rfl, ?_⟩) trivial ?_
      rotate_left
      · (intro V' hSw; clear hSw; go_simp); with_reducible rfl
      try simp only [Act.put, List.setIfInBounds_toArray, List.set_cons_zero, List.set_cons_succ]
      refine wpAnyH_ready (rs := [11]) (by kernel_rfl) (by simp) ?_
      refine AllReadyH.cons (o := _) rfl (fun K hK => ?_) AllReadyH.nil
      go_simp
      obtain ⟨w2, hw2⟩ : ∃ w2, w2 = w'.setCell ⟨b, 0, none⟩ (.slice a' ((r.length + 1 + 1)) cap') := ⟨_, rfl⟩
      have hR : REnds b { s with L := s.L ++ [x] } lL lK lO V w2 := by rw [hw2]; exact hA.out.set_L hk2 ho' (hr.of_le (by show V.heap.size ≤ (V.drew.alloc _).heap.size; simp))
      rw [← hw2]
      replace hw2 := Lib.hid hw2
      refine hK.out _ _ trivial (fun _ => ?_)
      clear hK K
      try simp only [Act.put, List.setIfInBounds_toArray, List.set_cons_zero, List.set_cons_succ]
      refine wpAnyH_done (by kernel_rfl) ?_ _
      go_wp2
      first | go_end0 | ((try simp only [Exit.inBlock, Exit.then]); refine bodyPost_ret (results_none rfl _ _ _) rfl ?_)
      rw [hV.out] at hR
      exact ⟨rfl, hR.alloc⟩
    · go_simp
      have gc2 : (V.alloc (.cells #[I x] 3)).drew.cell? ⟨b, 0, none⟩ = some (.slice a0 (r.length + 1) cap0) := (cell_alloc _ _ _ _ hA.out.lt).trans gc
      refine hK.out _ _ trivial (fun _ => ?_)
      clear hK K
      try simp only [Act.put, List.setIfInBounds_toArray, List.set_cons_zero, List.set_cons_succ]
      refine wpAnyH_ready (rs := [4]) (by kernel_rfl) (by simp) ?_
      refine AllReadyH.cons (o := _) rfl (fun K hK => ?_) AllReadyH.nil
      go_simp
      refine hK.out _ _ trivial (fun _ => ?_)
      clear hK K
      try simp only [Act.put, List.setIfInBounds_toArray, List.set_cons_zero, List.set_cons_succ]
      refine wpAnyH_ready (rs := [8]) (by kernel_rfl) (by simp) ?_
      refine AllReadyH.cons (o := _) rfl (fun K hK => ?_) AllReadyH.nil
      refine step_of_wp rfl ?_
      refine wp_append_I _ _ rfl rfl x (W.heap.size + 1) 1 rfl ho2 (by omega) hx2 ?_
      intro v' k' w' ho' hk' hr
      obtain ⟨a', cap', rfl, _⟩ := ho'.form
      rw [hlen] at ho' ⊢
      have hk2 : Kept (fun j => lL = some j) V w' := (((Kept.refl _ V).drew).alloc _).trans' hk'
      have gc' := hk2.cell_some gc hfb
      have gf' := (hk2.frozen (p := ⟨b, 0, none⟩) hA.out.lt hfb).trans gf
      refine hK.out _ _ trivial (fun _ => ?_)
      clear hK K
      try simp only [Act.put, List.setIfInBounds_toArray, List.set_cons_zero, List.set_cons_succ]
      refine wpAnyH_take (i := 9) (oi := _) (v := ?_) rfl (by kernel_rfl) (by kernel_rfl) (by kernel_rfl) (fun _ _ _ h => h) (Or.inl ⟨by rfl, ?_⟩) trivial ?_
      rotate_left
      · (intro V' hSw; clear hSw; go_simp); with_reducible rfl
      try simp only [Act.put, List.setIfInBounds_toArray, List.set_cons_zero, List.set_cons_succ]
      refine wpAnyH_take (i := 10) (oi := _) (v := ?_) rfl (by kernel_rfl) (by kernel_rfl) (by kernel_rfl) (fun _ _ _ h => h) (Or.inl ⟨by rfl, ?_⟩) trivial ?_
      rotate_left
      · (intro V' hSw; clear hSw; go_simp); with_reducible rfl
      try simp only [Act.put, List.setIfInBounds_toArray, List.set_cons_zero, List.set_cons_succ]
      refine wpAnyH_ready (rs := [11]) (by kernel_rfl) (by simp) ?_
      refine AllReadyH.cons (o := _) rfl (fun K hK => ?_) AllReadyH.nil
      go_simp
      obtain ⟨w2, hw2⟩ : ∃ w2, w2 = w'.setCell ⟨b, 0, none⟩ (.slice a' ((r.length + 1 + 1)) cap') := ⟨_, rfl⟩
      have hR : REnds b { s with L := s.L ++ [x] } lL lK lO V w2 := by rw [hw2]; exact hA.out.set_L hk2 ho' (hr.of_le (by show V.heap.size ≤ (V.drew.alloc _).heap.size; simp))
      rw [← hw2]
      replace hw2 := Lib.hid hw2
      refine hK.out _ _ trivial (fun _ => ?_)
      clear hK K
      try simp only [Act.put, List.setIfInBounds_toArray, List.set_cons_zero, List.set_cons_succ]
      refine wpAnyH_done (by kernel_rfl) ?_ _
      go_wp2
      first | go_end0 | ((try simp only [Exit.inBlock, Exit.then]); refine bodyPost_ret (results_none rfl _ _ _) rfl ?_)
      rw [hV.out] at hR
      exact ⟨rfl, hR.alloc⟩
end Go.Proofs.Bm
