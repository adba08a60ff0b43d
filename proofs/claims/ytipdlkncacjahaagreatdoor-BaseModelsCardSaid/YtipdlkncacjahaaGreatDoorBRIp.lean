/- The reference's INTS and SORTED: reverse, and the sorted insertion. No condition but the state's. -/
import Derived.Test.YtipdlkncacjahaaGreatDoorBRIo
set_option linter.unusedSimpArgs false
set_option linter.unusedVariables false
namespace Go.Proofs.Bm
open Go.RowKit Go.Maps
variable {b : Nat} {s s' s'' : RSt} {lL lK lO : Option Nat} {W w' w'' : World}
theorem drewN_add (w : World) (a b : Nat) : (w.drewN a).drewN b = w.drewN (a + b) := by simp [World.drewN, Nat.add_assoc]

set_option maxRecDepth 100000 in
set_option maxHeartbeats 2000000 in
theorem r_ints_reverse_sorted (h : RS b s lL lK lO W) (hn : s.out.length ≤ 1000) (hn2 : s.L.length ≤ 1000) (x y : Int)  :
    Calls Tryz.prog 19 #[PB b, CL ⟨#[114, 101, 118, 101, 114, 115, 101]⟩ x y, .bool true] W fun e w' => e = .returned (.tuple #[]) ∧ REnds b s lL lK lO W w' := by
  obtain ⟨V, hV⟩ : ∃ V, V = W.alloc (.cells #[.string ⟨#[114, 101, 118, 101, 114, 115, 101]⟩, I x, I y] 40) := ⟨_, rfl⟩
  have hA : RS b s lL lK lO V := by rw [hV]; exact h.alloc _
  obtain ⟨gx0, gx⟩ : V.cell? ⟨W.heap.size, 0, none⟩ = some (.string ⟨#[114, 101, 118, 101, 114, 115, 101]⟩) ∧ V.cell? ⟨W.heap.size, 1, none⟩ = some (I x) := by
    rw [hV]
    refine ⟨?_, ?_⟩ <;> (unfold World.cell?; rw [heap_alloc, if_pos rfl]; rfl)
  obtain ⟨lv, gc, ho⟩ := hA.c0
  have gf := hA.f 0
  have hfb : lL ≠ some b := fun e => (hA.dL b e).1 rfl
  obtain ⟨a0, cap0, rfl, _⟩ := ho.form
  have gcW := gc
  rw [hV] at gcW
  have gfW := gf
  rw [hV] at gfW
  have hoW := ho
  rw [hV] at hoW
  have hAW := hA
  rw [hV] at hAW
  replace hV := Lib.hid hV
  replace hA := Lib.hid hA
  replace hAW := Lib.hid hAW
  go_enter Tryz.func19, Tryz.ntmps19
  go_wp2_with fail
  rw [← hV.out]
  go_loopg [9, 10] 0 (fun _ s9 s10 wr => s9 = .slice none 0 0 ∧ s10 = I ((s.L.length : Int) - 1) ∧ wr = V)
  case atStart => exact ⟨rfl, rfl, rfl⟩
  case round =>
    obtain ⟨rfl, rfl, rfl⟩ := hrel
    by_cases hl : (0 : Int) ≤ (s.L.length : Int) - 1
    all_goals
      go_wp2
      first | go_end0 | ((try simp only [Exit.inBlock, Exit.then]); refine bodyPost_ret (results_none rfl _ _ _) rfl ?_)
      refine ⟨rfl, ?_⟩
      exact REnds.alloc (o := (.cells #[.string ⟨#[114, 101, 118, 101, 114, 115, 101]⟩, I x, I y] 40)) (by rw [← hV.out]; exact REnds.refl hA.out)

set_option maxRecDepth 100000 in
set_option maxHeartbeats 2000000 in
theorem r_ints_reverse (h : RS b s lL lK lO W) (hn : s.out.length ≤ 1000) (hn2 : s.L.length ≤ 1000) (x y : Int)  :
    Calls Tryz.prog 19 #[PB b, CL ⟨#[114, 101, 118, 101, 114, 115, 101]⟩ x y, .bool false] W fun e w' => e = .returned (.tuple #[]) ∧ REnds b { s with L := s.L.reverse } lL lK lO W w' := by
  obtain ⟨V, hV⟩ : ∃ V, V = W.alloc (.cells #[.string ⟨#[114, 101, 118, 101, 114, 115, 101]⟩, I x, I y] 40) := ⟨_, rfl⟩
  have hA : RS b s lL lK lO V := by rw [hV]; exact h.alloc _
  obtain ⟨gx0, gx⟩ : V.cell? ⟨W.heap.size, 0, none⟩ = some (.string ⟨#[114, 101, 118, 101, 114, 115, 101]⟩) ∧ V.cell? ⟨W.heap.size, 1, none⟩ = some (I x) := by
    rw [hV]
    refine ⟨?_, ?_⟩ <;> (unfold World.cell?; rw [heap_alloc, if_pos rfl]; rfl)
  obtain ⟨lv, gc, ho⟩ := hA.c0
  have gf := hA.f 0
  have hfb : lL ≠ some b := fun e => (hA.dL b e).1 rfl
  obtain ⟨a0, cap0, rfl, _⟩ := ho.form
  have gcW := gc
  rw [hV] at gcW
  have gfW := gf
  rw [hV] at gfW
  have hoW := ho
  rw [hV] at hoW
  have hAW := hA
  rw [hV] at hAW
  replace hV := Lib.hid hV
  replace hA := Lib.hid hA
  replace hAW := Lib.hid hAW
  have hC : Hid (∀ (j : Nat) (z : Int), s.L[j]? = some z → ∃ bb off, a0 = some ⟨bb, off, none⟩ ∧ V.cell? ⟨bb, off + j, none⟩ = some (I z)) := Lib.hid (by
    intro j z hz
    rcases ho.cases with ⟨e, _, e0⟩ | ⟨bb, off, cap, e, e2⟩
    · rw [e0] at hz; simp at hz
    · cases e; exact ⟨bb, off, rfl, ho.cell hz⟩)
  go_enter Tryz.func19, Tryz.ntmps19
  go_wp2_with fail
  rw [← hV.out]
  go_loopg [9, 10] s.L.length (fun gg s9 s10 wr => ∃ (kk : Nat) (j : Int) (k9 : Option Nat), kk ≤ s.L.length ∧ s.L.length - kk ≤ gg ∧ s10 = I j ∧ Hid (j = (s.L.length : Int) - 1 - kk) ∧ OwnI wr s9 k9 ((s.L.drop (s.L.length - kk)).reverse) ∧ Kept (fun j => V.heap.size ≤ j) V wr ∧ (∀ c, k9 = some c → V.heap.size ≤ c))
  case atStart => exact ⟨0, _, none, by omega, by omega, rfl, Lib.hid (by simp), by simpa using OwnI.nil V, Kept.refl _ _, fun _ e => (by cases e)⟩
  case round =>
    obtain ⟨kk, j, k9, hkk, hg, rfl, hj, ho9, hk9, hN9⟩ := hrel
    have hjj := hj.out
    have hbV := hA.out.lt
    have gcr := hk9.cell_some gc (by simp; omega)
    have gfr := (hk9.frozen (p := ⟨b, 0, none⟩) hbV (by simp; omega)).trans gf
    have hl9 : (s.L.drop (s.L.length - kk)).reverse.length = kk := by simp; omega
    obtain ⟨a9, c9, rfl, _⟩ := ho9.form
    rw [hl9] at ho9 ⊢
    by_cases hj0 : (0 : Int) ≤ j
    · have hjl : j.toNat < s.L.length := by omega
      have hjlz : j < (s.L.length : Int) := by omega
      have hz := List.getElem?_eq_getElem hjl
      generalize s.L[j.toNat] = z at hz
      obtain ⟨bb, off, rfl, hcz⟩ := hC.out j.toNat z hz
      have hczr := hk9.cell_some hcz (by have := World.block_lt_of_cell? V _ hcz; simp; exact this)
      have hz' := Lib.hid hz
      have hkl : kk < s.L.length := by omega
      have hl10 : ((s.L.drop (s.L.length - kk)).reverse ++ [z]).length = kk + 1 := by simp; omega
      replace hl10 := Lib.hid hl10
      clear hz hcz hjj
      go_wp2_with (at_builtin; refine wpList_append_I rfl _ _ rfl rfl z wr.heap.size 1 rfl (ho9.alloc (.cells #[I z] 3)) (by omega) (cell_new1 _ _ _) ?_; intro v' k' w' ho' hk' hr; obtain ⟨a', c', rfl, _⟩ := ho'.form; rw [hl10.out] at ho' ⊢)
      go_roundg (s.L.length - (kk + 1))
      case measure => omega
      case rel =>
        have e1 : s.L.length - kk = j.toNat + 1 := by have := hj.out; omega
        have e2 : s.L.length - (kk + 1) = j.toNat := by have := hj.out; omega
        refine ⟨kk + 1, j - 1, k', by omega, by omega, by first | rfl | go_num, Lib.hid (by have := hj.out; push_cast; omega), ?_, Kept.news (hk9.alloc _) hN9 hk', hr.new hN9 (hk9.alloc _).size⟩
        rw [e2, List.drop_eq_getElem_cons hjl, show s.L[j.toNat] = z from by have := hz'.out; rw [List.getElem?_eq_getElem hjl] at this; exact Option.some.inj this, List.reverse_cons, ← e1]
        exact ho'
    · have hkl : kk = s.L.length := by omega
      have e0 : (s.L.drop (s.L.length - kk)).reverse = s.L.reverse := by rw [hkl]; simp
      rw [e0] at ho9
      replace e0 := Lib.hid e0
      replace hkl := Lib.hid hkl
      clear hjj hl9
      go_wp2
      first | go_end0 | ((try simp only [Exit.inBlock, Exit.then]); refine bodyPost_ret (results_none rfl _ _ _) rfl ?_)
      refine ⟨rfl, ?_⟩
      exact REnds.alloc (o := (.cells #[.string ⟨#[114, 101, 118, 101, 114, 115, 101]⟩, I x, I y] 40)) (by rw [← hV.out]; exact hA.out.set_L (hk9.ofNews.mono (fun _ e => e.elim)) ho9 (.inr hN9))

set_option maxRecDepth 100000 in
set_option maxHeartbeats 4000000 in
theorem r_ints_push_sorted (h : RS b s lL lK lO W) (hn : s.out.length ≤ 1000) (hn2 : s.L.length ≤ 1000) (x y : Int)  :
    Calls Tryz.prog 19 #[PB b, CL ⟨#[112, 117, 115, 104]⟩ x y, .bool true] W fun e w' => e = .returned (.tuple #[]) ∧ REnds b { s with L := insL x s.L } lL lK lO W w' := by
  obtain ⟨V, hV⟩ : ∃ V, V = W.alloc (.cells #[.string ⟨#[112, 117, 115, 104]⟩, I x, I y] 40) := ⟨_, rfl⟩
  have hA : RS b s lL lK lO V := by rw [hV]; exact h.alloc _
  obtain ⟨gx0, gx⟩ : V.cell? ⟨W.heap.size, 0, none⟩ = some (.string ⟨#[112, 117, 115, 104]⟩) ∧ V.cell? ⟨W.heap.size, 1, none⟩ = some (I x) := by
    rw [hV]
    refine ⟨?_, ?_⟩ <;> (unfold World.cell?; rw [heap_alloc, if_pos rfl]; rfl)
  obtain ⟨lv, gc, ho⟩ := hA.c0
  have gf := hA.f 0
  have hfb : lL ≠ some b := fun e => (hA.dL b e).1 rfl
  obtain ⟨a0, cap0, rfl, _⟩ := ho.form
  have gcW := gc
  rw [hV] at gcW
  have gfW := gf
  rw [hV] at gfW
  have hoW := ho
  rw [hV] at hoW
  have hAW := hA
  rw [hV] at hAW
  replace hV := Lib.hid hV
  replace hA := Lib.hid hA
  replace hAW := Lib.hid hAW
  have hC : Hid (∀ (j : Nat) (z : Int), s.L[j]? = some z → ∃ bb off, a0 = some ⟨bb, off, none⟩ ∧ V.cell? ⟨bb, off + j, none⟩ = some (I z)) := Lib.hid (by
    intro j z hz
    rcases ho.cases with ⟨e, _, e0⟩ | ⟨bb, off, cap, e, e2⟩
    · rw [e0] at hz; simp at hz
    · cases e; exact ⟨bb, off, rfl, ho.cell hz⟩)
  go_enter Tryz.func19, Tryz.ntmps19
  go_wp2_with fail
  rw [← hV.out]
  go_loopg [6] s.L.length (fun gg s6 wr => ∃ (kk n : Nat), kk ≤ s.L.length ∧ s.L.length - kk ≤ gg ∧ s6 = I kk ∧ wr = V.drewN n ∧ Hid (∀ j, j < kk → ∃ y, s.L[j]? = some y ∧ y < x))
  case atStart => exact ⟨0, 0, by omega, by omega, rfl, rfl, Lib.hid fun j hj => absurd hj (Nat.not_lt_zero _)⟩
  case round =>
    obtain ⟨kk, n, hkk, hg, rfl, hwr, A⟩ := hrel
    have gcr : wr.cell? ⟨b, 0, none⟩ = some (.slice a0 s.L.length cap0) := by rw [hwr]; exact gc
    have gxr : wr.cell? ⟨W.heap.size, 1, none⟩ = some (I x) := by rw [hwr]; exact gx
    have gfr : wr.frozen? ⟨b, 0, none⟩ = false := by rw [hwr]; exact gf
    have hSr : Hid (RS b s lL lK lO wr) := Lib.hid (by rw [hwr]; exact hA.out.drewN n)
    have hor : OwnI wr (.slice a0 s.L.length cap0) lL s.L := by rw [hwr]; exact ho.keep fun _ _ => rfl
    have hkz : (0 : Int) ≤ (kk : Int) := by omega
    clear gc gx gx0 gcW gf gfW hoW
    by_cases hlt : kk < s.L.length
    · have hltz : (kk : Int) < (s.L.length : Int) := by omega
      have hz := List.getElem?_eq_getElem hlt
      generalize s.L[kk] = z at hz
      obtain ⟨bb, off, rfl, hcz⟩ := hC.out kk z hz
      have hczr : wr.cell? ⟨bb, off + kk, none⟩ = some (I z) := by rw [hwr]; exact hcz
      replace hwr := Lib.hid hwr
      have hz' := Lib.hid hz
      clear hz hcz
      by_cases hq : z < x
      · go_wp2_with fail
        go_quiet (fail)
        go_wp2_with fail
        go_roundg (s.L.length - (kk + 1))
        case measure => omega
        case rel =>
          refine ⟨kk + 1, n + nq, by omega, by omega, by go_num, by rw [hwr.out, drewN_add], Lib.hid fun j hj => ?_⟩
          by_cases e : j = kk
          · subst e; exact ⟨z, hz'.out, hq⟩
          · exact A.out j (by omega)
      · have hins : insL x s.L = s.L.take kk ++ x :: s.L.drop kk := by
          unfold insL
          rw [low?_hit A.out ⟨z, hz'.out, by omega⟩]
        replace hins := Lib.hid hins
        have hqd : decide (z < x) = false := by simpa using hq
        go_wp2_with fail
        go_quiet (fail)
        go_wp2_with fail
        obtain ⟨V4, hV4⟩ : ∃ V4, V4 = wr.drewN nq := ⟨_, rfl⟩
        rw [← hV4]
        have gc4 : V4.cell? ⟨b, 0, none⟩ = some (.slice (some ⟨bb, off, none⟩) s.L.length cap0) := by rw [hV4]; exact gcr
        have gx4 : V4.cell? ⟨W.heap.size, 1, none⟩ = some (I x) := by rw [hV4]; exact gxr
        have gf4 : V4.frozen? ⟨b, 0, none⟩ = false := by rw [hV4]; exact gfr
        have hS4 : Hid (RS b s lL lK lO V4) := Lib.hid (by rw [hV4]; exact hSr.out.drewN nq)
        have ho4 : OwnI V4 (.slice (some ⟨bb, off, none⟩) s.L.length cap0) lL s.L := by rw [hV4]; exact hor.keep fun _ _ => rfl
        replace hV4 := Lib.hid hV4
        clear gcr gxr gfr hor hczr hqd
        refine wp_region_live 11 (fun V => V.cell? ⟨b, 0, none⟩ = some (.slice (some ⟨bb, off, none⟩) s.L.length cap0) ∧ V.cell? ⟨W.heap.size, 1, none⟩ = some (I x)) (by kernel_rfl) ⟨gc4, gx4⟩ (fun hHeld => ?_)
        refine wpAnyT_take (i := 0) (oi := _) (v := ?_) rfl (by kernel_rfl) (by kernel_rfl) (by kernel_rfl) (by kernel_rfl) (by kernel_rfl) (fun _ _ _ h => h) (Or.inl ⟨by rfl, ?_⟩) (by with_reducible assumption) ?_
        rotate_left
        · (intro V hSw; obtain ⟨s1, s2⟩ := hSw; go_simp); with_reducible rfl
        try simp only [Act.put, List.setIfInBounds_toArray, List.set_cons_zero, List.set_cons_succ]
        refine wpAnyT_take (i := 1) (oi := _) (v := ?_) rfl (by kernel_rfl) (by kernel_rfl) (by kernel_rfl) (by kernel_rfl) (by kernel_rfl) (fun _ _ _ h => h) (Or.inl ⟨by rfl, ?_⟩) (by with_reducible assumption) ?_
        rotate_left
        · (intro V hSw; obtain ⟨s1, s2⟩ := hSw; go_simp); with_reducible rfl
        try simp only [Act.put, List.setIfInBounds_toArray, List.set_cons_zero, List.set_cons_succ]
        refine wpAnyT_take (i := 2) (oi := _) (v := ?_) rfl (by kernel_rfl) (by kernel_rfl) (by kernel_rfl) (by kernel_rfl) (by kernel_rfl) (fun _ _ _ h => h) (Or.inl ⟨by rfl, ?_⟩) (by with_reducible assumption) ?_
        rotate_left
        · (intro V hSw; obtain ⟨s1, s2⟩ := hSw; go_simp); with_reducible rfl
        try simp only [Act.put, List.setIfInBounds_toArray, List.set_cons_zero, List.set_cons_succ]
        refine wpAnyT_take (i := 3) (oi := _) (v := ?_) rfl (by kernel_rfl) (by kernel_rfl) (by kernel_rfl) (by kernel_rfl) (by kernel_rfl) (fun _ _ _ h => h) (Or.inl ⟨by rfl, ?_⟩) (by with_reducible assumption) ?_
        rotate_left
        · (intro V hSw; obtain ⟨s1, s2⟩ := hSw; go_simp); with_reducible rfl
        try simp only [Act.put, List.setIfInBounds_toArray, List.set_cons_zero, List.set_cons_succ]
        refine wpAnyT_take (i := 4) (oi := _) (v := ?_) rfl (by kernel_rfl) (by kernel_rfl) (by kernel_rfl) (by kernel_rfl) (by kernel_rfl) (fun _ _ _ h => h) (Or.inl ⟨by rfl, ?_⟩) (by with_reducible assumption) ?_
        rotate_left
        · (intro V hSw; obtain ⟨s1, s2⟩ := hSw; go_simp); with_reducible rfl
        try simp only [Act.put, List.setIfInBounds_toArray, List.set_cons_zero, List.set_cons_succ]
        refine wpAnyT_take (i := 5) (oi := _) (v := ?_) rfl (by kernel_rfl) (by kernel_rfl) (by kernel_rfl) (by kernel_rfl) (by kernel_rfl) (fun _ _ _ h => h) (Or.inl ⟨by rfl, ?_⟩) (by with_reducible assumption) ?_
        rotate_left
        · (intro V hSw; obtain ⟨s1, s2⟩ := hSw; go_simp); with_reducible rfl
        try simp only [Act.put, List.setIfInBounds_toArray, List.set_cons_zero, List.set_cons_succ]
        refine wpAnyT_take (i := 6) (oi := _) (v := ?_) rfl (by kernel_rfl) (by kernel_rfl) (by kernel_rfl) (by kernel_rfl) (by kernel_rfl) (fun _ _ _ h => h) (Or.inl ⟨by rfl, ?_⟩) (by with_reducible assumption) ?_
        rotate_left
        · (intro V hSw; obtain ⟨s1, s2⟩ := hSw; go_simp); with_reducible rfl
        try simp only [Act.put, List.setIfInBounds_toArray, List.set_cons_zero, List.set_cons_succ]
        refine wpAnyT_take (i := 7) (oi := _) (v := ?_) rfl (by kernel_rfl) (by kernel_rfl) (by kernel_rfl) (by kernel_rfl) (by kernel_rfl) (fun _ _ _ h => h) (Or.inl ⟨by rfl, ?_⟩) (by with_reducible assumption) ?_
        rotate_left
        · (intro V hSw; obtain ⟨s1, s2⟩ := hSw; go_simp); with_reducible rfl
        try simp only [Act.put, List.setIfInBounds_toArray, List.set_cons_zero, List.set_cons_succ]
        refine wpAnyT_ready (rs := [8]) (by kernel_rfl) (by simp) ?_
        refine AllReadyT.live (o := _) rfl (fun K hK => ?_) AllReadyT.nil
        go_simp
        refine (show Calls Tryz.prog 78 #[.slice (some ⟨bb, off, none⟩) s.L.length cap0, I kk, I x] V4.drew _ from r_insert (ho4.drew) hn2 kk hkk x).mono ?_
        rintro e w' ⟨v', k', rfl, ho', hk', hr⟩
        obtain ⟨a', cap', rfl, _⟩ := ho'.form
        rw [show (s.L.take (kk) ++ x :: s.L.drop (kk)).length = s.L.length + 1 by simp <;> omega] at ho' ⊢
        have hk2 : Kept (fun j => lL = some j) V4 w' := ((Kept.refl _ V4).drew).trans' (hk'.mono (fun _ e => e.elim))
        have gc' := hk2.cell_some gc4 hfb
        have gf' := (hk2.frozen (p := ⟨b, 0, none⟩) hS4.out.lt hfb).trans gf4
        have gx' := (Kept.trans' ((Kept.refl _ V4).drew) hk').cell_some gx4 (fun e => e)
        dsimp only
        refine hK.out _ _ ⟨gc', gx'⟩ (fun hHeld => ?_)
        clear hK K
        try simp only [Act.put, List.setIfInBounds_toArray, List.set_cons_zero, List.set_cons_succ]
        refine wpAnyT_take (i := 9) (oi := _) (v := ?_) rfl (by kernel_rfl) (by kernel_rfl) (by kernel_rfl) (by kernel_rfl) (by kernel_rfl) (fun _ _ _ h => h) (Or.inl ⟨by rfl, ?_⟩) (by with_reducible assumption) ?_
        rotate_left
        · (intro V hSw; obtain ⟨s1, s2⟩ := hSw; go_simp); with_reducible rfl
        try simp only [Act.put, List.setIfInBounds_toArray, List.set_cons_zero, List.set_cons_succ]
        refine wpAnyT_take (i := 10) (oi := _) (v := ?_) rfl (by kernel_rfl) (by kernel_rfl) (by kernel_rfl) (by kernel_rfl) (by kernel_rfl) (fun _ _ _ h => h) (Or.inl ⟨by rfl, ?_⟩) (by with_reducible assumption) ?_
        rotate_left
        · (intro V hSw; obtain ⟨s1, s2⟩ := hSw; go_simp); with_reducible rfl
        try simp only [Act.put, List.setIfInBounds_toArray, List.set_cons_zero, List.set_cons_succ]
        refine wpAnyT_ready (rs := [11]) (by kernel_rfl) (by simp) ?_
        refine AllReadyT.dead (o := _) rfl (by kernel_rfl) (fun K hK => ?_) AllReadyT.nil
        go_simp
        obtain ⟨w2, hw2⟩ : ∃ w2, w2 = w'.setCell ⟨b, 0, none⟩ (.slice a' (s.L.length + 1) cap') := ⟨_, rfl⟩
        have hR : REnds b { s with L := s.L.take (kk) ++ x :: s.L.drop (kk) } lL lK lO V4 w2 := by rw [hw2]; exact hS4.out.set_L hk2 ho' (.inr hr)
        rw [← hw2]
        replace hw2 := Lib.hid hw2
        refine hK.out _ _ ?_
        clear hK K
        try simp only [Act.put, List.setIfInBounds_toArray, List.set_cons_zero, List.set_cons_succ]
        refine wpAnyT_done (by kernel_rfl) ?_ _
        go_wp2_with fail
        first | go_end0 | ((try simp only [Exit.inBlock, Exit.then]); refine bodyPost_ret (results_none rfl _ _ _) rfl ?_)
        rw [hins.out]
        refine ⟨rfl, ?_⟩
        rw [hV4.out, hwr.out, hV.out] at hR
        exact hR.drewN.drewN.alloc
    · have hltz : ¬ (kk : Int) < (s.L.length : Int) := by omega
      have hltd : decide ((kk : Int) < (s.L.length : Int)) = false := by simpa using hltz
      have hins : insL x s.L = s.L.take kk ++ x :: s.L.drop kk := by
        unfold insL
        obtain rfl : kk = s.L.length := by omega
        rw [low?_miss]
        · simp
        · intro j y hj
          obtain ⟨y', h1, h2⟩ := A.out j (List.getElem?_eq_some_iff.1 hj).1
          rw [h1] at hj; cases hj; omega
      replace hins := Lib.hid hins
      replace hwr := Lib.hid hwr
      go_wp2_with fail
      go_quiet (fail)
      go_wp2_with fail
      obtain ⟨V4, hV4⟩ : ∃ V4, V4 = wr.drewN nq := ⟨_, rfl⟩
      rw [← hV4]
      have gc4 : V4.cell? ⟨b, 0, none⟩ = some (.slice a0 s.L.length cap0) := by rw [hV4]; exact gcr
      have gx4 : V4.cell? ⟨W.heap.size, 1, none⟩ = some (I x) := by rw [hV4]; exact gxr
      have gf4 : V4.frozen? ⟨b, 0, none⟩ = false := by rw [hV4]; exact gfr
      have hS4 : Hid (RS b s lL lK lO V4) := Lib.hid (by rw [hV4]; exact hSr.out.drewN nq)
      have ho4 : OwnI V4 (.slice a0 s.L.length cap0) lL s.L := by rw [hV4]; exact hor.keep fun _ _ => rfl
      replace hV4 := Lib.hid hV4
      clear gcr gxr gfr hor hltd
      refine wp_region_live 11 (fun V => V.cell? ⟨b, 0, none⟩ = some (.slice a0 s.L.length cap0) ∧ V.cell? ⟨W.heap.size, 1, none⟩ = some (I x)) (by kernel_rfl) ⟨gc4, gx4⟩ (fun hHeld => ?_)
      refine wpAnyT_take (i := 0) (oi := _) (v := ?_) rfl (by kernel_rfl) (by kernel_rfl) (by kernel_rfl) (by kernel_rfl) (by kernel_rfl) (fun _ _ _ h => h) (Or.inl ⟨by rfl, ?_⟩) (by with_reducible assumption) ?_
      rotate_left
      · (intro V hSw; obtain ⟨s1, s2⟩ := hSw; go_simp); with_reducible rfl
      try simp only [Act.put, List.setIfInBounds_toArray, List.set_cons_zero, List.set_cons_succ]
      refine wpAnyT_take (i := 1) (oi := _) (v := ?_) rfl (by kernel_rfl) (by kernel_rfl) (by kernel_rfl) (by kernel_rfl) (by kernel_rfl) (fun _ _ _ h => h) (Or.inl ⟨by rfl, ?_⟩) (by with_reducible assumption) ?_
      rotate_left
      · (intro V hSw; obtain ⟨s1, s2⟩ := hSw; go_simp); with_reducible rfl
      try simp only [Act.put, List.setIfInBounds_toArray, List.set_cons_zero, List.set_cons_succ]
      refine wpAnyT_take (i := 2) (oi := _) (v := ?_) rfl (by kernel_rfl) (by kernel_rfl) (by kernel_rfl) (by kernel_rfl) (by kernel_rfl) (fun _ _ _ h => h) (Or.inl ⟨by rfl, ?_⟩) (by with_reducible assumption) ?_
      rotate_left
      · (intro V hSw; obtain ⟨s1, s2⟩ := hSw; go_simp); with_reducible rfl
      try simp only [Act.put, List.setIfInBounds_toArray, List.set_cons_zero, List.set_cons_succ]
      refine wpAnyT_take (i := 3) (oi := _) (v := ?_) rfl (by kernel_rfl) (by kernel_rfl) (by kernel_rfl) (by kernel_rfl) (by kernel_rfl) (fun _ _ _ h => h) (Or.inl ⟨by rfl, ?_⟩) (by with_reducible assumption) ?_
      rotate_left
      · (intro V hSw; obtain ⟨s1, s2⟩ := hSw; go_simp); with_reducible rfl
      try simp only [Act.put, List.setIfInBounds_toArray, List.set_cons_zero, List.set_cons_succ]
      refine wpAnyT_take (i := 4) (oi := _) (v := ?_) rfl (by kernel_rfl) (by kernel_rfl) (by kernel_rfl) (by kernel_rfl) (by kernel_rfl) (fun _ _ _ h => h) (Or.inl ⟨by rfl, ?_⟩) (by with_reducible assumption) ?_
      rotate_left
      · (intro V hSw; obtain ⟨s1, s2⟩ := hSw; go_simp); with_reducible rfl
      try simp only [Act.put, List.setIfInBounds_toArray, List.set_cons_zero, List.set_cons_succ]
      refine wpAnyT_take (i := 5) (oi := _) (v := ?_) rfl (by kernel_rfl) (by kernel_rfl) (by kernel_rfl) (by kernel_rfl) (by kernel_rfl) (fun _ _ _ h => h) (Or.inl ⟨by rfl, ?_⟩) (by with_reducible assumption) ?_
      rotate_left
      · (intro V hSw; obtain ⟨s1, s2⟩ := hSw; go_simp); with_reducible rfl
      try simp only [Act.put, List.setIfInBounds_toArray, List.set_cons_zero, List.set_cons_succ]
      refine wpAnyT_take (i := 6) (oi := _) (v := ?_) rfl (by kernel_rfl) (by kernel_rfl) (by kernel_rfl) (by kernel_rfl) (by kernel_rfl) (fun _ _ _ h => h) (Or.inl ⟨by rfl, ?_⟩) (by with_reducible assumption) ?_
      rotate_left
      · (intro V hSw; obtain ⟨s1, s2⟩ := hSw; go_simp); with_reducible rfl
      try simp only [Act.put, List.setIfInBounds_toArray, List.set_cons_zero, List.set_cons_succ]
      refine wpAnyT_take (i := 7) (oi := _) (v := ?_) rfl (by kernel_rfl) (by kernel_rfl) (by kernel_rfl) (by kernel_rfl) (by kernel_rfl) (fun _ _ _ h => h) (Or.inl ⟨by rfl, ?_⟩) (by with_reducible assumption) ?_
      rotate_left
      · (intro V hSw; obtain ⟨s1, s2⟩ := hSw; go_simp); with_reducible rfl
      try simp only [Act.put, List.setIfInBounds_toArray, List.set_cons_zero, List.set_cons_succ]
      refine wpAnyT_ready (rs := [8]) (by kernel_rfl) (by simp) ?_
      refine AllReadyT.live (o := _) rfl (fun K hK => ?_) AllReadyT.nil
      go_simp
      refine (show Calls Tryz.prog 78 #[.slice a0 s.L.length cap0, I kk, I x] V4.drew _ from r_insert (ho4.drew) hn2 kk hkk x).mono ?_
      rintro e w' ⟨v', k', rfl, ho', hk', hr⟩
      obtain ⟨a', cap', rfl, _⟩ := ho'.form
      rw [show (s.L.take (kk) ++ x :: s.L.drop (kk)).length = s.L.length + 1 by simp <;> omega] at ho' ⊢
      have hk2 : Kept (fun j => lL = some j) V4 w' := ((Kept.refl _ V4).drew).trans' (hk'.mono (fun _ e => e.elim))
      have gc' := hk2.cell_some gc4 hfb
      have gf' := (hk2.frozen (p := ⟨b, 0, none⟩) hS4.out.lt hfb).trans gf4
      have gx' := (Kept.trans' ((Kept.refl _ V4).drew) hk').cell_some gx4 (fun e => e)
      dsimp only
      refine hK.out _ _ ⟨gc', gx'⟩ (fun hHeld => ?_)
      clear hK K
      try simp only [Act.put, List.setIfInBounds_toArray, List.set_cons_zero, List.set_cons_succ]
      refine wpAnyT_take (i := 9) (oi := _) (v := ?_) rfl (by kernel_rfl) (by kernel_rfl) (by kernel_rfl) (by kernel_rfl) (by kernel_rfl) (fun _ _ _ h => h) (Or.inl ⟨by rfl, ?_⟩) (by with_reducible assumption) ?_
      rotate_left
      · (intro V hSw; obtain ⟨s1, s2⟩ := hSw; go_simp); with_reducible rfl
      try simp only [Act.put, List.setIfInBounds_toArray, List.set_cons_zero, List.set_cons_succ]
      refine wpAnyT_take (i := 10) (oi := _) (v := ?_) rfl (by kernel_rfl) (by kernel_rfl) (by kernel_rfl) (by kernel_rfl) (by kernel_rfl) (fun _ _ _ h => h) (Or.inl ⟨by rfl, ?_⟩) (by with_reducible assumption) ?_
      rotate_left
      · (intro V hSw; obtain ⟨s1, s2⟩ := hSw; go_simp); with_reducible rfl
      try simp only [Act.put, List.setIfInBounds_toArray, List.set_cons_zero, List.set_cons_succ]
      refine wpAnyT_ready (rs := [11]) (by kernel_rfl) (by simp) ?_
      refine AllReadyT.dead (o := _) rfl (by kernel_rfl) (fun K hK => ?_) AllReadyT.nil
      go_simp
      obtain ⟨w2, hw2⟩ : ∃ w2, w2 = w'.setCell ⟨b, 0, none⟩ (.slice a' (s.L.length + 1) cap') := ⟨_, rfl⟩
      have hR : REnds b { s with L := s.L.take (kk) ++ x :: s.L.drop (kk) } lL lK lO V4 w2 := by rw [hw2]; exact hS4.out.set_L hk2 ho' (.inr hr)
      rw [← hw2]
      replace hw2 := Lib.hid hw2
      refine hK.out _ _ ?_
      clear hK K
      try simp only [Act.put, List.setIfInBounds_toArray, List.set_cons_zero, List.set_cons_succ]
      refine wpAnyT_done (by kernel_rfl) ?_ _
      go_wp2_with fail
      first | go_end0 | ((try simp only [Exit.inBlock, Exit.then]); refine bodyPost_ret (results_none rfl _ _ _) rfl ?_)
      rw [hins.out]
      refine ⟨rfl, ?_⟩
      rw [hV4.out, hwr.out, hV.out] at hR
      exact hR.drewN.drewN.alloc

set_option maxRecDepth 100000 in
set_option maxHeartbeats 4000000 in
theorem r_ints_extend_sorted (h : RS b s lL lK lO W) (hn : s.out.length ≤ 1000) (hn2 : s.L.length ≤ 1000) (x y : Int)  :
    Calls Tryz.prog 19 #[PB b, CL ⟨#[101, 120, 116, 101, 110, 100]⟩ x y, .bool true] W fun e w' => e = .returned (.tuple #[]) ∧ REnds b { s with L := insL x s.L } lL lK lO W w' := by
  obtain ⟨V, hV⟩ : ∃ V, V = W.alloc (.cells #[.string ⟨#[101, 120, 116, 101, 110, 100]⟩, I x, I y] 40) := ⟨_, rfl⟩
  have hA : RS b s lL lK lO V := by rw [hV]; exact h.alloc _
  obtain ⟨gx0, gx⟩ : V.cell? ⟨W.heap.size, 0, none⟩ = some (.string ⟨#[101, 120, 116, 101, 110, 100]⟩) ∧ V.cell? ⟨W.heap.size, 1, none⟩ = some (I x) := by
    rw [hV]
    refine ⟨?_, ?_⟩ <;> (unfold World.cell?; rw [heap_alloc, if_pos rfl]; rfl)
  obtain ⟨lv, gc, ho⟩ := hA.c0
  have gf := hA.f 0
  have hfb : lL ≠ some b := fun e => (hA.dL b e).1 rfl
  obtain ⟨a0, cap0, rfl, _⟩ := ho.form
  have gcW := gc
  rw [hV] at gcW
  have gfW := gf
  rw [hV] at gfW
  have hoW := ho
  rw [hV] at hoW
  have hAW := hA
  rw [hV] at hAW
  replace hV := Lib.hid hV
  replace hA := Lib.hid hA
  replace hAW := Lib.hid hAW
  have hC : Hid (∀ (j : Nat) (z : Int), s.L[j]? = some z → ∃ bb off, a0 = some ⟨bb, off, none⟩ ∧ V.cell? ⟨bb, off + j, none⟩ = some (I z)) := Lib.hid (by
    intro j z hz
    rcases ho.cases with ⟨e, _, e0⟩ | ⟨bb, off, cap, e, e2⟩
    · rw [e0] at hz; simp at hz
    · cases e; exact ⟨bb, off, rfl, ho.cell hz⟩)
  go_enter Tryz.func19, Tryz.ntmps19
  go_wp2_with fail
  rw [← hV.out]
  go_loopg [6] s.L.length (fun gg s6 wr => ∃ (kk n : Nat), kk ≤ s.L.length ∧ s.L.length - kk ≤ gg ∧ s6 = I kk ∧ wr = V.drewN n ∧ Hid (∀ j, j < kk → ∃ y, s.L[j]? = some y ∧ y < x))
  case atStart => exact ⟨0, 0, by omega, by omega, rfl, rfl, Lib.hid fun j hj => absurd hj (Nat.not_lt_zero _)⟩
  case round =>
    obtain ⟨kk, n, hkk, hg, rfl, hwr, A⟩ := hrel
    have gcr : wr.cell? ⟨b, 0, none⟩ = some (.slice a0 s.L.length cap0) := by rw [hwr]; exact gc
    have gxr : wr.cell? ⟨W.heap.size, 1, none⟩ = some (I x) := by rw [hwr]; exact gx
    have gfr : wr.frozen? ⟨b, 0, none⟩ = false := by rw [hwr]; exact gf
    have hSr : Hid (RS b s lL lK lO wr) := Lib.hid (by rw [hwr]; exact hA.out.drewN n)
    have hor : OwnI wr (.slice a0 s.L.length cap0) lL s.L := by rw [hwr]; exact ho.keep fun _ _ => rfl
    have hkz : (0 : Int) ≤ (kk : Int) := by omega
    clear gc gx gx0 gcW gf gfW hoW
    by_cases hlt : kk < s.L.length
    · have hltz : (kk : Int) < (s.L.length : Int) := by omega
      have hz := List.getElem?_eq_getElem hlt
      generalize s.L[kk] = z at hz
      obtain ⟨bb, off, rfl, hcz⟩ := hC.out kk z hz
      have hczr : wr.cell? ⟨bb, off + kk, none⟩ = some (I z) := by rw [hwr]; exact hcz
      replace hwr := Lib.hid hwr
      have hz' := Lib.hid hz
      clear hz hcz
      by_cases hq : z < x
      · go_wp2_with fail
        go_quiet (fail)
        go_wp2_with fail
        go_roundg (s.L.length - (kk + 1))
        case measure => omega
        case rel =>
          refine ⟨kk + 1, n + nq, by omega, by omega, by go_num, by rw [hwr.out, drewN_add], Lib.hid fun j hj => ?_⟩
          by_cases e : j = kk
          · subst e; exact ⟨z, hz'.out, hq⟩
          · exact A.out j (by omega)
      · have hins : insL x s.L = s.L.take kk ++ x :: s.L.drop kk := by
          unfold insL
          rw [low?_hit A.out ⟨z, hz'.out, by omega⟩]
        replace hins := Lib.hid hins
        have hqd : decide (z < x) = false := by simpa using hq
        go_wp2_with fail
        go_quiet (fail)
        go_wp2_with fail
        obtain ⟨V4, hV4⟩ : ∃ V4, V4 = wr.drewN nq := ⟨_, rfl⟩
        rw [← hV4]
        have gc4 : V4.cell? ⟨b, 0, none⟩ = some (.slice (some ⟨bb, off, none⟩) s.L.length cap0) := by rw [hV4]; exact gcr
        have gx4 : V4.cell? ⟨W.heap.size, 1, none⟩ = some (I x) := by rw [hV4]; exact gxr
        have gf4 : V4.frozen? ⟨b, 0, none⟩ = false := by rw [hV4]; exact gfr
        have hS4 : Hid (RS b s lL lK lO V4) := Lib.hid (by rw [hV4]; exact hSr.out.drewN nq)
        have ho4 : OwnI V4 (.slice (some ⟨bb, off, none⟩) s.L.length cap0) lL s.L := by rw [hV4]; exact hor.keep fun _ _ => rfl
        replace hV4 := Lib.hid hV4
        clear gcr gxr gfr hor hczr hqd
        refine wp_region_live 11 (fun V => V.cell? ⟨b, 0, none⟩ = some (.slice (some ⟨bb, off, none⟩) s.L.length cap0) ∧ V.cell? ⟨W.heap.size, 1, none⟩ = some (I x)) (by kernel_rfl) ⟨gc4, gx4⟩ (fun hHeld => ?_)
        refine wpAnyT_take (i := 0) (oi := _) (v := ?_) rfl (by kernel_rfl) (by kernel_rfl) (by kernel_rfl) (by kernel_rfl) (by kernel_rfl) (fun _ _ _ h => h) (Or.inl ⟨by rfl, ?_⟩) (by with_reducible assumption) ?_
        rotate_left
        · (intro V hSw; obtain ⟨s1, s2⟩ := hSw; go_simp); with_reducible rfl
        try simp only [Act.put, List.setIfInBounds_toArray, List.set_cons_zero, List.set_cons_succ]
        refine wpAnyT_take (i := 1) (oi := _) (v := ?_) rfl (by kernel_rfl) (by kernel_rfl) (by kernel_rfl) (by kernel_rfl) (by kernel_rfl) (fun _ _ _ h => h) (Or.inl ⟨by rfl, ?_⟩) (by with_reducible assumption) ?_
        rotate_left
        · (intro V hSw; obtain ⟨s1, s2⟩ := hSw; go_simp); with_reducible rfl
        try simp only [Act.put, List.setIfInBounds_toArray, List.set_cons_zero, List.set_cons_succ]
        refine wpAnyT_take (i := 2) (oi := _) (v := ?_) rfl (by kernel_rfl) (by kernel_rfl) (by kernel_rfl) (by kernel_rfl) (by kernel_rfl) (fun _ _ _ h => h) (Or.inl ⟨by rfl, ?_⟩) (by with_reducible assumption) ?_
        rotate_left
        · (intro V hSw; obtain ⟨s1, s2⟩ := hSw; go_simp); with_reducible rfl
        try simp only [Act.put, List.setIfInBounds_toArray, List.set_cons_zero, List.set_cons_succ]
        refine wpAnyT_take (i := 3) (oi := _) (v := ?_) rfl (by kernel_rfl) (by kernel_rfl) (by kernel_rfl) (by kernel_rfl) (by kernel_rfl) (fun _ _ _ h => h) (Or.inl ⟨by rfl, ?_⟩) (by with_reducible assumption) ?_
        rotate_left
        · (intro V hSw; obtain ⟨s1, s2⟩ := hSw; go_simp); with_reducible rfl
        try simp only [Act.put, List.setIfInBounds_toArray, List.set_cons_zero, List.set_cons_succ]
        refine wpAnyT_take (i := 4) (oi := _) (v := ?_) rfl (by kernel_rfl) (by kernel_rfl) (by kernel_rfl) (by kernel_rfl) (by kernel_rfl) (fun _ _ _ h => h) (Or.inl ⟨by rfl, ?_⟩) (by with_reducible assumption) ?_
        rotate_left
        · (intro V hSw; obtain ⟨s1, s2⟩ := hSw; go_simp); with_reducible rfl
        try simp only [Act.put, List.setIfInBounds_toArray, List.set_cons_zero, List.set_cons_succ]
        refine wpAnyT_take (i := 5) (oi := _) (v := ?_) rfl (by kernel_rfl) (by kernel_rfl) (by kernel_rfl) (by kernel_rfl) (by kernel_rfl) (fun _ _ _ h => h) (Or.inl ⟨by rfl, ?_⟩) (by with_reducible assumption) ?_
        rotate_left
        · (intro V hSw; obtain ⟨s1, s2⟩ := hSw; go_simp); with_reducible rfl
        try simp only [Act.put, List.setIfInBounds_toArray, List.set_cons_zero, List.set_cons_succ]
        refine wpAnyT_take (i := 6) (oi := _) (v := ?_) rfl (by kernel_rfl) (by kernel_rfl) (by kernel_rfl) (by kernel_rfl) (by kernel_rfl) (fun _ _ _ h => h) (Or.inl ⟨by rfl, ?_⟩) (by with_reducible assumption) ?_
        rotate_left
        · (intro V hSw; obtain ⟨s1, s2⟩ := hSw; go_simp); with_reducible rfl
        try simp only [Act.put, List.setIfInBounds_toArray, List.set_cons_zero, List.set_cons_succ]
        refine wpAnyT_take (i := 7) (oi := _) (v := ?_) rfl (by kernel_rfl) (by kernel_rfl) (by kernel_rfl) (by kernel_rfl) (by kernel_rfl) (fun _ _ _ h => h) (Or.inl ⟨by rfl, ?_⟩) (by with_reducible assumption) ?_
        rotate_left
        · (intro V hSw; obtain ⟨s1, s2⟩ := hSw; go_simp); with_reducible rfl
        try simp only [Act.put, List.setIfInBounds_toArray, List.set_cons_zero, List.set_cons_succ]
        refine wpAnyT_ready (rs := [8]) (by kernel_rfl) (by simp) ?_
        refine AllReadyT.live (o := _) rfl (fun K hK => ?_) AllReadyT.nil
        go_simp
        refine (show Calls Tryz.prog 78 #[.slice (some ⟨bb, off, none⟩) s.L.length cap0, I kk, I x] V4.drew _ from r_insert (ho4.drew) hn2 kk hkk x).mono ?_
        rintro e w' ⟨v', k', rfl, ho', hk', hr⟩
        obtain ⟨a', cap', rfl, _⟩ := ho'.form
        rw [show (s.L.take (kk) ++ x :: s.L.drop (kk)).length = s.L.length + 1 by simp <;> omega] at ho' ⊢
        have hk2 : Kept (fun j => lL = some j) V4 w' := ((Kept.refl _ V4).drew).trans' (hk'.mono (fun _ e => e.elim))
        have gc' := hk2.cell_some gc4 hfb
        have gf' := (hk2.frozen (p := ⟨b, 0, none⟩) hS4.out.lt hfb).trans gf4
        have gx' := (Kept.trans' ((Kept.refl _ V4).drew) hk').cell_some gx4 (fun e => e)
        dsimp only
        refine hK.out _ _ ⟨gc', gx'⟩ (fun hHeld => ?_)
        clear hK K
        try simp only [Act.put, List.setIfInBounds_toArray, List.set_cons_zero, List.set_cons_succ]
        refine wpAnyT_take (i := 9) (oi := _) (v := ?_) rfl (by kernel_rfl) (by kernel_rfl) (by kernel_rfl) (by kernel_rfl) (by kernel_rfl) (fun _ _ _ h => h) (Or.inl ⟨by rfl, ?_⟩) (by with_reducible assumption) ?_
        rotate_left
        · (intro V hSw; obtain ⟨s1, s2⟩ := hSw; go_simp); with_reducible rfl
        try simp only [Act.put, List.setIfInBounds_toArray, List.set_cons_zero, List.set_cons_succ]
        refine wpAnyT_take (i := 10) (oi := _) (v := ?_) rfl (by kernel_rfl) (by kernel_rfl) (by kernel_rfl) (by kernel_rfl) (by kernel_rfl) (fun _ _ _ h => h) (Or.inl ⟨by rfl, ?_⟩) (by with_reducible assumption) ?_
        rotate_left
        · (intro V hSw; obtain ⟨s1, s2⟩ := hSw; go_simp); with_reducible rfl
        try simp only [Act.put, List.setIfInBounds_toArray, List.set_cons_zero, List.set_cons_succ]
        refine wpAnyT_ready (rs := [11]) (by kernel_rfl) (by simp) ?_
        refine AllReadyT.dead (o := _) rfl (by kernel_rfl) (fun K hK => ?_) AllReadyT.nil
        go_simp
        obtain ⟨w2, hw2⟩ : ∃ w2, w2 = w'.setCell ⟨b, 0, none⟩ (.slice a' (s.L.length + 1) cap') := ⟨_, rfl⟩
        have hR : REnds b { s with L := s.L.take (kk) ++ x :: s.L.drop (kk) } lL lK lO V4 w2 := by rw [hw2]; exact hS4.out.set_L hk2 ho' (.inr hr)
        rw [← hw2]
        replace hw2 := Lib.hid hw2
        refine hK.out _ _ ?_
        clear hK K
        try simp only [Act.put, List.setIfInBounds_toArray, List.set_cons_zero, List.set_cons_succ]
        refine wpAnyT_done (by kernel_rfl) ?_ _
        go_wp2_with fail
        first | go_end0 | ((try simp only [Exit.inBlock, Exit.then]); refine bodyPost_ret (results_none rfl _ _ _) rfl ?_)
        rw [hins.out]
        refine ⟨rfl, ?_⟩
        rw [hV4.out, hwr.out, hV.out] at hR
        exact hR.drewN.drewN.alloc
    · have hltz : ¬ (kk : Int) < (s.L.length : Int) := by omega
      have hltd : decide ((kk : Int) < (s.L.length : Int)) = false := by simpa using hltz
      have hins : insL x s.L = s.L.take kk ++ x :: s.L.drop kk := by
        unfold insL
        obtain rfl : kk = s.L.length := by omega
        rw [low?_miss]
        · simp
        · intro j y hj
          obtain ⟨y', h1, h2⟩ := A.out j (List.getElem?_eq_some_iff.1 hj).1
          rw [h1] at hj; cases hj; omega
      replace hins := Lib.hid hins
      replace hwr := Lib.hid hwr
      go_wp2_with fail
      go_quiet (fail)
      go_wp2_with fail
      obtain ⟨V4, hV4⟩ : ∃ V4, V4 = wr.drewN nq := ⟨_, rfl⟩
      rw [← hV4]
      have gc4 : V4.cell? ⟨b, 0, none⟩ = some (.slice a0 s.L.length cap0) := by rw [hV4]; exact gcr
      have gx4 : V4.cell? ⟨W.heap.size, 1, none⟩ = some (I x) := by rw [hV4]; exact gxr
      have gf4 : V4.frozen? ⟨b, 0, none⟩ = false := by rw [hV4]; exact gfr
      have hS4 : Hid (RS b s lL lK lO V4) := Lib.hid (by rw [hV4]; exact hSr.out.drewN nq)
      have ho4 : OwnI V4 (.slice a0 s.L.length cap0) lL s.L := by rw [hV4]; exact hor.keep fun _ _ => rfl
      replace hV4 := Lib.hid hV4
      clear gcr gxr gfr hor hltd
      refine wp_region_live 11 (fun V => V.cell? ⟨b, 0, none⟩ = some (.slice a0 s.L.length cap0) ∧ V.cell? ⟨W.heap.size, 1, none⟩ = some (I x)) (by kernel_rfl) ⟨gc4, gx4⟩ (fun hHeld => ?_)
      refine wpAnyT_take (i := 0) (oi := _) (v := ?_) rfl (by kernel_rfl) (by kernel_rfl) (by kernel_rfl) (by kernel_rfl) (by kernel_rfl) (fun _ _ _ h => h) (Or.inl ⟨by rfl, ?_⟩) (by with_reducible assumption) ?_
      rotate_left
      · (intro V hSw; obtain ⟨s1, s2⟩ := hSw; go_simp); with_reducible rfl
      try simp only [Act.put, List.setIfInBounds_toArray, List.set_cons_zero, List.set_cons_succ]
      refine wpAnyT_take (i := 1) (oi := _) (v := ?_) rfl (by kernel_rfl) (by kernel_rfl) (by kernel_rfl) (by kernel_rfl) (by kernel_rfl) (fun _ _ _ h => h) (Or.inl ⟨by rfl, ?_⟩) (by with_reducible assumption) ?_
      rotate_left
      · (intro V hSw; obtain ⟨s1, s2⟩ := hSw; go_simp); with_reducible rfl
      try simp only [Act.put, List.setIfInBounds_toArray, List.set_cons_zero, List.set_cons_succ]
      refine wpAnyT_take (i := 2) (oi := _) (v := ?_) rfl (by kernel_rfl) (by kernel_rfl) (by kernel_rfl) (by kernel_rfl) (by kernel_rfl) (fun _ _ _ h => h) (Or.inl ⟨by rfl, ?_⟩) (by with_reducible assumption) ?_
      rotate_left
      · (intro V hSw; obtain ⟨s1, s2⟩ := hSw; go_simp); with_reducible rfl
      try simp only [Act.put, List.setIfInBounds_toArray, List.set_cons_zero, List.set_cons_succ]
      refine wpAnyT_take (i := 3) (oi := _) (v := ?_) rfl (by kernel_rfl) (by kernel_rfl) (by kernel_rfl) (by kernel_rfl) (by kernel_rfl) (fun _ _ _ h => h) (Or.inl ⟨by rfl, ?_⟩) (by with_reducible assumption) ?_
      rotate_left
      · (intro V hSw; obtain ⟨s1, s2⟩ := hSw; go_simp); with_reducible rfl
      try simp only [Act.put, List.setIfInBounds_toArray, List.set_cons_zero, List.set_cons_succ]
      refine wpAnyT_take (i := 4) (oi := _) (v := ?_) rfl (by kernel_rfl) (by kernel_rfl) (by kernel_rfl) (by kernel_rfl) (by kernel_rfl) (fun _ _ _ h => h) (Or.inl ⟨by rfl, ?_⟩) (by with_reducible assumption) ?_
      rotate_left
      · (intro V hSw; obtain ⟨s1, s2⟩ := hSw; go_simp); with_reducible rfl
      try simp only [Act.put, List.setIfInBounds_toArray, List.set_cons_zero, List.set_cons_succ]
      refine wpAnyT_take (i := 5) (oi := _) (v := ?_) rfl (by kernel_rfl) (by kernel_rfl) (by kernel_rfl) (by kernel_rfl) (by kernel_rfl) (fun _ _ _ h => h) (Or.inl ⟨by rfl, ?_⟩) (by with_reducible assumption) ?_
      rotate_left
      · (intro V hSw; obtain ⟨s1, s2⟩ := hSw; go_simp); with_reducible rfl
      try simp only [Act.put, List.setIfInBounds_toArray, List.set_cons_zero, List.set_cons_succ]
      refine wpAnyT_take (i := 6) (oi := _) (v := ?_) rfl (by kernel_rfl) (by kernel_rfl) (by kernel_rfl) (by kernel_rfl) (by kernel_rfl) (fun _ _ _ h => h) (Or.inl ⟨by rfl, ?_⟩) (by with_reducible assumption) ?_
      rotate_left
      · (intro V hSw; obtain ⟨s1, s2⟩ := hSw; go_simp); with_reducible rfl
      try simp only [Act.put, List.setIfInBounds_toArray, List.set_cons_zero, List.set_cons_succ]
      refine wpAnyT_take (i := 7) (oi := _) (v := ?_) rfl (by kernel_rfl) (by kernel_rfl) (by kernel_rfl) (by kernel_rfl) (by kernel_rfl) (fun _ _ _ h => h) (Or.inl ⟨by rfl, ?_⟩) (by with_reducible assumption) ?_
      rotate_left
      · (intro V hSw; obtain ⟨s1, s2⟩ := hSw; go_simp); with_reducible rfl
      try simp only [Act.put, List.setIfInBounds_toArray, List.set_cons_zero, List.set_cons_succ]
      refine wpAnyT_ready (rs := [8]) (by kernel_rfl) (by simp) ?_
      refine AllReadyT.live (o := _) rfl (fun K hK => ?_) AllReadyT.nil
      go_simp
      refine (show Calls Tryz.prog 78 #[.slice a0 s.L.length cap0, I kk, I x] V4.drew _ from r_insert (ho4.drew) hn2 kk hkk x).mono ?_
      rintro e w' ⟨v', k', rfl, ho', hk', hr⟩
      obtain ⟨a', cap', rfl, _⟩ := ho'.form
      rw [show (s.L.take (kk) ++ x :: s.L.drop (kk)).length = s.L.length + 1 by simp <;> omega] at ho' ⊢
      have hk2 : Kept (fun j => lL = some j) V4 w' := ((Kept.refl _ V4).drew).trans' (hk'.mono (fun _ e => e.elim))
      have gc' := hk2.cell_some gc4 hfb
      have gf' := (hk2.frozen (p := ⟨b, 0, none⟩) hS4.out.lt hfb).trans gf4
      have gx' := (Kept.trans' ((Kept.refl _ V4).drew) hk').cell_some gx4 (fun e => e)
      dsimp only
      refine hK.out _ _ ⟨gc', gx'⟩ (fun hHeld => ?_)
      clear hK K
      try simp only [Act.put, List.setIfInBounds_toArray, List.set_cons_zero, List.set_cons_succ]
      refine wpAnyT_take (i := 9) (oi := _) (v := ?_) rfl (by kernel_rfl) (by kernel_rfl) (by kernel_rfl) (by kernel_rfl) (by kernel_rfl) (fun _ _ _ h => h) (Or.inl ⟨by rfl, ?_⟩) (by with_reducible assumption) ?_
      rotate_left
      · (intro V hSw; obtain ⟨s1, s2⟩ := hSw; go_simp); with_reducible rfl
      try simp only [Act.put, List.setIfInBounds_toArray, List.set_cons_zero, List.set_cons_succ]
      refine wpAnyT_take (i := 10) (oi := _) (v := ?_) rfl (by kernel_rfl) (by kernel_rfl) (by kernel_rfl) (by kernel_rfl) (by kernel_rfl) (fun _ _ _ h => h) (Or.inl ⟨by rfl, ?_⟩) (by with_reducible assumption) ?_
      rotate_left
      · (intro V hSw; obtain ⟨s1, s2⟩ := hSw; go_simp); with_reducible rfl
      try simp only [Act.put, List.setIfInBounds_toArray, List.set_cons_zero, List.set_cons_succ]
      refine wpAnyT_ready (rs := [11]) (by kernel_rfl) (by simp) ?_
      refine AllReadyT.dead (o := _) rfl (by kernel_rfl) (fun K hK => ?_) AllReadyT.nil
      go_simp
      obtain ⟨w2, hw2⟩ : ∃ w2, w2 = w'.setCell ⟨b, 0, none⟩ (.slice a' (s.L.length + 1) cap') := ⟨_, rfl⟩
      have hR : REnds b { s with L := s.L.take (kk) ++ x :: s.L.drop (kk) } lL lK lO V4 w2 := by rw [hw2]; exact hS4.out.set_L hk2 ho' (.inr hr)
      rw [← hw2]
      replace hw2 := Lib.hid hw2
      refine hK.out _ _ ?_
      clear hK K
      try simp only [Act.put, List.setIfInBounds_toArray, List.set_cons_zero, List.set_cons_succ]
      refine wpAnyT_done (by kernel_rfl) ?_ _
      go_wp2_with fail
      first | go_end0 | ((try simp only [Exit.inBlock, Exit.then]); refine bodyPost_ret (results_none rfl _ _ _) rfl ?_)
      rw [hins.out]
      refine ⟨rfl, ?_⟩
      rw [hV4.out, hwr.out, hV.out] at hR
      exact hR.drewN.drewN.alloc
end Go.Proofs.Bm
