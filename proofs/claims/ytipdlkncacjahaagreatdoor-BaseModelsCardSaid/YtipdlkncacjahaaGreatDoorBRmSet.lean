/- The reference's Model, at SET. No condition but that the list reads. -/
import Derived.Test.YtipdlkncacjahaaGreatDoorBMdR
set_option linter.unusedSimpArgs false
set_option linter.unusedVariables false
namespace Go.Proofs.Bm
open Go.RowKit Go.Maps

set_option maxHeartbeats 4000000 in
set_option maxRecDepth 100000 in
theorem rmodel_set (a : Option Addr) (cap : Nat) (l : List (ByteArray × Int × Int)) (o' : List Int) (f e0 : Int) (w : World) (hL : LC w a l) (hn : l.length ≤ 40) (hok : ∀ x ∈ l, okC .set x) (hP : Plays .set l ⟨[], .map [], 0, -1⟩ [] o' f e0) :
    Calls Tryz.prog 7 #[.string ⟨#[83, 69, 84]⟩, .slice a l.length cap] w (RModPost o' f e0 w) := by
  have hb0 : Below w.heap.size w (w.alloc (.cells #[.slice none 0 0, I 0, I 0] 30)) := (Below.refl _ w).alloc (Nat.le_refl _) _
  have hc := rcheck_loop .set a cap l 0 (.inl ⟨rfl, hok⟩) _ (hL.below hb0) hn
  have z0 : ∀ j, (w.alloc (.cells #[.slice none 0 0, I 0, I 0] 30)).cell? ⟨w.heap.size, j, none⟩ = (#[.slice none 0 0, I 0, I 0] : Array Value)[j]? := fun j => by unfold World.cell?; rw [heap_alloc, if_pos rfl]; rfl
  have zf : ∀ j, (w.alloc (.cells #[.slice none 0 0, I 0, I 0] 30)).frozen? ⟨w.heap.size, j, none⟩ = false := fun j => by unfold World.frozen?; rw [heap_alloc, if_pos rfl]; simp
  replace hL := Lib.hid hL
  replace hP := Lib.hid hP
  replace hok := Lib.hid hok
  replace z0 := Lib.hid z0
  replace zf := Lib.hid zf
  go_enter Tryz.func7, Tryz.ntmps7
  go_wp2_with fail
  refine hc.mono ?_
  rintro e w1 ⟨rfl, hb1⟩
  obtain ⟨W0, hW0⟩ : ∃ W0, W0 = w.alloc (.cells #[.slice none 0 0, I 0, I 0] 30) := ⟨_, rfl⟩
  have hs0 : W0.heap.size = w.heap.size + 1 := by rw [hW0]; simp
  rw [← hW0] at z0 zf hb1 hb0
  have hs1 : w.heap.size + 1 ≤ w1.heap.size := by have := hb1.size; omega
  replace hs0 := Lib.hid hs0
  replace hW0 := Lib.hid hW0
  have hM0 : RS w1.heap.size ⟨[], [], 0, (-1), [], 0, false⟩ none none none (w1.alloc (.cells #[.slice none 0 0, .slice none 0 0, I 0, I (-1), .slice none 0 0, I 0, .bool false] 57)) :=
    ⟨⟨_, _, _, by rw [heap_alloc, if_pos rfl], OwnI.nil _, OwnI.nil _, OwnI.nil _⟩, (fun _ e => (by cases e)), (fun _ e => (by cases e)), (fun _ e => (by cases e))⟩
  have hb2 : Below W0.heap.size W0 (w1.alloc (.cells #[.slice none 0 0, .slice none 0 0, I 0, I (-1), .slice none 0 0, I 0, .bool false] 57)) := hb1.alloc hb1.size _
  clear hc
  go_wp2_with fail
  obtain ⟨b, hbb⟩ : ∃ b, b = w1.heap.size := ⟨_, rfl⟩
  rw [← hbb] at hM0 hs1 ⊢
  have hlb : W0.heap.size ≤ b := by rw [hbb]; exact hb1.size
  replace hbb := Lib.hid hbb
  replace hlb := Lib.hid hlb
  clear hb1
  go_loopg [7] l.length (fun gg s7 wr => ∃ (kk : Nat) (s : St) (r : RSt) (lL lK lO : Option Nat), kk ≤ l.length ∧ l.length - kk ≤ gg ∧ s7 = I kk ∧ RS b r lL lK lO wr ∧ Below W0.heap.size W0 wr ∧ (∀ k, FR b lL lK lO k → W0.heap.size ≤ k) ∧ r.long = false ∧
    ((r.fault = 0 ∧ Good s kk ∧ Rel .set kk s r ∧ r.out.length ≤ kk ∧ Hid (Plays .set (l.drop kk) s r.out o' f e0)) ∨ (r.fault ≠ 0 ∧ Hid (o' = r.out ∧ f = r.fault ∧ e0 = 0))))
  case atStart => exact ⟨0, ⟨[], .map [], 0, -1⟩, _, none, none, none, by omega, by omega, rfl, hM0, hb2, (by rintro k (e | e | e | e); exact e ▸ hlb.out; cases e; cases e; cases e), rfl, .inl ⟨rfl, Good.start, List.Perm.refl _, by simp, Lib.hid (by simpa using hP.out)⟩⟩
  case round =>
    obtain ⟨kk, s, r, lL, lK, lO, hkk, hg, rfl, hR, hbr, hFR, hlong, hst⟩ := hrel
    have z1 : wr.cell? ⟨w.heap.size, 0, none⟩ = some (.slice none 0 0) := (hbr.cell (by rw [hs0.out]; simp)).trans (z0.out 0)
    have z2 : wr.cell? ⟨w.heap.size, 1, none⟩ = some (I 0) := (hbr.cell (by rw [hs0.out]; simp)).trans (z0.out 1)
    have z3 : wr.cell? ⟨w.heap.size, 2, none⟩ = some (I 0) := (hbr.cell (by rw [hs0.out]; simp)).trans (z0.out 2)
    have zf0 : ∀ j, wr.frozen? ⟨w.heap.size, j, none⟩ = false := fun j => (hbr.frozen (by rw [hs0.out]; simp)).trans (zf.out j)
    have zf1 := zf0 0
    have zf2 := zf0 1
    have zf3 := zf0 2
    have hc5 := hR.c5
    have hkz : (0 : Int) ≤ (kk : Int) := by omega
    replace zf0 := Lib.hid zf0
    rcases hst with ⟨hf0, hG, hRel, hol, hp⟩ | ⟨hf, hfin⟩
    · rw [hf0] at hc5
      by_cases hlt : kk < l.length
      · have hltz : (kk : Int) < (l.length : Int) := by omega
        have hp2 := hp.out
        rw [List.drop_eq_getElem_cons hlt] at hp2
        have hz := List.getElem?_eq_getElem hlt
        generalize l[kk] = x at hz hp2
        obtain ⟨nm, A, B⟩ := x
        obtain ⟨j, ar, re, hj, hA, hBr, _, hB2⟩ := hok.out _ (List.mem_of_getElem? hz)
        dsimp only at hj hA hBr hB2
        obtain ⟨bb, off, rfl, h0, h1, h2⟩ := ((hL.out.below hb0).below hbr).cell kk nm A B hz
        clear hz
        obtain ⟨op, hop, hact⟩ := hp2
        obtain ⟨j', hj'⟩ := T_mem hop
        have e1 := (idx_calls .set j _ hj).1
        have e2 := (idx_calls .set j' _ hj').1
        dsimp only at e1 e2
        obtain rfl : j = j' := by have := e1.symm.trans e2; omega
        rw [hj] at hj'
        obtain ⟨rfl, rfl⟩ : ar = argO op ∧ re = resO op := by cases hj'; exact ⟨rfl, rfl⟩
        clear e1 e2 hj'
        have hG' := good_act op s kk A B hG (by omega) hA hBr
        have hd : Calls Tryz.prog 23 #[PB b, CL nm A B] wr _ := ref_ops .set _ hop b s kk r lL lK lO wr A B hG hRel (by omega) hA hBr hB2 hR
        have hst := act_stops op s A B
        replace hst := Lib.hid hst
        replace hj := Lib.hid hj
        go_wp2_with fail
        obtain ⟨s', oo, hao⟩ : ∃ s' oo, act op s A B = (s', oo) := ⟨_, _, rfl⟩
        rw [hao] at hact hd hG' hst
        refine hd.mono ?_
        rintro e w4 ⟨rfl, r', ⟨k1, l1, l2, l3, r1, fz⟩, hAf⟩
        have hb4 : Below W0.heap.size W0 w4 := hbr.trans ((k1.below hbr.size hFR).mono (Nat.le_refl _))
        have hF4 : ∀ k, FR b l1 l2 l3 k → W0.heap.size ≤ k := fun k hk => by
          by_cases h : k < wr.heap.size
          · exact hFR k (fz k h hk)
          · have := hbr.size; omega
        have hc6 := r1.c6
        unfold After at hAf
        clear hd h0 h1 h2
        cases oo with
        | ret v =>
          obtain ⟨hRel', ho2, hf2, hl2⟩ := hAf
          rw [hlong] at hl2
          rw [hf0] at hf2
          rw [hl2] at hc6
          dsimp only at hRel' ho2
          have hpl : Hid (Plays .set (l.drop (kk + 1)) s' r'.out o' f e0) := Lib.hid (by rw [ho2]; simpa using hact)
          have hol' : r'.out.length ≤ kk + 1 := by rw [ho2]; split <;> simp <;> omega
          replace hRel' := Lib.hid hRel'
          replace ho2 := Lib.hid ho2
          clear hRel hact hG hp hst
          go_wp2_with fail
          go_roundg (l.length - (kk + 1))
          case measure => omega
          case rel => exact ⟨kk + 1, s', r', l1, l2, l3, by omega, by omega, by go_num, r1, hb4, hF4, hl2, .inl ⟨hf2, hG', hRel'.out, hol', hpl⟩⟩
        | stop fa er =>
          by_cases he : er = 0
          · subst he
            have hfa : fa ≠ 0 := by rcases hst.out with h | h; exact h.2; cases h
            have hact2 : o' = r.out ∧ f = fa ∧ e0 = 0 := by simpa using hact
            obtain ⟨hf2, ho2, hl2⟩ : r'.fault = fa ∧ r'.out = r.out ∧ r'.long = r.long := by simpa using hAf
            rw [hlong] at hl2
            rw [hl2] at hc6
            have hfin : Hid (o' = r'.out ∧ f = r'.fault ∧ e0 = 0) := Lib.hid (by rw [ho2, hf2]; exact hact2)
            have hff : r'.fault ≠ 0 := by rw [hf2]; exact hfa
            replace hf2 := Lib.hid hf2
            replace ho2 := Lib.hid ho2
            clear hRel hact hact2 hAf hG hp hst hfa
            go_wp2_with fail
            go_roundg (l.length - (kk + 1))
            case measure => omega
            case rel => exact ⟨kk + 1, s', r', l1, l2, l3, by omega, by omega, by go_num, r1, hb4, hF4, hl2, .inr ⟨hff, hfin⟩⟩
          · obtain rfl : er = 3 := by rcases hst.out with h | h; exact absurd h.1 he; exact h
            have hact2 : o' = [] ∧ f = 0 ∧ e0 = 3 := by simpa using hact
            obtain ⟨rfl, rfl, rfl⟩ := hact2
            have hl2 : r'.long = true := by simpa using hAf
            rw [hl2] at hc6
            have y1 := (k1.cell_some z1 (fun e => by have := hFR _ e; rw [hs0.out] at this; dsimp only at this; omega))
            have y2 := (k1.cell_some z2 (fun e => by have := hFR _ e; rw [hs0.out] at this; dsimp only at this; omega))
            have y3 := (k1.cell_some z3 (fun e => by have := hFR _ e; rw [hs0.out] at this; dsimp only at this; omega))
            have hsw : w.heap.size < wr.heap.size := World.block_lt_of_cell? wr _ z1
            have yf : ∀ j, w4.frozen? ⟨w.heap.size, j, none⟩ = false := fun j => (k1.frozen (p := ⟨w.heap.size, j, none⟩) hsw (fun e => by have := hFR _ e; rw [hs0.out] at this; dsimp only at this; omega)).trans (zf0.out j)
            have yf1 := yf 0
            have yf2 := yf 1
            have yf3 := yf 2
            have hb5 := Lib.hid (hb0.trans (hb4.mono hb0.size))
            clear hRel hact hAf hG hp hst hl2 yf he
            go_wp2_with fail
            refine bodyPost_ret (v := .agg #[.slice none 0 0, I 0, I 3]) (by simp [results, Tryz.results7, go_sem, y1, y2, y3]) rfl ?_
            exact ⟨_, none, rfl, OwnI.nil _, ((hb5.out.setCell (by simp) _).setCell (by simp) _).setCell (by simp) _⟩
      · have hltz : ¬ (kk : Int) < (l.length : Int) := by omega
        have hp2 := hp.out
        rw [List.drop_eq_nil_of_le (by omega)] at hp2
        obtain ⟨rfl, rfl, rfl⟩ := hp2
        clear hRel hG
        obtain ⟨v4, hc4, ho4⟩ := hR.c4
        obtain ⟨a4, c4, rfl, _⟩ := ho4.form
        go_wp2_with fail
        refine wp_region_live 9 (fun V => V.cell? ⟨b, 4, none⟩ = some (.slice a4 r.out.length c4) ∧ V.cell? ⟨b, 5, none⟩ = some (I 0)) (by kernel_rfl) ⟨hc4, hc5⟩ (fun hHeld => ?_)
        refine wpAnyT_take (i := 0) (oi := _) (v := ?_) rfl (by kernel_rfl) (by kernel_rfl) (by kernel_rfl) (by kernel_rfl) (by kernel_rfl) (fun _ _ _ h => h) (Or.inl ⟨by rfl, ?_⟩) (by with_reducible assumption) ?_
        rotate_left
        · (intro V hSw; obtain ⟨s1, s2⟩ := hSw; go_simp); with_reducible rfl
        try simp only [Act.put, List.setIfInBounds_toArray, List.set_cons_zero, List.set_cons_succ]
        refine wpAnyT_take (i := 1) (oi := _) (v := ?_) rfl (by kernel_rfl) (by kernel_rfl) (by kernel_rfl) (by kernel_rfl) (by kernel_rfl) (fun _ _ _ h => h) (Or.inl ⟨by rfl, ?_⟩) (by with_reducible assumption) ?_
        rotate_left
        · (intro V hSw; obtain ⟨s1, s2⟩ := hSw; go_simp); with_reducible rfl
        try simp only [Act.put, List.setIfInBounds_toArray, List.set_cons_zero, List.set_cons_succ]
        refine wpAnyT_take (i := 2) (oi := _) (v := ?_) rfl (by kernel_rfl) (by kernel_rfl) (by kernel_rfl) (by kernel_rfl) (by kernel_rfl) (fun _ _ _ h => h) (Or.inl ⟨by rfl, ?_⟩) (by with_reducible assumption) ?_
        rotate_left
        · (intro V hSw; obtain ⟨s1, s2⟩ := hSw; go_simp); with_reducible rfl
        try simp only [Act.put, List.setIfInBounds_toArray, List.set_cons_zero, List.set_cons_succ]
        refine wpAnyT_take (i := 3) (oi := _) (v := ?_) rfl (by kernel_rfl) (by kernel_rfl) (by kernel_rfl) (by kernel_rfl) (by kernel_rfl) (fun _ _ _ h => h) (Or.inl ⟨by rfl, ?_⟩) (by with_reducible assumption) ?_
        rotate_left
        · (intro V hSw; obtain ⟨s1, s2⟩ := hSw; go_simp); with_reducible rfl
        try simp only [Act.put, List.setIfInBounds_toArray, List.set_cons_zero, List.set_cons_succ]
        refine wpAnyT_take (i := 4) (oi := _) (v := ?_) rfl (by kernel_rfl) (by kernel_rfl) (by kernel_rfl) (by kernel_rfl) (by kernel_rfl) (fun _ _ _ h => h) (Or.inl ⟨by rfl, ?_⟩) (by with_reducible assumption) ?_
        rotate_left
        · (intro V hSw; obtain ⟨s1, s2⟩ := hSw; go_simp); with_reducible rfl
        try simp only [Act.put, List.setIfInBounds_toArray, List.set_cons_zero, List.set_cons_succ]
        refine wpAnyT_take (i := 5) (oi := _) (v := ?_) rfl (by kernel_rfl) (by kernel_rfl) (by kernel_rfl) (by kernel_rfl) (by kernel_rfl) (fun _ _ _ h => h) (Or.inl ⟨by rfl, ?_⟩) (by with_reducible assumption) ?_
        rotate_left
        · (intro V hSw; obtain ⟨s1, s2⟩ := hSw; go_simp); with_reducible rfl
        try simp only [Act.put, List.setIfInBounds_toArray, List.set_cons_zero, List.set_cons_succ]
        refine wpAnyT_take (i := 6) (oi := _) (v := ?_) rfl (by kernel_rfl) (by kernel_rfl) (by kernel_rfl) (by kernel_rfl) (by kernel_rfl) (fun _ _ _ h => h) (Or.inl ⟨by rfl, ?_⟩) (by with_reducible assumption) ?_
        rotate_left
        · (intro V hSw; obtain ⟨s1, s2⟩ := hSw; go_simp); with_reducible rfl
        try simp only [Act.put, List.setIfInBounds_toArray, List.set_cons_zero, List.set_cons_succ]
        refine wpAnyT_take (i := 7) (oi := _) (v := ?_) rfl (by kernel_rfl) (by kernel_rfl) (by kernel_rfl) (by kernel_rfl) (by kernel_rfl) (fun _ _ _ h => h) (Or.inl ⟨by rfl, ?_⟩) (by with_reducible assumption) ?_
        rotate_left
        · (intro V hSw; obtain ⟨s1, s2⟩ := hSw; go_simp); with_reducible rfl
        try simp only [Act.put, List.setIfInBounds_toArray, List.set_cons_zero, List.set_cons_succ]
        refine wpAnyT_take (i := 8) (oi := _) (v := ?_) rfl (by kernel_rfl) (by kernel_rfl) (by kernel_rfl) (by kernel_rfl) (by kernel_rfl) (fun _ _ _ h => h) (Or.inl ⟨by rfl, ?_⟩) (by with_reducible assumption) ?_
        rotate_left
        · (intro V hSw; obtain ⟨s1, s2⟩ := hSw; go_simp); with_reducible rfl
        try simp only [Act.put, List.setIfInBounds_toArray, List.set_cons_zero, List.set_cons_succ]
        refine wpAnyT_ready (rs := [9]) (by kernel_rfl) (by simp) ?_
        refine AllReadyT.dead (o := _) rfl (by kernel_rfl) (fun K hK => ?_) AllReadyT.nil
        go_simp
        refine hK.out _ _ ?_
        clear hK K
        try simp only [Act.put, List.setIfInBounds_toArray, List.set_cons_zero, List.set_cons_succ]
        refine wpAnyT_done (by kernel_rfl) ?_ _
        go_wp2_with fail
        refine bodyPost_ret (v := .agg #[.slice a4 r.out.length c4, I 0, I 0]) (by simp [results, Tryz.results7, go_sem, z1, z2, z3]) rfl ?_
        have hno : lO ≠ some w.heap.size := fun e => by have := hFR _ (.inr (.inr (.inr e))); rw [hs0.out] at this; omega
        exact ⟨_, lO, rfl, (((ho4.setCell hno _).setCell hno _).setCell hno _).drew, (((hb0.trans (hbr.mono hb0.size)).setCell (by simp) _).setCell (by simp) _ |>.setCell (by simp) _).drew⟩
    · have hfb : (r.fault == 0) = false := by simpa using hf
      by_cases hlt : kk < l.length
      · have hltz : (kk : Int) < (l.length : Int) := by omega
        obtain ⟨v4, hc4, ho4⟩ := hR.c4
        obtain ⟨a4, c4, rfl, _⟩ := ho4.form
        go_wp2_with fail
        refine wp_region_live 9 (fun V => V.cell? ⟨b, 4, none⟩ = some (.slice a4 r.out.length c4) ∧ V.cell? ⟨b, 5, none⟩ = some (I r.fault)) (by kernel_rfl) ⟨hc4, hc5⟩ (fun hHeld => ?_)
        refine wpAnyT_take (i := 0) (oi := _) (v := ?_) rfl (by kernel_rfl) (by kernel_rfl) (by kernel_rfl) (by kernel_rfl) (by kernel_rfl) (fun _ _ _ h => h) (Or.inl ⟨by rfl, ?_⟩) (by with_reducible assumption) ?_
        rotate_left
        · (intro V hSw; obtain ⟨s1, s2⟩ := hSw; go_simp); with_reducible rfl
        try simp only [Act.put, List.setIfInBounds_toArray, List.set_cons_zero, List.set_cons_succ]
        refine wpAnyT_take (i := 1) (oi := _) (v := ?_) rfl (by kernel_rfl) (by kernel_rfl) (by kernel_rfl) (by kernel_rfl) (by kernel_rfl) (fun _ _ _ h => h) (Or.inl ⟨by rfl, ?_⟩) (by with_reducible assumption) ?_
        rotate_left
        · (intro V hSw; obtain ⟨s1, s2⟩ := hSw; go_simp); with_reducible rfl
        try simp only [Act.put, List.setIfInBounds_toArray, List.set_cons_zero, List.set_cons_succ]
        refine wpAnyT_take (i := 2) (oi := _) (v := ?_) rfl (by kernel_rfl) (by kernel_rfl) (by kernel_rfl) (by kernel_rfl) (by kernel_rfl) (fun _ _ _ h => h) (Or.inl ⟨by rfl, ?_⟩) (by with_reducible assumption) ?_
        rotate_left
        · (intro V hSw; obtain ⟨s1, s2⟩ := hSw; go_simp); with_reducible rfl
        try simp only [Act.put, List.setIfInBounds_toArray, List.set_cons_zero, List.set_cons_succ]
        refine wpAnyT_take (i := 3) (oi := _) (v := ?_) rfl (by kernel_rfl) (by kernel_rfl) (by kernel_rfl) (by kernel_rfl) (by kernel_rfl) (fun _ _ _ h => h) (Or.inl ⟨by rfl, ?_⟩) (by with_reducible assumption) ?_
        rotate_left
        · (intro V hSw; obtain ⟨s1, s2⟩ := hSw; go_simp); with_reducible rfl
        try simp only [Act.put, List.setIfInBounds_toArray, List.set_cons_zero, List.set_cons_succ]
        refine wpAnyT_take (i := 4) (oi := _) (v := ?_) rfl (by kernel_rfl) (by kernel_rfl) (by kernel_rfl) (by kernel_rfl) (by kernel_rfl) (fun _ _ _ h => h) (Or.inl ⟨by rfl, ?_⟩) (by with_reducible assumption) ?_
        rotate_left
        · (intro V hSw; obtain ⟨s1, s2⟩ := hSw; go_simp); with_reducible rfl
        try simp only [Act.put, List.setIfInBounds_toArray, List.set_cons_zero, List.set_cons_succ]
        refine wpAnyT_take (i := 5) (oi := _) (v := ?_) rfl (by kernel_rfl) (by kernel_rfl) (by kernel_rfl) (by kernel_rfl) (by kernel_rfl) (fun _ _ _ h => h) (Or.inl ⟨by rfl, ?_⟩) (by with_reducible assumption) ?_
        rotate_left
        · (intro V hSw; obtain ⟨s1, s2⟩ := hSw; go_simp); with_reducible rfl
        try simp only [Act.put, List.setIfInBounds_toArray, List.set_cons_zero, List.set_cons_succ]
        refine wpAnyT_take (i := 6) (oi := _) (v := ?_) rfl (by kernel_rfl) (by kernel_rfl) (by kernel_rfl) (by kernel_rfl) (by kernel_rfl) (fun _ _ _ h => h) (Or.inl ⟨by rfl, ?_⟩) (by with_reducible assumption) ?_
        rotate_left
        · (intro V hSw; obtain ⟨s1, s2⟩ := hSw; go_simp); with_reducible rfl
        try simp only [Act.put, List.setIfInBounds_toArray, List.set_cons_zero, List.set_cons_succ]
        refine wpAnyT_take (i := 7) (oi := _) (v := ?_) rfl (by kernel_rfl) (by kernel_rfl) (by kernel_rfl) (by kernel_rfl) (by kernel_rfl) (fun _ _ _ h => h) (Or.inl ⟨by rfl, ?_⟩) (by with_reducible assumption) ?_
        rotate_left
        · (intro V hSw; obtain ⟨s1, s2⟩ := hSw; go_simp); with_reducible rfl
        try simp only [Act.put, List.setIfInBounds_toArray, List.set_cons_zero, List.set_cons_succ]
        refine wpAnyT_take (i := 8) (oi := _) (v := ?_) rfl (by kernel_rfl) (by kernel_rfl) (by kernel_rfl) (by kernel_rfl) (by kernel_rfl) (fun _ _ _ h => h) (Or.inl ⟨by rfl, ?_⟩) (by with_reducible assumption) ?_
        rotate_left
        · (intro V hSw; obtain ⟨s1, s2⟩ := hSw; go_simp); with_reducible rfl
        try simp only [Act.put, List.setIfInBounds_toArray, List.set_cons_zero, List.set_cons_succ]
        refine wpAnyT_ready (rs := [9]) (by kernel_rfl) (by simp) ?_
        refine AllReadyT.dead (o := _) rfl (by kernel_rfl) (fun K hK => ?_) AllReadyT.nil
        go_simp
        refine hK.out _ _ ?_
        clear hK K
        try simp only [Act.put, List.setIfInBounds_toArray, List.set_cons_zero, List.set_cons_succ]
        refine wpAnyT_done (by kernel_rfl) ?_ _
        go_wp2_with fail
        refine bodyPost_ret (v := .agg #[.slice a4 r.out.length c4, I r.fault, I 0]) (by simp [results, Tryz.results7, go_sem, z1, z2, z3]) rfl ?_
        obtain ⟨rfl, rfl, rfl⟩ := hfin.out
        have hno : lO ≠ some w.heap.size := fun e => by have := hFR _ (.inr (.inr (.inr e))); rw [hs0.out] at this; omega
        exact ⟨_, lO, rfl, (((ho4.setCell hno _).setCell hno _).setCell hno _).drew, (((hb0.trans (hbr.mono hb0.size)).setCell (by simp) _).setCell (by simp) _ |>.setCell (by simp) _).drew⟩
      · have hltz : ¬ (kk : Int) < (l.length : Int) := by omega
        obtain ⟨v4, hc4, ho4⟩ := hR.c4
        obtain ⟨a4, c4, rfl, _⟩ := ho4.form
        go_wp2_with fail
        refine wp_region_live 9 (fun V => V.cell? ⟨b, 4, none⟩ = some (.slice a4 r.out.length c4) ∧ V.cell? ⟨b, 5, none⟩ = some (I r.fault)) (by kernel_rfl) ⟨hc4, hc5⟩ (fun hHeld => ?_)
        refine wpAnyT_take (i := 0) (oi := _) (v := ?_) rfl (by kernel_rfl) (by kernel_rfl) (by kernel_rfl) (by kernel_rfl) (by kernel_rfl) (fun _ _ _ h => h) (Or.inl ⟨by rfl, ?_⟩) (by with_reducible assumption) ?_
        rotate_left
        · (intro V hSw; obtain ⟨s1, s2⟩ := hSw; go_simp); with_reducible rfl
        try simp only [Act.put, List.setIfInBounds_toArray, List.set_cons_zero, List.set_cons_succ]
        refine wpAnyT_take (i := 1) (oi := _) (v := ?_) rfl (by kernel_rfl) (by kernel_rfl) (by kernel_rfl) (by kernel_rfl) (by kernel_rfl) (fun _ _ _ h => h) (Or.inl ⟨by rfl, ?_⟩) (by with_reducible assumption) ?_
        rotate_left
        · (intro V hSw; obtain ⟨s1, s2⟩ := hSw; go_simp); with_reducible rfl
        try simp only [Act.put, List.setIfInBounds_toArray, List.set_cons_zero, List.set_cons_succ]
        refine wpAnyT_take (i := 2) (oi := _) (v := ?_) rfl (by kernel_rfl) (by kernel_rfl) (by kernel_rfl) (by kernel_rfl) (by kernel_rfl) (fun _ _ _ h => h) (Or.inl ⟨by rfl, ?_⟩) (by with_reducible assumption) ?_
        rotate_left
        · (intro V hSw; obtain ⟨s1, s2⟩ := hSw; go_simp); with_reducible rfl
        try simp only [Act.put, List.setIfInBounds_toArray, List.set_cons_zero, List.set_cons_succ]
        refine wpAnyT_take (i := 3) (oi := _) (v := ?_) rfl (by kernel_rfl) (by kernel_rfl) (by kernel_rfl) (by kernel_rfl) (by kernel_rfl) (fun _ _ _ h => h) (Or.inl ⟨by rfl, ?_⟩) (by with_reducible assumption) ?_
        rotate_left
        · (intro V hSw; obtain ⟨s1, s2⟩ := hSw; go_simp); with_reducible rfl
        try simp only [Act.put, List.setIfInBounds_toArray, List.set_cons_zero, List.set_cons_succ]
        refine wpAnyT_take (i := 4) (oi := _) (v := ?_) rfl (by kernel_rfl) (by kernel_rfl) (by kernel_rfl) (by kernel_rfl) (by kernel_rfl) (fun _ _ _ h => h) (Or.inl ⟨by rfl, ?_⟩) (by with_reducible assumption) ?_
        rotate_left
        · (intro V hSw; obtain ⟨s1, s2⟩ := hSw; go_simp); with_reducible rfl
        try simp only [Act.put, List.setIfInBounds_toArray, List.set_cons_zero, List.set_cons_succ]
        refine wpAnyT_take (i := 5) (oi := _) (v := ?_) rfl (by kernel_rfl) (by kernel_rfl) (by kernel_rfl) (by kernel_rfl) (by kernel_rfl) (fun _ _ _ h => h) (Or.inl ⟨by rfl, ?_⟩) (by with_reducible assumption) ?_
        rotate_left
        · (intro V hSw; obtain ⟨s1, s2⟩ := hSw; go_simp); with_reducible rfl
        try simp only [Act.put, List.setIfInBounds_toArray, List.set_cons_zero, List.set_cons_succ]
        refine wpAnyT_take (i := 6) (oi := _) (v := ?_) rfl (by kernel_rfl) (by kernel_rfl) (by kernel_rfl) (by kernel_rfl) (by kernel_rfl) (fun _ _ _ h => h) (Or.inl ⟨by rfl, ?_⟩) (by with_reducible assumption) ?_
        rotate_left
        · (intro V hSw; obtain ⟨s1, s2⟩ := hSw; go_simp); with_reducible rfl
        try simp only [Act.put, List.setIfInBounds_toArray, List.set_cons_zero, List.set_cons_succ]
        refine wpAnyT_take (i := 7) (oi := _) (v := ?_) rfl (by kernel_rfl) (by kernel_rfl) (by kernel_rfl) (by kernel_rfl) (by kernel_rfl) (fun _ _ _ h => h) (Or.inl ⟨by rfl, ?_⟩) (by with_reducible assumption) ?_
        rotate_left
        · (intro V hSw; obtain ⟨s1, s2⟩ := hSw; go_simp); with_reducible rfl
        try simp only [Act.put, List.setIfInBounds_toArray, List.set_cons_zero, List.set_cons_succ]
        refine wpAnyT_take (i := 8) (oi := _) (v := ?_) rfl (by kernel_rfl) (by kernel_rfl) (by kernel_rfl) (by kernel_rfl) (by kernel_rfl) (fun _ _ _ h => h) (Or.inl ⟨by rfl, ?_⟩) (by with_reducible assumption) ?_
        rotate_left
        · (intro V hSw; obtain ⟨s1, s2⟩ := hSw; go_simp); with_reducible rfl
        try simp only [Act.put, List.setIfInBounds_toArray, List.set_cons_zero, List.set_cons_succ]
        refine wpAnyT_ready (rs := [9]) (by kernel_rfl) (by simp) ?_
        refine AllReadyT.dead (o := _) rfl (by kernel_rfl) (fun K hK => ?_) AllReadyT.nil
        go_simp
        refine hK.out _ _ ?_
        clear hK K
        try simp only [Act.put, List.setIfInBounds_toArray, List.set_cons_zero, List.set_cons_succ]
        refine wpAnyT_done (by kernel_rfl) ?_ _
        go_wp2_with fail
        refine bodyPost_ret (v := .agg #[.slice a4 r.out.length c4, I r.fault, I 0]) (by simp [results, Tryz.results7, go_sem, z1, z2, z3]) rfl ?_
        obtain ⟨rfl, rfl, rfl⟩ := hfin.out
        have hno : lO ≠ some w.heap.size := fun e => by have := hFR _ (.inr (.inr (.inr e))); rw [hs0.out] at this; omega
        exact ⟨_, lO, rfl, (((ho4.setCell hno _).setCell hno _).setCell hno _).drew, (((hb0.trans (hbr.mono hb0.size)).setCell (by simp) _).setCell (by simp) _ |>.setCell (by simp) _).drew⟩
end Go.Proofs.Bm
