/- insert. No condition but the model's. -/
import Derived.Test.YtipdlkncacjahaaGreatDoorBD3
import Derived.Deep.RegionHeld3
import Derived.Handy
set_option linter.unusedSimpArgs false
set_option linter.unusedVariables false
namespace Go.Proofs.Bm
open Go.RowKit Go.Maps
variable {n q : Nat} {L : List (ByteArray × Value)} {Q : List Value} {s : St} {lk : Option Nat} {W : World}

/-- Where the first number stands that is not below a. -/
def low? (a : Int) : List Int → Option Nat
  | [] => none
  | y :: r => if a ≤ y then some 0 else (low? a r).map (· + 1)
def lowI (a : Int) (xs : List Int) : Int := match low? a xs with | some i => i | none => -1
theorem low?_hit {a : Int} : ∀ {xs : List Int} {k : Nat}, (∀ j, j < k → ∃ y, xs[j]? = some y ∧ y < a) → (∃ y, xs[k]? = some y ∧ a ≤ y) → low? a xs = some k
  | [], k, _, ⟨y, h, _⟩ => by simp at h
  | y :: r, 0, _, ⟨z, h, hz⟩ => by simp at h; subst h; simp [low?, hz]
  | y :: r, k + 1, hm, ⟨z, h, hz⟩ => by
    obtain ⟨y', hy, hny⟩ := hm 0 (by omega)
    simp at hy
    subst hy
    rw [low?, if_neg (by omega), low?_hit (k := k) (fun j hj => by simpa using hm (j + 1) (by omega)) ⟨z, by simpa using h, hz⟩]
    rfl
theorem low?_miss {a : Int} : ∀ {xs : List Int}, (∀ (j : Nat) (y : Int), xs[j]? = some y → ¬ a ≤ y) → low? a xs = none
  | [], _ => rfl
  | y :: r, hm => by
    rw [low?, if_neg (hm 0 y rfl), low?_miss (xs := r) (fun j z hj => hm (j + 1) z (by simpa using hj))]
    rfl
theorem low?_lt {a : Int} : ∀ {xs : List Int} {k : Nat}, low? a xs = some k → k < xs.length
  | y :: r, k, h => by
    rw [low?] at h
    split at h
    · simp at h; subst h; simp
    · cases hr : low? a r with
      | none => simp [hr] at h
      | some j => simp [hr] at h; subst h; have := low?_lt hr; simp; omega

set_option maxHeartbeats 2000000 in
theorem indexFunc_own {w : World} {v : Value} {k : Option Nat} {xs : List Int} (h : OwnI w v k xs) (c : Nat) (a : Int) (hca : w.cell? ⟨c, 0, none⟩ = some (I a)) :
    Calls Tryz.prog 102 #[v, .func (.func 103) #[] #[.pointer (some ⟨c, 0, none⟩)]] w fun e w' => e = .returned (I (lowI a xs)) ∧ w' = w := by
  rcases h.cases with ⟨rfl, rfl, rfl⟩ | ⟨b, off, cap, rfl, rfl⟩
  · go_enter Tryz.func102, Tryz.ntmps102
    go_wp2
    go_loopg [5, 8] 0 (fun _ _ s8 wr => s8 = I 0 ∧ wr = w)
    case atStart => exact ⟨rfl, rfl⟩
    case round =>
      obtain ⟨rfl, rfl⟩ := hrel
      go_wp2
      go_ret
      exact ⟨rfl, rfl⟩
  · have h2 := h.row.2.2.1
    have h3 := h.row.2.2.2.1
    simp only [maxLen] at h3
    have hC := Lib.hid (fun (j : Nat) (z : Int) (hj : xs[j]? = some z) => h.cell hj)
    clear h
    go_enter Tryz.func102, Tryz.ntmps102
    go_wp2
    go_loopg [5, 8] xs.length (fun gg _ s8 wr => ∃ kk : Nat, kk ≤ xs.length ∧ xs.length - kk ≤ gg ∧ s8 = I kk ∧ wr = w ∧ Hid (∀ j, j < kk → ∃ y, xs[j]? = some y ∧ y < a))
    case atStart => exact ⟨0, Nat.zero_le _, Nat.le_refl _, rfl, rfl, Lib.hid fun j hj => absurd hj (Nat.not_lt_zero _)⟩
    case round =>
      obtain ⟨kk, hkk, hg, rfl, rfl, A⟩ := hrel
      by_cases hlt : kk < xs.length
      · have hltz : (kk : Int) < (xs.length : Int) := by omega
        have hz := List.getElem?_eq_getElem hlt
        generalize xs[kk] = z at hz
        have hcell := hC.out kk z hz
        have hz' := Lib.hid hz
        clear hz
        by_cases hq : a ≤ z
        · go_wp2_with (go_at_call 103; refine (pred103 c a z _ hca).mono ?_; rintro e w' ⟨rfl, rfl⟩)
          go_ret
          refine ⟨?_, rfl⟩
          rw [lowI, low?_hit A.out ⟨z, hz'.out, hq⟩]
          rfl
        · go_wp2_with (go_at_call 103; refine (pred103 c a z _ hca).mono ?_; rintro e w' ⟨rfl, rfl⟩)
          go_roundg (xs.length - (kk + 1))
          case measure => omega
          case rel =>
            refine ⟨kk + 1, by omega, by omega, by go_num, rfl, Lib.hid fun j hj => ?_⟩
            by_cases e : j = kk
            · subst e; exact ⟨z, hz'.out, by omega⟩
            · exact A.out j (by omega)
      · have hltz : ¬ (kk : Int) < (xs.length : Int) := by omega
        have e : kk = xs.length := by omega
        have hlow : lowI a xs = -1 := by
          rw [lowI, low?_miss]
          intro j y hj
          obtain ⟨y', h1, h2⟩ := A.out j (by have := (List.getElem?_eq_some_iff.1 hj).1; omega)
          rw [h1] at hj; cases hj; omega
        replace hlow := Lib.hid hlow
        go_wp2
        go_ret
        rw [hlow.out]
        exact ⟨rfl, rfl⟩
end Go.Proofs.Bm

namespace Go.Proofs.Bm
open Go.RowKit Go.Maps
variable {n q : Nat} {L : List (ByteArray × Value)} {Q : List Value} {s : St} {lk : Option Nat} {W : World}


/-- insert puts the number there, or at the end. -/
def insL (a : Int) (xs : List Int) : List Int := match low? a xs with | some i => xs.take i ++ a :: xs.drop i | none => xs ++ [a]
/-- Ahead of the walk: the place. -/
theorem ins_place (a : Int) (xs : List Int) : (∃ i : Nat, i ≤ xs.length ∧ ((lowI a xs = (i : Int)) ∨ (lowI a xs = -1 ∧ i = xs.length)) ∧ insL a xs = xs.take i ++ a :: xs.drop i) := by
  unfold lowI insL
  cases h : low? a xs with
  | some i => exact ⟨i, Nat.le_of_lt (low?_lt h), .inl rfl, rfl⟩
  | none => exact ⟨xs.length, Nat.le_refl _, .inr ⟨rfl, rfl⟩, by simp⟩

set_option maxRecDepth 100000 in
set_option maxHeartbeats 4000000 in
theorem d_insert_at (hM : MS n L Q s q lk W) (hn : s.l.length ≤ 1000) (x y : Int) (i : Nat) (hi : i ≤ s.l.length) (hp : (lowI x s.l = (i : Int)) ∨ (lowI x s.l = -1 ∧ i = s.l.length)) : Calls Tryz.prog 43 #[P1 n, I x, I y] W fun e w' => Ends n L Q { s with l := s.l.take i ++ x :: s.l.drop i } q lk W (.ret 0) N0 e w' := by
  obtain ⟨lv, hc, ho⟩ := hM.c0
  have hlt : n + 1 < W.heap.size := World.block_lt_of_cell? W _ hc
  have hf := hM.f 0
  have hsz := hM.size
  have hmf : ∀ (fn : Fn) (first cap : Array Value) (w : World), (Instr.makeFunc fn first cap).run Tryz.prog w = .ok (.func fn first cap) w := fun _ _ _ _ => rfl
  obtain ⟨V, hV⟩ : ∃ V, V = W.alloc (.cells #[I x] 3) := ⟨_, rfl⟩
  have hKV : Kept (fun _ => False) W V := by rw [hV]; exact (Kept.refl _ W).alloc _
  have hVs : V.heap.size = W.heap.size + 1 := by rw [hV]; simp
  have gx : V.cell? ⟨W.heap.size, 0, none⟩ = some (I x) := by rw [hV]; exact cell_new1 _ _ _
  have gc := hKV.cell_some hc (fun e => e)
  have gf := (hKV.frozen (p := ⟨n + 1, 0, none⟩) hlt (fun e => e)).trans hf
  have hoV : OwnI V lv lk s.l := ho.kept hKV (fun _ _ e => e)
  have ix := indexFunc_own hoV W.heap.size x gx
  have hls : lk ≠ some (W.heap.size + 1) := fun e => by have := hM.lt _ e; omega
  have ht := insert_own (w := (V.alloc (.cells #[I x] 3)).drew) (hoV.alloc (.cells #[I x] 3)) i hi (by omega) x (W.heap.size + 1) 1 #[I x] (by show (V.alloc _).heap[_]? = _; rw [heap_alloc]; exact if_pos hVs.symm) rfl hls
  obtain ⟨a0, cap0, rfl, _⟩ := ho.form
  replace hV := Lib.hid hV
  have hlen : (s.l.take i ++ x :: s.l.drop i).length = i + (s.l.length - i + 1) := by simp [Nat.min_eq_left hi]
  rcases hp with h | ⟨h1, h2⟩
  · rw [h] at ix
    have hpos : (0 : Int) ≤ (i : Int) := by omega
    have hneg : ¬ (i : Int) < 0 := by omega
    go_enter Tryz.func43, Tryz.ntmps43
    go_wp2_with (go_at_call 102; rw [← hV.out]; refine ix.mono ?_; rintro e w' ⟨rfl, hw'⟩; rw [hw']; clear hw' w')
    refine wp_region_held_drew (S := fun _ => True) (by kernel_rfl) trivial (fun _ => ?_)
    have gc1 : V.drew.cell? ⟨n + 1, 0, none⟩ = some (.slice a0 s.l.length cap0) := gc
    have gx1 : V.drew.cell? ⟨W.heap.size, 0, none⟩ = some (I x) := gx
    refine wpAnyH_take (i := 0) (oi := _) (v := ?_) rfl (by kernel_rfl) (by kernel_rfl) (by kernel_rfl) (fun _ _ _ h => h) (Or.inl ⟨by rfl, ?_⟩) trivial ?_
    rotate_left
    · (intro V' hSw; clear hSw; go_simp); with_reducible rfl
    try simp only [Act.put, List.setIfInBounds_toArray, List.set_cons_zero, List.set_cons_succ]
    refine wpAnyH_take (i := 1) (oi := _) (v := ?_) rfl (by kernel_rfl) (by kernel_rfl) (by kernel_rfl) (fun _ _ _ h => h) (Or.inl ⟨by rfl, ?_⟩) trivial ?_
    rotate_left
    · (intro V' hSw; clear hSw; go_simp); with_reducible rfl
    try simp only [Act.put, List.setIfInBounds_toArray, List.set_cons_zero, List.set_cons_succ]
    refine wpAnyH_take (i := 2) (oi := _) (v := ?_) rfl (by kernel_rfl) (by kernel_rfl) (by kernel_rfl) (fun _ _ _ h => h) (Or.inl ⟨by rfl, ?_⟩) trivial ?_
    rotate_left
    · (intro V' hSw; clear hSw; go_simp); with_reducible rfl
    try simp only [Act.put, List.setIfInBounds_toArray, List.set_cons_zero, List.set_cons_succ]
    refine wpAnyH_take (i := 3) (oi := _) (v := ?_) rfl (by kernel_rfl) (by kernel_rfl) (by kernel_rfl) (fun _ _ _ h => h) (Or.inl ⟨by rfl, ?_⟩) trivial ?_
    rotate_left
    · (intro V' hSw; clear hSw; go_simp); with_reducible rfl
    try simp only [Act.put, List.setIfInBounds_toArray, List.set_cons_zero, List.set_cons_succ]
    refine wpAnyH_take (i := 5) (oi := _) (v := ?_) rfl (by kernel_rfl) (by kernel_rfl) (by kernel_rfl) (fun _ _ _ h => h) (Or.inl ⟨by rfl, ?_⟩) trivial ?_
    rotate_left
    · (intro V' hSw; clear hSw; go_simp); with_reducible rfl
    try simp only [Act.put, List.setIfInBounds_toArray, List.set_cons_zero, List.set_cons_succ]
    refine wpAnyH_ready (rs := [4, 6]) (by kernel_rfl) (by simp) ?_
    refine AllReadyH.cons (o := _) rfl (fun K hK => ?_) (AllReadyH.cons (o := _) rfl (fun K hK => ?_) AllReadyH.nil)
    · go_simp
      refine hK.out _ _ trivial (fun _ => ?_)
      clear hK K
      try simp only [Act.put, List.setIfInBounds_toArray, List.set_cons_zero, List.set_cons_succ]
      refine wpAnyH_ready (rs := [6]) (by kernel_rfl) (by simp) ?_
      refine AllReadyH.cons (o := _) rfl (fun K hK => ?_) AllReadyH.nil
      go_simp
      refine hK.out _ _ trivial (fun _ => ?_)
      clear hK K
      try simp only [Act.put, List.setIfInBounds_toArray, List.set_cons_zero, List.set_cons_succ]
      refine wpAnyH_ready (rs := [7]) (by kernel_rfl) (by simp) ?_
      refine AllReadyH.cons (o := _) rfl (fun K hK => ?_) AllReadyH.nil
      go_simp
      refine hK.out _ _ trivial (fun _ => ?_)
      clear hK K
      try simp only [Act.put, List.setIfInBounds_toArray, List.set_cons_zero, List.set_cons_succ]
      refine wpAnyH_ready (rs := [8]) (by kernel_rfl) (by simp) ?_
      refine AllReadyH.cons (o := _) rfl (fun K hK => ?_) AllReadyH.nil
      go_simp
      refine ht.mono ?_
      rintro e w' ⟨v', k', rfl, ho', hk', hr⟩
      obtain ⟨a', cap', rfl, _⟩ := ho'.form
      rw [hlen] at ho'
      have hk2 : Kept (fun j => lk = some j) W w' := (((hKV.mono (fun _ e => e.elim)).alloc _).drew).trans' hk'
      have hfx : lk ≠ some (n + 1) := fun e => by have := hM.far _ e; omega
      have gc' := hk2.cell_some hc hfx
      have gf' := (hk2.frozen (p := ⟨n + 1, 0, none⟩) hlt hfx).trans hf
      dsimp only
      refine hK.out _ _ trivial (fun _ => ?_)
      clear hK K
      try simp only [Act.put, List.setIfInBounds_toArray, List.set_cons_zero, List.set_cons_succ]
      refine wpAnyH_take (i := 9) (oi := _) (v := ?_) rfl (by kernel_rfl) (by kernel_rfl) (by kernel_rfl) (fun _ _ _ h => h) (Or.inl ⟨by rfl, ?_⟩) trivial ?_
      rotate_left
      · (intro V' hSw; clear hSw; go_simp); with_reducible rfl
      try simp only [Act.put, List.setIfInBounds_toArray, List.set_cons_zero, List.set_cons_succ]
      refine wpAnyH_take (i := 10) (oi := _) (v := ?_) rfl (by kernel_rfl) (by kernel_rfl) (by kernel_rfl) (fun _ _ _ h => h) (Or.inl ⟨by rfl, ?_⟩) trivial ?_
      rotate_left
      · (intro V' hSw; clear hSw; go_simp); with_reducible rfl
      try simp only [Act.put, List.setIfInBounds_toArray, List.set_cons_zero, List.set_cons_succ]
      refine wpAnyH_ready (rs := [11]) (by kernel_rfl) (by simp) ?_
      refine AllReadyH.cons (o := _) rfl (fun K hK => ?_) AllReadyH.nil
      go_simp
      obtain ⟨w2, hw2⟩ : ∃ w2, w2 = w'.setCell ⟨n + 1, 0, none⟩ (.slice a' (i + (s.l.length - i + 1)) cap') := ⟨_, rfl⟩
      have hKf : Kept (F n lk) W w2 := by rw [hw2]; exact hM.set_l_kept hk2
      have hrow : Row W lk k' := hr.of_le (by show W.heap.size ≤ (V.alloc _).heap.size; simp; omega)
      have hMf : MS n L Q { s with l := s.l.take i ++ x :: s.l.drop i } q k' w2 := by rw [hw2]; exact hM.set_l hk2 ho' hrow
      rw [← hw2]
      replace hw2 := Lib.hid hw2
      refine hK.out _ _ trivial (fun _ => ?_)
      clear hK K
      try simp only [Act.put, List.setIfInBounds_toArray, List.set_cons_zero, List.set_cons_succ]
      refine wpAnyH_done (by kernel_rfl) ?_ _
      go_wp2
      go_end0
      exact ⟨hKf, rfl, k', hMf, hrow⟩
    · go_simp
      refine hK.out _ _ trivial (fun _ => ?_)
      clear hK K
      try simp only [Act.put, List.setIfInBounds_toArray, List.set_cons_zero, List.set_cons_succ]
      refine wpAnyH_ready (rs := [4, 7]) (by kernel_rfl) (by simp) ?_
      refine AllReadyH.cons (o := _) rfl (fun K hK => ?_) (AllReadyH.cons (o := _) rfl (fun K hK => ?_) AllReadyH.nil)
      · go_simp
        refine hK.out _ _ trivial (fun _ => ?_)
        clear hK K
        try simp only [Act.put, List.setIfInBounds_toArray, List.set_cons_zero, List.set_cons_succ]
        refine wpAnyH_ready (rs := [7]) (by kernel_rfl) (by simp) ?_
        refine AllReadyH.cons (o := _) rfl (fun K hK => ?_) AllReadyH.nil
        go_simp
        refine hK.out _ _ trivial (fun _ => ?_)
        clear hK K
        try simp only [Act.put, List.setIfInBounds_toArray, List.set_cons_zero, List.set_cons_succ]
        refine wpAnyH_ready (rs := [8]) (by kernel_rfl) (by simp) ?_
        refine AllReadyH.cons (o := _) rfl (fun K hK => ?_) AllReadyH.nil
        go_simp
        refine ht.mono ?_
        rintro e w' ⟨v', k', rfl, ho', hk', hr⟩
        obtain ⟨a', cap', rfl, _⟩ := ho'.form
        rw [hlen] at ho'
        have hk2 : Kept (fun j => lk = some j) W w' := (((hKV.mono (fun _ e => e.elim)).alloc _).drew).trans' hk'
        have hfx : lk ≠ some (n + 1) := fun e => by have := hM.far _ e; omega
        have gc' := hk2.cell_some hc hfx
        have gf' := (hk2.frozen (p := ⟨n + 1, 0, none⟩) hlt hfx).trans hf
        dsimp only
        refine hK.out _ _ trivial (fun _ => ?_)
        clear hK K
        try simp only [Act.put, List.setIfInBounds_toArray, List.set_cons_zero, List.set_cons_succ]
        refine wpAnyH_take (i := 9) (oi := _) (v := ?_) rfl (by kernel_rfl) (by kernel_rfl) (by kernel_rfl) (fun _ _ _ h => h) (Or.inl ⟨by rfl, ?_⟩) trivial ?_
        rotate_left
        · (intro V' hSw; clear hSw; go_simp); with_reducible rfl
        try simp only [Act.put, List.setIfInBounds_toArray, List.set_cons_zero, List.set_cons_succ]
        refine wpAnyH_take (i := 10) (oi := _) (v := ?_) rfl (by kernel_rfl) (by kernel_rfl) (by kernel_rfl) (fun _ _ _ h => h) (Or.inl ⟨by rfl, ?_⟩) trivial ?_
        rotate_left
        · (intro V' hSw; clear hSw; go_simp); with_reducible rfl
        try simp only [Act.put, List.setIfInBounds_toArray, List.set_cons_zero, List.set_cons_succ]
        refine wpAnyH_ready (rs := [11]) (by kernel_rfl) (by simp) ?_
        refine AllReadyH.cons (o := _) rfl (fun K hK => ?_) AllReadyH.nil
        go_simp
        obtain ⟨w2, hw2⟩ : ∃ w2, w2 = w'.setCell ⟨n + 1, 0, none⟩ (.slice a' (i + (s.l.length - i + 1)) cap') := ⟨_, rfl⟩
        have hKf : Kept (F n lk) W w2 := by rw [hw2]; exact hM.set_l_kept hk2
        have hrow : Row W lk k' := hr.of_le (by show W.heap.size ≤ (V.alloc _).heap.size; simp; omega)
        have hMf : MS n L Q { s with l := s.l.take i ++ x :: s.l.drop i } q k' w2 := by rw [hw2]; exact hM.set_l hk2 ho' hrow
        rw [← hw2]
        replace hw2 := Lib.hid hw2
        refine hK.out _ _ trivial (fun _ => ?_)
        clear hK K
        try simp only [Act.put, List.setIfInBounds_toArray, List.set_cons_zero, List.set_cons_succ]
        refine wpAnyH_done (by kernel_rfl) ?_ _
        go_wp2
        go_end0
        exact ⟨hKf, rfl, k', hMf, hrow⟩
      · go_simp
        have gc2 : (V.alloc (.cells #[I x] 3)).drew.cell? ⟨n + 1, 0, none⟩ = some (.slice a0 s.l.length cap0) := (cell_alloc _ _ _ _ (by omega)).trans gc
        refine hK.out _ _ trivial (fun _ => ?_)
        clear hK K
        try simp only [Act.put, List.setIfInBounds_toArray, List.set_cons_zero, List.set_cons_succ]
        refine wpAnyH_ready (rs := [4]) (by kernel_rfl) (by simp) ?_
        refine AllReadyH.cons (o := _) rfl (fun K hK => ?_) AllReadyH.nil
        go_simp
        refine hK.out _ _ trivial (fun _ => ?_)
        clear hK K
        try simp only [Act.put, List.setIfInBounds_toArray, List.set_cons_zero, List.set_cons_succ]
        refine wpAnyH_ready (rs := [8]) (by kernel_rfl) (by simp) ?_
        refine AllReadyH.cons (o := _) rfl (fun K hK => ?_) AllReadyH.nil
        go_simp
        refine ht.mono ?_
        rintro e w' ⟨v', k', rfl, ho', hk', hr⟩
        obtain ⟨a', cap', rfl, _⟩ := ho'.form
        rw [hlen] at ho'
        have hk2 : Kept (fun j => lk = some j) W w' := (((hKV.mono (fun _ e => e.elim)).alloc _).drew).trans' hk'
        have hfx : lk ≠ some (n + 1) := fun e => by have := hM.far _ e; omega
        have gc' := hk2.cell_some hc hfx
        have gf' := (hk2.frozen (p := ⟨n + 1, 0, none⟩) hlt hfx).trans hf
        dsimp only
        refine hK.out _ _ trivial (fun _ => ?_)
        clear hK K
        try simp only [Act.put, List.setIfInBounds_toArray, List.set_cons_zero, List.set_cons_succ]
        refine wpAnyH_take (i := 9) (oi := _) (v := ?_) rfl (by kernel_rfl) (by kernel_rfl) (by kernel_rfl) (fun _ _ _ h => h) (Or.inl ⟨by rfl, ?_⟩) trivial ?_
        rotate_left
        · (intro V' hSw; clear hSw; go_simp); with_reducible rfl
        try simp only [Act.put, List.setIfInBounds_toArray, List.set_cons_zero, List.set_cons_succ]
        refine wpAnyH_take (i := 10) (oi := _) (v := ?_) rfl (by kernel_rfl) (by kernel_rfl) (by kernel_rfl) (fun _ _ _ h => h) (Or.inl ⟨by rfl, ?_⟩) trivial ?_
        rotate_left
        · (intro V' hSw; clear hSw; go_simp); with_reducible rfl
        try simp only [Act.put, List.setIfInBounds_toArray, List.set_cons_zero, List.set_cons_succ]
        refine wpAnyH_ready (rs := [11]) (by kernel_rfl) (by simp) ?_
        refine AllReadyH.cons (o := _) rfl (fun K hK => ?_) AllReadyH.nil
        go_simp
        obtain ⟨w2, hw2⟩ : ∃ w2, w2 = w'.setCell ⟨n + 1, 0, none⟩ (.slice a' (i + (s.l.length - i + 1)) cap') := ⟨_, rfl⟩
        have hKf : Kept (F n lk) W w2 := by rw [hw2]; exact hM.set_l_kept hk2
        have hrow : Row W lk k' := hr.of_le (by show W.heap.size ≤ (V.alloc _).heap.size; simp; omega)
        have hMf : MS n L Q { s with l := s.l.take i ++ x :: s.l.drop i } q k' w2 := by rw [hw2]; exact hM.set_l hk2 ho' hrow
        rw [← hw2]
        replace hw2 := Lib.hid hw2
        refine hK.out _ _ trivial (fun _ => ?_)
        clear hK K
        try simp only [Act.put, List.setIfInBounds_toArray, List.set_cons_zero, List.set_cons_succ]
        refine wpAnyH_done (by kernel_rfl) ?_ _
        go_wp2
        go_end0
        exact ⟨hKf, rfl, k', hMf, hrow⟩
  · rw [h1] at ix
    subst h2
    have hlen2 : (s.l.take s.l.length ++ x :: s.l.drop s.l.length).length = s.l.length + 1 := by simp
    go_enter Tryz.func43, Tryz.ntmps43
    go_wp2_with (go_at_call 102; rw [← hV.out]; refine ix.mono ?_; rintro e w' ⟨rfl, hw'⟩; rw [hw']; clear hw' w')
    refine wp_region_held_drew (S := fun _ => True) (by kernel_rfl) trivial (fun _ => ?_)
    have gc1 : V.drew.cell? ⟨n + 1, 0, none⟩ = some (.slice a0 s.l.length cap0) := gc
    have gx1 : V.drew.cell? ⟨W.heap.size, 0, none⟩ = some (I x) := gx
    refine wpAnyH_take (i := 0) (oi := _) (v := ?_) rfl (by kernel_rfl) (by kernel_rfl) (by kernel_rfl) (fun _ _ _ h => h) (Or.inl ⟨by rfl, ?_⟩) trivial ?_
    rotate_left
    · (intro V' hSw; clear hSw; go_simp); with_reducible rfl
    try simp only [Act.put, List.setIfInBounds_toArray, List.set_cons_zero, List.set_cons_succ]
    refine wpAnyH_take (i := 1) (oi := _) (v := ?_) rfl (by kernel_rfl) (by kernel_rfl) (by kernel_rfl) (fun _ _ _ h => h) (Or.inl ⟨by rfl, ?_⟩) trivial ?_
    rotate_left
    · (intro V' hSw; clear hSw; go_simp); with_reducible rfl
    try simp only [Act.put, List.setIfInBounds_toArray, List.set_cons_zero, List.set_cons_succ]
    refine wpAnyH_take (i := 2) (oi := _) (v := ?_) rfl (by kernel_rfl) (by kernel_rfl) (by kernel_rfl) (fun _ _ _ h => h) (Or.inl ⟨by rfl, ?_⟩) trivial ?_
    rotate_left
    · (intro V' hSw; clear hSw; go_simp); with_reducible rfl
    try simp only [Act.put, List.setIfInBounds_toArray, List.set_cons_zero, List.set_cons_succ]
    refine wpAnyH_take (i := 3) (oi := _) (v := ?_) rfl (by kernel_rfl) (by kernel_rfl) (by kernel_rfl) (fun _ _ _ h => h) (Or.inl ⟨by rfl, ?_⟩) trivial ?_
    rotate_left
    · (intro V' hSw; clear hSw; go_simp); with_reducible rfl
    try simp only [Act.put, List.setIfInBounds_toArray, List.set_cons_zero, List.set_cons_succ]
    refine wpAnyH_take (i := 5) (oi := _) (v := ?_) rfl (by kernel_rfl) (by kernel_rfl) (by kernel_rfl) (fun _ _ _ h => h) (Or.inl ⟨by rfl, ?_⟩) trivial ?_
    rotate_left
    · (intro V' hSw; clear hSw; go_simp); with_reducible rfl
    try simp only [Act.put, List.setIfInBounds_toArray, List.set_cons_zero, List.set_cons_succ]
    refine wpAnyH_ready (rs := [4, 6]) (by kernel_rfl) (by simp) ?_
    refine AllReadyH.cons (o := _) rfl (fun K hK => ?_) (AllReadyH.cons (o := _) rfl (fun K hK => ?_) AllReadyH.nil)
    · go_simp
      refine hK.out _ _ trivial (fun _ => ?_)
      clear hK K
      try simp only [Act.put, List.setIfInBounds_toArray, List.set_cons_zero, List.set_cons_succ]
      refine wpAnyH_ready (rs := [6]) (by kernel_rfl) (by simp) ?_
      refine AllReadyH.cons (o := _) rfl (fun K hK => ?_) AllReadyH.nil
      go_simp
      refine hK.out _ _ trivial (fun _ => ?_)
      clear hK K
      try simp only [Act.put, List.setIfInBounds_toArray, List.set_cons_zero, List.set_cons_succ]
      refine wpAnyH_ready (rs := [7]) (by kernel_rfl) (by simp) ?_
      refine AllReadyH.cons (o := _) rfl (fun K hK => ?_) AllReadyH.nil
      go_simp
      refine hK.out _ _ trivial (fun _ => ?_)
      clear hK K
      try simp only [Act.put, List.setIfInBounds_toArray, List.set_cons_zero, List.set_cons_succ]
      refine wpAnyH_ready (rs := [8]) (by kernel_rfl) (by simp) ?_
      refine AllReadyH.cons (o := _) rfl (fun K hK => ?_) AllReadyH.nil
      go_simp
      refine ht.mono ?_
      rintro e w' ⟨v', k', rfl, ho', hk', hr⟩
      obtain ⟨a', cap', rfl, _⟩ := ho'.form
      rw [hlen2] at ho'
      have hk2 : Kept (fun j => lk = some j) W w' := (((hKV.mono (fun _ e => e.elim)).alloc _).drew).trans' hk'
      have hfx : lk ≠ some (n + 1) := fun e => by have := hM.far _ e; omega
      have gc' := hk2.cell_some hc hfx
      have gf' := (hk2.frozen (p := ⟨n + 1, 0, none⟩) hlt hfx).trans hf
      dsimp only
      refine hK.out _ _ trivial (fun _ => ?_)
      clear hK K
      try simp only [Act.put, List.setIfInBounds_toArray, List.set_cons_zero, List.set_cons_succ]
      refine wpAnyH_take (i := 9) (oi := _) (v := ?_) rfl (by kernel_rfl) (by kernel_rfl) (by kernel_rfl) (fun _ _ _ h => h) (Or.inl ⟨by rfl, ?_⟩) trivial ?_
      rotate_left
      · (intro V' hSw; clear hSw; go_simp); with_reducible rfl
      try simp only [Act.put, List.setIfInBounds_toArray, List.set_cons_zero, List.set_cons_succ]
      refine wpAnyH_take (i := 10) (oi := _) (v := ?_) rfl (by kernel_rfl) (by kernel_rfl) (by kernel_rfl) (fun _ _ _ h => h) (Or.inl ⟨by rfl, ?_⟩) trivial ?_
      rotate_left
      · (intro V' hSw; clear hSw; go_simp); with_reducible rfl
      try simp only [Act.put, List.setIfInBounds_toArray, List.set_cons_zero, List.set_cons_succ]
      refine wpAnyH_ready (rs := [11]) (by kernel_rfl) (by simp) ?_
      refine AllReadyH.cons (o := _) rfl (fun K hK => ?_) AllReadyH.nil
      go_simp
      obtain ⟨w2, hw2⟩ : ∃ w2, w2 = w'.setCell ⟨n + 1, 0, none⟩ (.slice a' (s.l.length + 1) cap') := ⟨_, rfl⟩
      have hKf : Kept (F n lk) W w2 := by rw [hw2]; exact hM.set_l_kept hk2
      have hrow : Row W lk k' := hr.of_le (by show W.heap.size ≤ (V.alloc _).heap.size; simp; omega)
      have hMf : MS n L Q { s with l := s.l.take s.l.length ++ x :: s.l.drop s.l.length } q k' w2 := by rw [hw2]; exact hM.set_l hk2 ho' hrow
      rw [← hw2]
      replace hw2 := Lib.hid hw2
      refine hK.out _ _ trivial (fun _ => ?_)
      clear hK K
      try simp only [Act.put, List.setIfInBounds_toArray, List.set_cons_zero, List.set_cons_succ]
      refine wpAnyH_done (by kernel_rfl) ?_ _
      go_wp2
      go_end0
      exact ⟨hKf, rfl, k', hMf, hrow⟩
    · go_simp
      refine hK.out _ _ trivial (fun _ => ?_)
      clear hK K
      try simp only [Act.put, List.setIfInBounds_toArray, List.set_cons_zero, List.set_cons_succ]
      refine wpAnyH_ready (rs := [4, 7]) (by kernel_rfl) (by simp) ?_
      refine AllReadyH.cons (o := _) rfl (fun K hK => ?_) (AllReadyH.cons (o := _) rfl (fun K hK => ?_) AllReadyH.nil)
      · go_simp
        refine hK.out _ _ trivial (fun _ => ?_)
        clear hK K
        try simp only [Act.put, List.setIfInBounds_toArray, List.set_cons_zero, List.set_cons_succ]
        refine wpAnyH_ready (rs := [7]) (by kernel_rfl) (by simp) ?_
        refine AllReadyH.cons (o := _) rfl (fun K hK => ?_) AllReadyH.nil
        go_simp
        refine hK.out _ _ trivial (fun _ => ?_)
        clear hK K
        try simp only [Act.put, List.setIfInBounds_toArray, List.set_cons_zero, List.set_cons_succ]
        refine wpAnyH_ready (rs := [8]) (by kernel_rfl) (by simp) ?_
        refine AllReadyH.cons (o := _) rfl (fun K hK => ?_) AllReadyH.nil
        go_simp
        refine ht.mono ?_
        rintro e w' ⟨v', k', rfl, ho', hk', hr⟩
        obtain ⟨a', cap', rfl, _⟩ := ho'.form
        rw [hlen2] at ho'
        have hk2 : Kept (fun j => lk = some j) W w' := (((hKV.mono (fun _ e => e.elim)).alloc _).drew).trans' hk'
        have hfx : lk ≠ some (n + 1) := fun e => by have := hM.far _ e; omega
        have gc' := hk2.cell_some hc hfx
        have gf' := (hk2.frozen (p := ⟨n + 1, 0, none⟩) hlt hfx).trans hf
        dsimp only
        refine hK.out _ _ trivial (fun _ => ?_)
        clear hK K
        try simp only [Act.put, List.setIfInBounds_toArray, List.set_cons_zero, List.set_cons_succ]
        refine wpAnyH_take (i := 9) (oi := _) (v := ?_) rfl (by kernel_rfl) (by kernel_rfl) (by kernel_rfl) (fun _ _ _ h => h) (Or.inl ⟨by rfl, ?_⟩) trivial ?_
        rotate_left
        · (intro V' hSw; clear hSw; go_simp); with_reducible rfl
        try simp only [Act.put, List.setIfInBounds_toArray, List.set_cons_zero, List.set_cons_succ]
        refine wpAnyH_take (i := 10) (oi := _) (v := ?_) rfl (by kernel_rfl) (by kernel_rfl) (by kernel_rfl) (fun _ _ _ h => h) (Or.inl ⟨by rfl, ?_⟩) trivial ?_
        rotate_left
        · (intro V' hSw; clear hSw; go_simp); with_reducible rfl
        try simp only [Act.put, List.setIfInBounds_toArray, List.set_cons_zero, List.set_cons_succ]
        refine wpAnyH_ready (rs := [11]) (by kernel_rfl) (by simp) ?_
        refine AllReadyH.cons (o := _) rfl (fun K hK => ?_) AllReadyH.nil
        go_simp
        obtain ⟨w2, hw2⟩ : ∃ w2, w2 = w'.setCell ⟨n + 1, 0, none⟩ (.slice a' (s.l.length + 1) cap') := ⟨_, rfl⟩
        have hKf : Kept (F n lk) W w2 := by rw [hw2]; exact hM.set_l_kept hk2
        have hrow : Row W lk k' := hr.of_le (by show W.heap.size ≤ (V.alloc _).heap.size; simp; omega)
        have hMf : MS n L Q { s with l := s.l.take s.l.length ++ x :: s.l.drop s.l.length } q k' w2 := by rw [hw2]; exact hM.set_l hk2 ho' hrow
        rw [← hw2]
        replace hw2 := Lib.hid hw2
        refine hK.out _ _ trivial (fun _ => ?_)
        clear hK K
        try simp only [Act.put, List.setIfInBounds_toArray, List.set_cons_zero, List.set_cons_succ]
        refine wpAnyH_done (by kernel_rfl) ?_ _
        go_wp2
        go_end0
        exact ⟨hKf, rfl, k', hMf, hrow⟩
      · go_simp
        have gc2 : (V.alloc (.cells #[I x] 3)).drew.cell? ⟨n + 1, 0, none⟩ = some (.slice a0 s.l.length cap0) := (cell_alloc _ _ _ _ (by omega)).trans gc
        refine hK.out _ _ trivial (fun _ => ?_)
        clear hK K
        try simp only [Act.put, List.setIfInBounds_toArray, List.set_cons_zero, List.set_cons_succ]
        refine wpAnyH_ready (rs := [4]) (by kernel_rfl) (by simp) ?_
        refine AllReadyH.cons (o := _) rfl (fun K hK => ?_) AllReadyH.nil
        go_simp
        refine hK.out _ _ trivial (fun _ => ?_)
        clear hK K
        try simp only [Act.put, List.setIfInBounds_toArray, List.set_cons_zero, List.set_cons_succ]
        refine wpAnyH_ready (rs := [8]) (by kernel_rfl) (by simp) ?_
        refine AllReadyH.cons (o := _) rfl (fun K hK => ?_) AllReadyH.nil
        go_simp
        refine ht.mono ?_
        rintro e w' ⟨v', k', rfl, ho', hk', hr⟩
        obtain ⟨a', cap', rfl, _⟩ := ho'.form
        rw [hlen2] at ho'
        have hk2 : Kept (fun j => lk = some j) W w' := (((hKV.mono (fun _ e => e.elim)).alloc _).drew).trans' hk'
        have hfx : lk ≠ some (n + 1) := fun e => by have := hM.far _ e; omega
        have gc' := hk2.cell_some hc hfx
        have gf' := (hk2.frozen (p := ⟨n + 1, 0, none⟩) hlt hfx).trans hf
        dsimp only
        refine hK.out _ _ trivial (fun _ => ?_)
        clear hK K
        try simp only [Act.put, List.setIfInBounds_toArray, List.set_cons_zero, List.set_cons_succ]
        refine wpAnyH_take (i := 9) (oi := _) (v := ?_) rfl (by kernel_rfl) (by kernel_rfl) (by kernel_rfl) (fun _ _ _ h => h) (Or.inl ⟨by rfl, ?_⟩) trivial ?_
        rotate_left
        · (intro V' hSw; clear hSw; go_simp); with_reducible rfl
        try simp only [Act.put, List.setIfInBounds_toArray, List.set_cons_zero, List.set_cons_succ]
        refine wpAnyH_take (i := 10) (oi := _) (v := ?_) rfl (by kernel_rfl) (by kernel_rfl) (by kernel_rfl) (fun _ _ _ h => h) (Or.inl ⟨by rfl, ?_⟩) trivial ?_
        rotate_left
        · (intro V' hSw; clear hSw; go_simp); with_reducible rfl
        try simp only [Act.put, List.setIfInBounds_toArray, List.set_cons_zero, List.set_cons_succ]
        refine wpAnyH_ready (rs := [11]) (by kernel_rfl) (by simp) ?_
        refine AllReadyH.cons (o := _) rfl (fun K hK => ?_) AllReadyH.nil
        go_simp
        obtain ⟨w2, hw2⟩ : ∃ w2, w2 = w'.setCell ⟨n + 1, 0, none⟩ (.slice a' (s.l.length + 1) cap') := ⟨_, rfl⟩
        have hKf : Kept (F n lk) W w2 := by rw [hw2]; exact hM.set_l_kept hk2
        have hrow : Row W lk k' := hr.of_le (by show W.heap.size ≤ (V.alloc _).heap.size; simp; omega)
        have hMf : MS n L Q { s with l := s.l.take s.l.length ++ x :: s.l.drop s.l.length } q k' w2 := by rw [hw2]; exact hM.set_l hk2 ho' hrow
        rw [← hw2]
        replace hw2 := Lib.hid hw2
        refine hK.out _ _ trivial (fun _ => ?_)
        clear hK K
        try simp only [Act.put, List.setIfInBounds_toArray, List.set_cons_zero, List.set_cons_succ]
        refine wpAnyH_done (by kernel_rfl) ?_ _
        go_wp2
        go_end0
        exact ⟨hKf, rfl, k', hMf, hrow⟩
end Go.Proofs.Bm
