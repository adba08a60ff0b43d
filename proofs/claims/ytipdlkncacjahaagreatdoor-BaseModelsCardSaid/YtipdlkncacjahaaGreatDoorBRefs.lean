/- The reference's lists: append of many, index, insert, without. No condition. -/
import Derived.Test.YtipdlkncacjahaaGreatDoorBD3
set_option linter.unusedSimpArgs false
set_option linter.unusedVariables false
namespace Go.Proofs.Bm
open Go.RowKit Go.Maps
variable {w : World} {v : Value} {k : Option Nat} {xs ys : List Int}

/-- x is a slice of these numbers, to be read alone. -/
def SrcI (w : World) (x : Value) (ys : List Int) : Prop := ∃ a c, x = .slice a ys.length c ∧ (ys ≠ [] → ∃ a', a = some a' ∧ ∀ (j : Nat) (y : Int), ys[j]? = some y → w.cell? (a'.add j) = some (I y))

theorem run_append_zero (t0 : TypeId) (a x : Option Addr) (n cap c : Nat) (h : n ≤ cap) (w : World) : (Builtin.append_ #[25, 25] t0 #[.slice a n cap, .slice x 0 c]).run Tryz.prog w = .ok (.slice a n cap) w := by
  obtain ⟨i, hi, hz, hsz, hby⟩ := info_parts info3
  cases a <;> cases x <;> simp [Builtin.append_, run_underlying Tryz.underlying25, sizeOf, typeInfo, hi, Builtin.lenOf, h, Builtin.firstCells, loadCells, loadCellsFrom, storeCells]

theorem run_append_many (t0 : TypeId) (x : Value) (h : OwnI w v k xs) (hk : k ≠ none) (hx : SrcI w x ys) (hn : xs.length + ys.length ≤ 1000000) :
    ∃ v' k' w', (Builtin.append_ #[25, 25] t0 #[v, x]).run Tryz.prog w = .ok v' w' ∧ OwnI w' v' k' (xs ++ ys) ∧ Kept (fun j => k = some j) w w' ∧ Row w k k' ∧ k' ≠ none := by
  obtain ⟨i, hi, hz, hsz, hby⟩ := info_parts info3
  obtain ⟨xa, c, rfl, hcells⟩ := hx
  rcases h.cases with ⟨rfl, rfl, rfl⟩ | ⟨b, off, cap, rfl, rfl⟩
  · exact absurd rfl hk
  obtain ⟨_, _, h1, h2, cur, h3, h4, h5⟩ := h.row
  by_cases hy0 : ys = []
  · subst hy0
    refine ⟨_, some b, w, run_append_zero t0 _ xa _ _ c h1 w, by simpa using h, Kept.refl _ _, .inl rfl, by simp⟩
  obtain ⟨ad, rfl, hc⟩ := hcells hy0
  have hnews : ∀ j u, (ys.map (Value.int .i64))[j]? = some u → w.cell? (ad.add j) = some u := by
    intro j u hj
    rw [List.getElem?_map] at hj
    cases hx' : ys[j]? with
    | none => simp [hx'] at hj
    | some y => simp [hx'] at hj; subst hj; exact hc j y hx'
  have oc : ∀ u ∈ ys.map (Value.int .i64), u.oneCell' = true := by
    intro u hu; simp at hu; obtain ⟨y, _, rfl⟩ := hu; rfl
  by_cases hroom : xs.length + ys.length ≤ cap
  · have hrun := run_append_room_cells (P := Tryz.prog) w 25 t0 3 i Tryz.underlying25 hi b off xs.length cap ad ys.length c (ys.map (Value.int .i64)) (by simp [hsz]) hnews oc hroom (fun j hj => by rw [hsz, Nat.mul_one, Nat.add_assoc]; exact h.some_cell (by simp at hj; omega)) (fun j hj => h.frozen _)
    rw [hsz, Nat.mul_one] at hrun
    obtain ⟨cur', g1, g2, g3, g4⟩ := setCells_row b 3 (0, 0) (ys.map (Value.int .i64)) (off + xs.length) w cur h3
    refine ⟨_, some b, _, hrun, ?_, (setCells_kept b _ _ w).mono (fun j e => by rw [e]), .inl rfl, by simp⟩
    have := OwnI.of_row (off := off) (cap := cap) (xs := xs ++ ys) g1 (by simpa using hroom) h2 (by omega) ?_
    · simpa using this
    · intro j y hj
      by_cases hlt : j < xs.length
      · rw [List.getElem?_append_left hlt] at hj
        rw [g3 _ (by omega)]; exact h5 j y hj
      · rw [List.getElem?_append_right (by omega)] at hj
        have hl := (List.getElem?_eq_some_iff.1 hj).1
        have := g4 (j - xs.length) (I y) (by rw [List.getElem?_map, hj]; rfl) (by omega)
        rwa [show off + xs.length + (j - xs.length) = off + j by omega] at this
  · obtain ⟨v', w', hrun, r1, r2⟩ := run_append_arg_grows (P := Tryz.prog) w 25 t0 3 i _ 1 8 Tryz.underlying25 hi hz hsz hby rfl (by omega) ⟨b, off, none⟩ xs.length cap (xs.map (Value.int .i64)) (by simp) (fun j u hj => by
      rw [Addr.add_lit]
      rw [List.getElem?_map] at hj
      cases hx' : xs[j]? with
      | none => simp [hx'] at hj
      | some y => simp [hx'] at hj; subst hj; exact h.cell hx') ad ys.length c (ys.map (Value.int .i64)) (by simp) hnews (by omega) (by simp only [maxLen]; omega) (by omega)
    have hne : v'.ownBlock ≠ none := by
      obtain ⟨_, ⟨rfl, h0⟩ | ⟨g, cap, cur, rfl, _⟩⟩ := r1
      · have := List.length_pos_iff.2 hy0; omega
      · simp [Value.ownBlock]
    exact ⟨v', v'.ownBlock, w', hrun, OwnI.of_owns r1 (by simp) (by simp), (Kept.refl _ w).grown r2 (fun k hk => by cases hk), .inr (fun b hb => (r1.lt b hb).1), hne⟩

theorem wpList_append_many {ops : Array Oper} {rest : List Oper} {o : Oper} {a : Act} {Q : Exit → Act → World → Prop} (hg : o.guard = none) (s x : Operand) (hop : o.op = Op.call { callee := Callee.builtin Builtin.append, args := #[s, x], argTypes := #[25, 25] })
    (hs : a.eval s = v) (hx : SrcI w (a.eval x) ys) (h : OwnI w v k xs) (hk : k ≠ none) (hn : xs.length + ys.length ≤ 1000000)
    (hK : ∀ v' k' w', OwnI w' v' k' (xs ++ ys) → Kept (fun j => k = some j) w w' → Row w k k' → k' ≠ none → wpList Tryz.prog ops Q rest (a.put o.dst v') w') :
    wpList Tryz.prog ops Q (o :: rest) a w := by
  refine wpList_plain hg fun K hK' => ?_
  obtain ⟨v', k', w', hrun, r1, r2, r3, r4⟩ := run_append_many o.type (a.eval x) h hk hx hn
  unfold Oper.wp
  simp [execOp, hop, resolve, invoke, builtin, hs, hrun, Result.andThen]
  exact hK' _ _ (hK v' k' w' r1 r2 r3 r4)

theorem r_in (x a b : Int) (w : World) : Calls Tryz.prog 76 #[I x, I a, I b] w fun e w' => e = .returned (.bool (decide (a ≤ x ∧ x ≤ b))) ∧ w = w' := by
  by_cases h1 : a ≤ x <;> by_cases h2 : x ≤ b
  all_goals
    go_enter Tryz.func76, Tryz.ntmps76
    go_wp2
    go_ret
    exact ⟨by simp [h1, h2], rfl⟩
theorem r_beyond (x : Int) (w : World) : Calls Tryz.prog 81 #[I x] w fun e w' => e = .returned (.bool (decide (¬ inR x))) ∧ w = w' := by
  have hh := r_in x (-1099511627776) 1099511627776 w
  by_cases h : inR x
  · rw [show decide (-1099511627776 ≤ x ∧ x ≤ 1099511627776) = true by simpa [inR] using h] at hh
    go_enter Tryz.func81, Tryz.ntmps81
    go_wp2_with (go_at_call 76; refine hh.mono ?_; rintro e w' ⟨rfl, rfl⟩)
    go_ret
    exact ⟨by simp [h], rfl⟩
  · rw [show decide (-1099511627776 ≤ x ∧ x ≤ 1099511627776) = false by simpa [inR] using h] at hh
    go_enter Tryz.func81, Tryz.ntmps81
    go_wp2_with (go_at_call 76; refine hh.mono ?_; rintro e w' ⟨rfl, rfl⟩)
    go_ret
    exact ⟨by simp [h], rfl⟩

set_option maxHeartbeats 1000000 in
theorem r_index (h : OwnI w v k xs) (x : Int) : Calls Tryz.prog 80 #[v, I x] w fun e w' => e = .returned (I (idx xs x)) ∧ w' = w := by
  rcases h.cases with ⟨rfl, rfl, rfl⟩ | ⟨b, off, cap, rfl, rfl⟩
  · go_enter Tryz.func80, Tryz.ntmps80
    go_wp2
    go_loopg [5] 0 (fun _ s5 wr => s5 = I 0 ∧ wr = w)
    case atStart => exact ⟨rfl, rfl⟩
    case round =>
      obtain ⟨rfl, rfl⟩ := hrel
      go_wp2
      go_ret
      exact ⟨rfl, rfl⟩
  · have h2 := h.row.2.2.1
    have h3 := h.row.2.2.2.1
    simp only [maxLen] at h3
    have hC := Lib.hid (fun (j : Nat) (z : Int) (hj : xs[j]? = some z) => h.cell hj)
    clear h
    go_enter Tryz.func80, Tryz.ntmps80
    go_wp2
    go_loopg [5] xs.length (fun gg s5 wr => ∃ kk : Nat, kk ≤ xs.length ∧ xs.length - kk ≤ gg ∧ s5 = I kk ∧ wr = w ∧ Hid (∀ j, j < kk → xs.getD j 0 ≠ x))
    case atStart => exact ⟨0, Nat.zero_le _, Nat.le_refl _, rfl, rfl, Lib.hid fun j hj => absurd hj (Nat.not_lt_zero _)⟩
    case round =>
      obtain ⟨kk, hkk, hg, rfl, rfl, A⟩ := hrel
      by_cases hlt : kk < xs.length
      · have hltz : (kk : Int) < (xs.length : Int) := by omega
        have hz := List.getElem?_eq_getElem hlt
        generalize xs[kk] = z at hz
        have hcell := hC.out kk z hz
        have hz' := Lib.hid hz
        clear hz
        by_cases hq : z = x
        · subst hq
          go_wp2
          go_ret
          refine ⟨?_, rfl⟩
          have := Lib.idxOf_hit xs xs.length kk z hlt (Nat.le_refl _) (by simp [List.getD, hz'.out]) A.out
          rw [List.take_length] at this
          rw [idx, this]
          rfl
        · have hqb : (z == x) = false := by simpa using hq
          go_wp2
          go_roundg (xs.length - (kk + 1))
          case measure => omega
          case rel =>
            refine ⟨kk + 1, by omega, by omega, by go_num, rfl, Lib.hid fun j hj => ?_⟩
            by_cases e : j = kk
            · subst e; simpa [List.getD, hz'.out] using hq
            · exact A.out j (by omega)
      · have hltz : ¬ (kk : Int) < (xs.length : Int) := by omega
        have e : kk = xs.length := by omega
        have hlow : idx xs x = -1 := by
          have := Lib.idxOf_miss xs kk x A.out
          rw [e, List.take_length] at this
          exact this
        replace hlow := Lib.hid hlow
        go_wp2
        go_ret
        rw [hlow.out]
        exact ⟨rfl, rfl⟩
end Go.Proofs.Bm

namespace Go.Proofs.Bm
open Go.RowKit Go.Maps

/-- A return out of a function without results. -/

structure RSt where
  L : List Int
  K : List Int
  low : Int
  high : Int
  out : List Int
  fault : Int
  long : Bool

/-- What the reference's functions may turn. -/
def FR (b : Nat) (lL lK lO : Option Nat) (k : Nat) : Prop := k = b ∨ lL = some k ∨ lK = some k ∨ lO = some k

structure RS (b : Nat) (s : RSt) (lL lK lO : Option Nat) (W : World) : Prop where
  m : ∃ v1 v2 v3, W.heap[b]? = some (.cells #[v1, v2, I s.low, I s.high, v3, I s.fault, .bool s.long] 57 (0, 0)) ∧ OwnI W v1 lL s.L ∧ OwnI W v2 lK s.K ∧ OwnI W v3 lO s.out
  dL : ∀ c, lL = some c → c ≠ b ∧ lK ≠ some c ∧ lO ≠ some c
  dK : ∀ c, lK = some c → c ≠ b ∧ lO ≠ some c
  dO : ∀ c, lO = some c → c ≠ b

/-- Behind a function of the reference. -/
def REnds (b : Nat) (s' : RSt) (lL lK lO : Option Nat) (W w' : World) : Prop :=
  Kept (FR b lL lK lO) W w' ∧ ∃ lL' lK' lO', RS b s' lL' lK' lO' w' ∧ ∀ c, c < W.heap.size → FR b lL' lK' lO' c → FR b lL lK lO c

variable {b : Nat} {s s' s'' : RSt} {lL lK lO lL' lK' lO' : Option Nat} {W w' w'' : World}

theorem RS.lt (h : RS b s lL lK lO W) : b < W.heap.size := by
  obtain ⟨v1, v2, v3, hm, _⟩ := h.m
  exact (Array.getElem?_eq_some_iff.1 hm).1
theorem REnds.refl (h : RS b s lL lK lO W) : REnds b s lL lK lO W W := ⟨Kept.refl _ _, lL, lK, lO, h, fun _ _ e => e⟩
theorem REnds.trans (h : REnds b s' lL lK lO W w') (h2 : ∀ lL' lK' lO', RS b s' lL' lK' lO' w' → REnds b s'' lL' lK' lO' w' w'') : REnds b s'' lL lK lO W w'' := by
  obtain ⟨k1, l1, l2, l3, r, f⟩ := h
  obtain ⟨k2, m1, m2, m3, r2, f2⟩ := h2 l1 l2 l3 r
  exact ⟨k1.trans k2 f, m1, m2, m3, r2, fun c hc e => f c hc (f2 c (Nat.lt_of_lt_of_le hc k1.size) e)⟩
theorem RS.kept {G : Nat → Prop} (h : RS b s lL lK lO W) (hk : Kept G W w') (hG : ∀ c, FR b lL lK lO c → ¬ G c) : RS b s lL lK lO w' := by
  obtain ⟨v1, v2, v3, hm, h1, h2, h3⟩ := h.m
  exact ⟨⟨v1, v2, v3, (hk.block b h.lt (hG b (.inl rfl))).trans hm, h1.kept hk (fun c e => hG c (.inr (.inl e))), h2.kept hk (fun c e => hG c (.inr (.inr (.inl e)))), h3.kept hk (fun c e => hG c (.inr (.inr (.inr e))))⟩, h.dL, h.dK, h.dO⟩
theorem RS.alloc (h : RS b s lL lK lO W) (o : Obj) : RS b s lL lK lO (W.alloc o) := h.kept (G := fun _ => False) ((Kept.refl _ W).alloc o) (fun _ _ e => e)
theorem RS.drew (h : RS b s lL lK lO W) : RS b s lL lK lO W.drew := h.kept (G := fun _ => False) (Kept.refl _ W).drew (fun _ _ e => e)
theorem RS.f (h : RS b s lL lK lO W) (o : Nat) : W.frozen? ⟨b, o, none⟩ = false := by obtain ⟨v1, v2, v3, hm, _⟩ := h.m; simp [World.frozen?, hm]
theorem RS.c0 (h : RS b s lL lK lO W) : ∃ v, W.cell? ⟨b, 0, none⟩ = some v ∧ OwnI W v lL s.L := by obtain ⟨v1, v2, v3, hm, h1, _⟩ := h.m; exact ⟨v1, by simp [World.cell?, hm], h1⟩
theorem RS.c1 (h : RS b s lL lK lO W) : ∃ v, W.cell? ⟨b, 1, none⟩ = some v ∧ OwnI W v lK s.K := by obtain ⟨v1, v2, v3, hm, _, h1, _⟩ := h.m; exact ⟨v2, by simp [World.cell?, hm], h1⟩
theorem RS.c2 (h : RS b s lL lK lO W) : W.cell? ⟨b, 2, none⟩ = some (I s.low) := by obtain ⟨v1, v2, v3, hm, _⟩ := h.m; simp [World.cell?, hm]
theorem RS.c3 (h : RS b s lL lK lO W) : W.cell? ⟨b, 3, none⟩ = some (I s.high) := by obtain ⟨v1, v2, v3, hm, _⟩ := h.m; simp [World.cell?, hm]
theorem RS.c4 (h : RS b s lL lK lO W) : ∃ v, W.cell? ⟨b, 4, none⟩ = some v ∧ OwnI W v lO s.out := by obtain ⟨v1, v2, v3, hm, _, _, h1⟩ := h.m; exact ⟨v3, by simp [World.cell?, hm], h1⟩
theorem RS.c5 (h : RS b s lL lK lO W) : W.cell? ⟨b, 5, none⟩ = some (I s.fault) := by obtain ⟨v1, v2, v3, hm, _⟩ := h.m; simp [World.cell?, hm]
theorem RS.c6 (h : RS b s lL lK lO W) : W.cell? ⟨b, 6, none⟩ = some (.bool s.long) := by obtain ⟨v1, v2, v3, hm, _⟩ := h.m; simp [World.cell?, hm]

section
variable {v : Value}
/-- A field that is no list is set. -/
theorem RS.set_low (h : RS b s lL lK lO W) (x : Int) : RS b { s with low := x } lL lK lO (W.setCell ⟨b, 2, none⟩ (I x)) := by
  obtain ⟨v1, v2, v3, hm, h1, h2, h3⟩ := h.m
  exact ⟨⟨v1, v2, v3, by rw [heap_setCell_same _ _ _ _ hm]; rfl, h1.setCell (fun e => (h.dL _ e).1 rfl) _, h2.setCell (fun e => (h.dK _ e).1 rfl) _, h3.setCell (fun e => h.dO _ e rfl) _⟩, h.dL, h.dK, h.dO⟩
theorem RS.set_high (h : RS b s lL lK lO W) (x : Int) : RS b { s with high := x } lL lK lO (W.setCell ⟨b, 3, none⟩ (I x)) := by
  obtain ⟨v1, v2, v3, hm, h1, h2, h3⟩ := h.m
  exact ⟨⟨v1, v2, v3, by rw [heap_setCell_same _ _ _ _ hm]; rfl, h1.setCell (fun e => (h.dL _ e).1 rfl) _, h2.setCell (fun e => (h.dK _ e).1 rfl) _, h3.setCell (fun e => h.dO _ e rfl) _⟩, h.dL, h.dK, h.dO⟩
theorem RS.set_fault (h : RS b s lL lK lO W) (x : Int) : RS b { s with fault := x } lL lK lO (W.setCell ⟨b, 5, none⟩ (I x)) := by
  obtain ⟨v1, v2, v3, hm, h1, h2, h3⟩ := h.m
  exact ⟨⟨v1, v2, v3, by rw [heap_setCell_same _ _ _ _ hm]; rfl, h1.setCell (fun e => (h.dL _ e).1 rfl) _, h2.setCell (fun e => (h.dK _ e).1 rfl) _, h3.setCell (fun e => h.dO _ e rfl) _⟩, h.dL, h.dK, h.dO⟩
theorem RS.set_long (h : RS b s lL lK lO W) (x : Bool) : RS b { s with long := x } lL lK lO (W.setCell ⟨b, 6, none⟩ (.bool x)) := by
  obtain ⟨v1, v2, v3, hm, h1, h2, h3⟩ := h.m
  exact ⟨⟨v1, v2, v3, by rw [heap_setCell_same _ _ _ _ hm]; rfl, h1.setCell (fun e => (h.dL _ e).1 rfl) _, h2.setCell (fun e => (h.dK _ e).1 rfl) _, h3.setCell (fun e => h.dO _ e rfl) _⟩, h.dL, h.dK, h.dO⟩
theorem REnds.of_set {o : Nat} {u : Value} (h : RS b s' lL lK lO (W.setCell ⟨b, o, none⟩ u)) : REnds b s' lL lK lO W (W.setCell ⟨b, o, none⟩ u) :=
  ⟨(Kept.refl _ W).setCell (fun _ => .inl rfl) u, lL, lK, lO, h, fun _ _ e => e⟩

/-- The list L has turned, or is another one: it is stored. -/
theorem RS.set_L {l' : List Int} {k' : Option Nat} (h : RS b s lL lK lO W) (hk : Kept (fun j => lL = some j) W w') (ho : OwnI w' v k' l') (hr : Row W lL k') : REnds b { s with L := l' } lL lK lO W (w'.setCell ⟨b, 0, none⟩ v) := by
  obtain ⟨v1, v2, v3, hm, h1, h2, h3⟩ := h.m
  have hb := h.lt
  have hm' : w'.heap[b]? = _ := (hk.block b hb (fun e => (h.dL _ e).1 rfl)).trans hm
  have h2' := h2.kept hk (fun c e e' => (h.dL c e').2.1 e)
  have h3' := h3.kept hk (fun c e e' => (h.dL c e').2.2 e)
  have hd : ∀ c, k' = some c → c ≠ b ∧ lK ≠ some c ∧ lO ≠ some c := by
    intro c hc
    rcases hr with rfl | hr
    · exact h.dL c hc
    · have := hr c hc
      exact ⟨by omega, fun e => by have := h2.lt c e; omega, fun e => by have := h3.lt c e; omega⟩
  refine ⟨(hk.mono (fun j e => .inr (.inl e))).setCell (fun _ => .inl rfl) v, k', lK, lO, ⟨⟨v, v2, v3, by rw [heap_setCell_same _ _ _ _ hm']; rfl, ho.setCell (fun e => (hd _ e).1 rfl) _, h2'.setCell (fun e => (h.dK _ e).1 rfl) _, h3'.setCell (fun e => h.dO _ e rfl) _⟩, hd, h.dK, h.dO⟩, ?_⟩
  intro c hc e
  rcases e with e | e | e | e
  · exact .inl e
  · rcases hr with rfl | hr
    · exact .inr (.inl e)
    · have := hr c e; omega
  · exact .inr (.inr (.inl e))
  · exact .inr (.inr (.inr e))
theorem RS.set_K {l' : List Int} {k' : Option Nat} (h : RS b s lL lK lO W) (hk : Kept (fun j => lK = some j) W w') (ho : OwnI w' v k' l') (hr : Row W lK k') : REnds b { s with K := l' } lL lK lO W (w'.setCell ⟨b, 1, none⟩ v) := by
  obtain ⟨v1, v2, v3, hm, h1, h2, h3⟩ := h.m
  have hb := h.lt
  have hm' : w'.heap[b]? = _ := (hk.block b hb (fun e => (h.dK _ e).1 rfl)).trans hm
  have h1' := h1.kept hk (fun c e e' => (h.dL c e).2.1 e')
  have h3' := h3.kept hk (fun c e e' => (h.dK c e').2 e)
  have hd : ∀ c, k' = some c → c ≠ b ∧ lL ≠ some c ∧ lO ≠ some c := by
    intro c hc
    rcases hr with rfl | hr
    · exact ⟨(h.dK c hc).1, fun e => (h.dL c e).2.1 hc, (h.dK c hc).2⟩
    · have := hr c hc
      exact ⟨by omega, fun e => by have := h1.lt c e; omega, fun e => by have := h3.lt c e; omega⟩
  refine ⟨(hk.mono (fun j e => .inr (.inr (.inl e)))).setCell (fun _ => .inl rfl) v, lL, k', lO, ⟨⟨v1, v, v3, by rw [heap_setCell_same _ _ _ _ hm']; rfl, h1'.setCell (fun e => (h.dL _ e).1 rfl) _, ho.setCell (fun e => (hd _ e).1 rfl) _, h3'.setCell (fun e => h.dO _ e rfl) _⟩, fun c e => ⟨(h.dL c e).1, fun e' => (hd c e').2.1 e, (h.dL c e).2.2⟩, fun c e => ⟨(hd c e).1, (hd c e).2.2⟩, h.dO⟩, ?_⟩
  intro c hc e
  rcases e with e | e | e | e
  · exact .inl e
  · exact .inr (.inl e)
  · rcases hr with rfl | hr
    · exact .inr (.inr (.inl e))
    · have := hr c e; omega
  · exact .inr (.inr (.inr e))
theorem RS.set_out {l' : List Int} {k' : Option Nat} (h : RS b s lL lK lO W) (hk : Kept (fun j => lO = some j) W w') (ho : OwnI w' v k' l') (hr : Row W lO k') : REnds b { s with out := l' } lL lK lO W (w'.setCell ⟨b, 4, none⟩ v) := by
  obtain ⟨v1, v2, v3, hm, h1, h2, h3⟩ := h.m
  have hb := h.lt
  have hm' : w'.heap[b]? = _ := (hk.block b hb (fun e => h.dO _ e rfl)).trans hm
  have h1' := h1.kept hk (fun c e e' => (h.dL c e).2.2 e')
  have h2' := h2.kept hk (fun c e e' => (h.dK c e).2 e')
  have hd : ∀ c, k' = some c → c ≠ b ∧ lL ≠ some c ∧ lK ≠ some c := by
    intro c hc
    rcases hr with rfl | hr
    · exact ⟨h.dO c hc, fun e => (h.dL c e).2.2 hc, fun e => (h.dK c e).2 hc⟩
    · have := hr c hc
      exact ⟨by omega, fun e => by have := h1.lt c e; omega, fun e => by have := h2.lt c e; omega⟩
  refine ⟨(hk.mono (fun j e => .inr (.inr (.inr e)))).setCell (fun _ => .inl rfl) v, lL, lK, k', ⟨⟨v1, v2, v, by rw [heap_setCell_same _ _ _ _ hm']; rfl, h1'.setCell (fun e => (h.dL _ e).1 rfl) _, h2'.setCell (fun e => (h.dK _ e).1 rfl) _, ho.setCell (fun e => (hd _ e).1 rfl) _⟩, fun c e => ⟨(h.dL c e).1, (h.dL c e).2.1, fun e' => (hd c e').2.1 e⟩, fun c e => ⟨(h.dK c e).1, fun e' => (hd c e').2.2 e⟩, fun c e => (hd c e).1⟩, ?_⟩
  intro c hc e
  rcases e with e | e | e | e
  · exact .inl e
  · exact .inr (.inl e)
  · exact .inr (.inr (.inl e))
  · rcases hr with rfl | hr
    · exact .inr (.inr (.inr e))
    · have := hr c e; omega
end

theorem r_put (h : RS b s lL lK lO W) (hn : s.out.length ≤ 1000) (x : Int) : Calls Tryz.prog 77 #[.pointer (some ⟨b, 0, none⟩), I x] W fun e w' => e = .returned (.tuple #[]) ∧ REnds b { s with out := s.out ++ [x] } lL lK lO W w' := by
  obtain ⟨lv, hc, ho⟩ := h.c4
  have hlt := World.block_lt_of_cell? W _ hc
  have hf := h.f 4
  go_enter Tryz.func77, Tryz.ntmps77
  go_wp2_with (first
    | (at_builtin; refine wpList_append_I rfl _ _ rfl rfl x W.heap.size 1 rfl (ho.alloc (.cells #[I x] 3)) (by omega) (cell_new1 _ _ _) ?_; intro v' k' w' ho' hk' hr; obtain ⟨a', cap', rfl, _⟩ := ho'.form; have hk2 := (Kept.refl (fun j => lO = some j) W).alloc (.cells #[I x] 3) |>.trans' hk'; have hm' := (hk2.cell_some hc (fun e => h.dO _ e rfl)); have hf2 := (hk2.frozen (by exact hlt) (fun e => h.dO _ e rfl)).trans hf))
  go_end0
  exact ⟨rfl, h.set_out hk2 (by simpa using ho') hr.alloc⟩
theorem r_truth (h : RS b s lL lK lO W) (hn : s.out.length ≤ 1000) (x : Bool) : Calls Tryz.prog 79 #[.pointer (some ⟨b, 0, none⟩), .bool x] W fun e w' => e = .returned (.tuple #[]) ∧ REnds b { s with out := s.out ++ [bi x] } lL lK lO W w' := by
  cases x
  · go_enter Tryz.func79, Tryz.ntmps79
    go_wp2_with (go_at_call 77; refine (r_put h hn 0).mono ?_; rintro e w' ⟨rfl, hR⟩)
    go_end0
    exact ⟨rfl, hR⟩
  · go_enter Tryz.func79, Tryz.ntmps79
    go_wp2_with (go_at_call 77; refine (r_put h hn 1).mono ?_; rintro e w' ⟨rfl, hR⟩)
    ((try simp only [Exit.inBlock, Exit.then]); refine bodyPost_ret (results_none rfl _ _ _) rfl ?_)
    exact ⟨rfl, hR⟩
end Go.Proofs.Bm
