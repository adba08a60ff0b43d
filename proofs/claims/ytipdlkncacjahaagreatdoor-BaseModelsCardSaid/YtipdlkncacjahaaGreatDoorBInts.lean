/- Slices of ints that the call owns: Index, Contains, IndexFunc and append. No condition. -/
import Derived.Test.YtipdlkncacjahaaGreatDoorBShPlain
import Derived.Deep.LoopGhost
import Derived.Deep.Draws
import Derived.Test.YtipdlkncacjahaaGreatDoorBKit
set_option linter.unusedSimpArgs false
set_option linter.unusedVariables false
namespace Go.Proofs.Bm
open Go.RowKit Go.Sort
variable {w : World} {v : Value} {k : Option Nat} {xs : List Int}

/-- Where a number stands; -1 if it does not. -/
def idx (xs : List Int) (x : Int) : Int := Lib.idxOf xs x

theorem index_own (h : OwnI w v k xs) (x : Int) :
    Calls Tryz.prog 100 #[v, .int .i64 x] w fun e w' => e = .returned (.int .i64 (idx xs x)) ∧ w' = w := by
  rcases h.cases with ⟨rfl, rfl, rfl⟩ | ⟨b, off, cap, rfl, rfl⟩
  · exact Any.slices_Index_int_empty Tryz.laysIndex none 0 x w
  · obtain ⟨_, _, h1, h2, cur, h3, h4, h5⟩ := h.row
    have := Any.slices_Index_int Tryz.laysIndex b off xs.length cap xs x w (Nat.le_refl _) (by simp only [maxLen] at h2; omega) (fun j hj => by rw [h.cell (List.getElem?_eq_getElem hj)]; simp [hj])
    rw [List.take_length] at this
    exact this
theorem contains_own (h : OwnI w v k xs) (x : Int) :
    Calls Tryz.prog 95 #[v, .int .i64 x] w fun e w' => e = .returned (.bool (xs.contains x)) ∧ w' = w := by
  rcases h.cases with ⟨rfl, rfl, rfl⟩ | ⟨b, off, cap, rfl, rfl⟩
  · exact Any.slices_Contains_int_empty Tryz.laysContains none 0 x w
  · obtain ⟨_, _, h1, h2, cur, h3, h4, h5⟩ := h.row
    have := Any.slices_Contains_int Tryz.laysContains b off xs.length cap xs x w (Nat.le_refl _) (by simp only [maxLen] at h2; omega) (fun j hj => by rw [h.cell (List.getElem?_eq_getElem hj)]; simp [hj])
    rw [List.take_length] at this
    exact this

theorem info3 : (Tryz.prog.info? 3).map (fun i => (i.zero, i.size, i.bytes)) = some (some (.int .i64 0), 1, 8) := by kernel_rfl

theorem cell_new1 (w : World) (v : Value) (t : TypeId) : (w.alloc (.cells #[v] t)).cell? ⟨w.heap.size, 0, none⟩ = some v := by
  unfold World.cell?
  rw [heap_alloc, if_pos rfl]
  rfl

theorem run_append_I (t0 : TypeId) (h : OwnI w v k xs) (hn : xs.length ≤ 1000000) (x : Int) (vb c : Nat) (hx : w.cell? ⟨vb, 0, none⟩ = some (.int .i64 x)) :
    ∃ v' k' w', (Builtin.append_ #[25, 25] t0 #[v, .slice (some ⟨vb, 0, none⟩) 1 c]).run Tryz.prog w = .ok v' w' ∧ OwnI w' v' k' (xs ++ [x]) ∧ Kept (fun j => k = some j) w w' ∧ Row w k k' := by
  obtain ⟨i, hi, hz, hsz, hby⟩ := info_parts info3
  have hnews : ∀ j u, [Value.int .i64 x][j]? = some u → w.cell? ((⟨vb, 0, none⟩ : Addr).add j) = some u := by
    intro j u hj
    cases j with
    | zero => simp at hj; subst hj; simpa [Addr.add] using hx
    | succ j => simp at hj
  have oc : ∀ u ∈ [Value.int .i64 x], u.oneCell' = true := by
    intro u hu; simp at hu; subst hu; rfl
  rcases h.cases with ⟨rfl, rfl, rfl⟩ | ⟨b, off, cap, rfl, rfl⟩
  · obtain ⟨v', w', hrun, r1, r2, _⟩ := run_append_own (P := Tryz.prog) w w.heap.size 25 t0 3 i _ 1 8 Tryz.underlying25 hi hz hsz hby rfl (by omega) (.slice none 0 0) 0 [] (World.ownsRow_nil w _ 3 1) ⟨vb, 0, none⟩ 1 c [.int .i64 x] rfl hnews oc (by simp [maxLen]) (by omega) (Nat.le_refl _)
    refine ⟨v', v'.ownBlock, w', hrun, OwnI.of_owns r1 rfl rfl, ?_, ?_⟩
    · exact (Kept.refl _ w).grown r2 (fun k hk => by cases hk)
    · exact .inr (fun b hb => (r1.lt b hb).1)
  · obtain ⟨_, _, h1, h2, cur, h3, h4, h5⟩ := h.row
    by_cases hroom : xs.length + 1 ≤ cap
    · have hrun := run_append_room_cells (P := Tryz.prog) w 25 t0 3 i Tryz.underlying25 hi b off xs.length cap ⟨vb, 0, none⟩ 1 c [.int .i64 x] (by simp [hsz]) hnews oc hroom (fun j hj => by rw [hsz, Nat.mul_one, Nat.add_assoc]; exact h.some_cell (by simp at hj; omega)) (fun j hj => h.frozen _)
      rw [hsz, Nat.mul_one] at hrun
      obtain ⟨cur', g1, g2, g3, g4⟩ := setCells_row b 3 (0, 0) [.int .i64 x] (off + xs.length) w cur h3
      refine ⟨_, some b, _, hrun, ?_, (setCells_kept b _ _ w).mono (fun j e => by rw [e]), .inl rfl⟩
      have := OwnI.of_row (off := off) (cap := cap) (xs := xs ++ [x]) g1 (by simpa using hroom) h2 (by omega) ?_
      · simpa using this
      · intro j y hj
        by_cases hlt : j < xs.length
        · rw [List.getElem?_append_left hlt] at hj
          rw [g3 _ (by omega)]; exact h5 j y hj
        · have hl := (List.getElem?_eq_some_iff.1 hj).1
          have : j = xs.length := by simp at hl; omega
          subst this
          simp at hj
          subst hj
          have := g4 0 (.int .i64 x) rfl (by omega)
          simpa using this
    · obtain ⟨v', w', hrun, r1, r2⟩ := run_append_arg_grows (P := Tryz.prog) w 25 t0 3 i _ 1 8 Tryz.underlying25 hi hz hsz hby rfl (by omega) ⟨b, off, none⟩ xs.length cap (xs.map (Value.int .i64)) (by simp) (fun j u hj => by
        rw [Addr.add_lit]
        rw [List.getElem?_map] at hj
        cases hx' : xs[j]? with
        | none => simp [hx'] at hj
        | some y => simp [hx'] at hj; subst hj; exact h.cell hx') ⟨vb, 0, none⟩ 1 c [.int .i64 x] rfl hnews (by omega) (by simp only [maxLen]; omega) (by omega)
      refine ⟨v', v'.ownBlock, w', hrun, OwnI.of_owns r1 (by simp) (by simp), ?_, ?_⟩
      · exact (Kept.refl _ w).grown r2 (fun k hk => by cases hk)
      · exact .inr (fun b hb => (r1.lt b hb).1)

theorem wpList_append_I {ops : Array Oper} {rest : List Oper} {o : Oper} {a : Act} {Q : Exit → Act → World → Prop} (hg : o.guard = none) (s x : Operand) (hop : o.op = Op.call { callee := Callee.builtin Builtin.append, args := #[s, x], argTypes := #[25, 25] })
    (hs : a.eval s = v) (y : Int) (vb c : Nat) (hx : a.eval x = .slice (some ⟨vb, 0, none⟩) 1 c) (h : OwnI w v k xs) (hn : xs.length ≤ 1000000) (hy : w.cell? ⟨vb, 0, none⟩ = some (.int .i64 y))
    (hK : ∀ v' k' w', OwnI w' v' k' (xs ++ [y]) → Kept (fun j => k = some j) w w' → Row w k k' → wpList Tryz.prog ops Q rest (a.put o.dst v') w') :
    wpList Tryz.prog ops Q (o :: rest) a w := by
  refine wpList_plain hg fun K hK' => ?_
  obtain ⟨v', k', w', hrun, r1, r2, r3⟩ := run_append_I o.type h hn y vb c hy
  unfold Oper.wp
  simp [execOp, hop, resolve, invoke, builtin, hs, hx, hrun, Result.andThen]
  exact hK' _ _ (hK v' k' w' r1 r2 r3)

/-- The predicate of insert. -/
theorem pred103 (c : Nat) (a x : Int) (w : World) (hc : w.cell? ⟨c, 0, none⟩ = some (.int .i64 a)) :
    Calls Tryz.prog 103 #[.int .i64 x, .pointer (some ⟨c, 0, none⟩)] w fun e w' => e = .returned (.bool (decide (a ≤ x))) ∧ w = w' := by
  go_enter Tryz.func103, Tryz.ntmps103
  go_wp2
  go_ret
  exact ⟨by simp, rfl⟩
end Go.Proofs.Bm

namespace Go.Proofs.Bm
open Go.RowKit Go.Maps

/-- What a model knows. -/
structure St where
  l : List Int
  D : DataW Unit
  low : Int
  high : Int

/-- A model lies at n + 1: its keys at n, the variable that holds it at n + 2, its deeds at n + 3, what its quiet deeds call from n + 4 on; lk: the row of its list; q: how many keys were put at most. -/
structure MS (n : Nat) (L : List (ByteArray × Value)) (Q : List Value) (s : St) (q : Nat) (lk : Option Nat) (W : World) : Prop where
  m : ∃ lv, W.heap[n + 1]? = some (.cells #[lv, .map (some n), .int .i64 s.low, .int .i64 s.high, .map (some (n + 1 + 1 + 1))] 75 (0, 0)) ∧ OwnI W lv lk s.l
  far : ∀ b, lk = some b → n + 4 + Q.length ≤ b
  D : DMap W (n + 1 + 1 + 1) L
  K : W.ownsMap Tryz.prog 3 (plainElem (H := Unit) Tryz.prog 3) n q s.D
  box : W.heap[n + 1 + 1]? = some (.cells #[Value.pointer (some ⟨n + 1, 0, none⟩)] 45 (0, 0))
  qs : ∀ j v, Q[j]? = some v → W.heap[n + 4 + j]? = some (.cells #[v] 78 (0, 0))
  size : n + 4 + Q.length ≤ W.heap.size

/-- What a deed may turn. -/
def F (n : Nat) (lk : Option Nat) (k : Nat) : Prop := k = n ∨ k = n + 1 ∨ lk = some k

section
variable {n q : Nat} {L : List (ByteArray × Value)} {Q : List Value} {s : St} {lk lk' : Option Nat} {W w' : World} {v u : Value}

theorem MS.of_lay {w : World} (h : Lay w n W L Q) (hm : Mod n W (.map (some (n + 1 + 1 + 1)))) : MS n L Q ⟨[], .map [], 0, -1⟩ 0 none W :=
  ⟨⟨_, hm, OwnI.nil W⟩, (fun _ e => (by cases e)), h.D, h.K, h.box, h.qs, by rw [h.size]; exact Nat.le_refl _⟩

theorem MS.kept {G : Nat → Prop} (h : MS n L Q s q lk W) (hk : Kept G W w') (h1 : ∀ j, j < n + 4 + Q.length → n ≤ j → ¬ G j) (h2 : ∀ b, lk = some b → ¬ G b) : MS n L Q s q lk w' := by
  have hs := h.size
  have hb : ∀ j, j < n + 4 + Q.length → n ≤ j → w'.heap[j]? = W.heap[j]? := fun j hj hn => hk.block j (by omega) (h1 j hj hn)
  obtain ⟨lv, hm, ho⟩ := h.m
  refine ⟨⟨lv, (hb _ (by omega) (by omega)).trans hm, ho.kept hk h2⟩, h.far, ?_, ?_, (hb _ (by omega) (by omega)).trans h.box, fun j v hj => (hb _ ?_ (by omega)).trans (h.qs j v hj), Nat.le_trans h.size hk.size⟩
  · unfold DMap; rw [hb _ (by omega) (by omega)]; exact h.D
  · have := h.K
    obtain ⟨es, c, hh, r⟩ := this
    exact ⟨es, c, (hb n (by omega) (Nat.le_refl _)).trans hh, r⟩
  · have := (List.getElem?_eq_some_iff.1 hj).1; omega
theorem MS.alloc (h : MS n L Q s q lk W) (o : Obj) : MS n L Q s q lk (W.alloc o) := h.kept (G := fun _ => False) ((Kept.refl _ W).alloc o) (fun _ _ _ e => e) (fun _ _ e => e)
theorem MS.drew (h : MS n L Q s q lk W) : MS n L Q s q lk W.drew := h.kept (G := fun _ => False) (Kept.refl _ W).drew (fun _ _ _ e => e) (fun _ _ e => e)
theorem MS.lt (h : MS n L Q s q lk W) : ∀ b, lk = some b → b < W.heap.size := by
  obtain ⟨lv, hm, ho⟩ := h.m
  exact ho.lt
theorem MS.c1 (h : MS n L Q s q lk W) : W.cell? ⟨n + 1, 1, none⟩ = some (.map (some n)) := by obtain ⟨lv, hm, ho⟩ := h.m; simp [World.cell?, hm]
theorem MS.c2 (h : MS n L Q s q lk W) : W.cell? ⟨n + 1, 2, none⟩ = some (.int .i64 s.low) := by obtain ⟨lv, hm, ho⟩ := h.m; simp [World.cell?, hm]
theorem MS.c3 (h : MS n L Q s q lk W) : W.cell? ⟨n + 1, 3, none⟩ = some (.int .i64 s.high) := by obtain ⟨lv, hm, ho⟩ := h.m; simp [World.cell?, hm]
theorem MS.c4 (h : MS n L Q s q lk W) : W.cell? ⟨n + 1, 4, none⟩ = some (.map (some (n + 1 + 1 + 1))) := by obtain ⟨lv, hm, ho⟩ := h.m; simp [World.cell?, hm]
theorem MS.f (h : MS n L Q s q lk W) (o : Nat) : W.frozen? ⟨n + 1, o, none⟩ = false := by obtain ⟨lv, hm, ho⟩ := h.m; simp [World.frozen?, hm]
theorem MS.c0 (h : MS n L Q s q lk W) : ∃ lv, W.cell? ⟨n + 1, 0, none⟩ = some lv ∧ OwnI W lv lk s.l := by obtain ⟨lv, hm, ho⟩ := h.m; exact ⟨lv, by simp [World.cell?, hm], ho⟩
theorem MS.cbox (h : MS n L Q s q lk W) : W.cell? ⟨n + 1 + 1, 0, none⟩ = some (.pointer (some ⟨n + 1, 0, none⟩)) := by simp [World.cell?, h.box]
theorem MS.cq (h : MS n L Q s q lk W) {j : Nat} (hj : Q[j]? = some v) : W.cell? ⟨n + 4 + j, 0, none⟩ = some v := by simp [World.cell?, h.qs j v hj]

theorem Row.alloc {o : Obj} (h : Row (W.alloc o) lk lk') : Row W lk lk' := by
  rcases h with h | h
  · exact .inl h
  · exact .inr fun b e => by have := h b e; simp at this; omega
theorem Row.of_le {W' : World} (h : Row W' lk lk') (hs : W.heap.size ≤ W'.heap.size) : Row W lk lk' := by
  rcases h with h | h
  · exact .inl h
  · exact .inr fun b e => by have := h b e; omega

/-- The list's row has turned: the new one is stored. -/
theorem MS.set_l {l' : List Int} (h : MS n L Q s q lk W) (hk : Kept (fun j => lk = some j) W w') (ho : OwnI w' v lk' l') (hr : Row W lk lk') : MS n L Q { s with l := l' } q lk' (w'.setCell ⟨n + 1, 0, none⟩ v) := by
  have hs := h.size
  have hfar' : ∀ b, lk' = some b → n + 4 + Q.length ≤ b := by
    intro b hb
    rcases hr with rfl | hr
    · exact h.far b hb
    · have := hr b hb; omega
  have hb : ∀ j, j < n + 4 + Q.length → w'.heap[j]? = W.heap[j]? := fun j hj => hk.block j (by omega) (fun e => by have := h.far j e; omega)
  obtain ⟨lv, hm, _⟩ := h.m
  have hm' := (hb (n + 1) (by omega)).trans hm
  have ho' : OwnI (w'.setCell ⟨n + 1, 0, none⟩ v) v lk' l' := ho.setCell (fun e => by have := hfar' _ e; simp at this; omega) v
  have hbs : ∀ j, j < n + 4 + Q.length → j ≠ n + 1 → (w'.setCell ⟨n + 1, 0, none⟩ v).heap[j]? = W.heap[j]? := fun j hj hne => (heap_setCell _ _ _ _ hne).trans (hb j hj)
  refine ⟨⟨v, ?_, ho'⟩, hfar', ?_, ?_, (hbs _ (by omega) (by omega)).trans h.box, fun j v hj => (hbs _ ?_ (by omega)).trans (h.qs j v hj), ?_⟩
  · rw [heap_setCell_same _ _ _ _ hm']; rfl
  · unfold DMap; rw [hbs _ (by omega) (by omega)]; exact h.D
  · obtain ⟨es, c, hh, r⟩ := h.K
    exact ⟨es, c, (hbs n (by omega) (by omega)).trans hh, r⟩
  · have := (List.getElem?_eq_some_iff.1 hj).1; omega
  · have := hk.size; simp [World.setCell]; omega
theorem MS.set_l_kept (h : MS n L Q s q lk W) (hk : Kept (fun j => lk = some j) W w') : Kept (F n lk) W (w'.setCell ⟨n + 1, 0, none⟩ v) :=
  (hk.mono (fun j e => .inr (.inr e))).setCell (fun _ => .inr (.inl rfl)) v
theorem MS.keep (h : MS n L Q s q lk W) (hk : Kept (fun j => lk = some j) W w') : Kept (F n lk) W w' := hk.mono (fun j e => .inr (.inr e))
/-- The elements have turned in place. -/
theorem MS.turn_l {l' : List Int} (h : MS n L Q s q lk W) (hc : W.cell? ⟨n + 1, 0, none⟩ = some v) (hk : Kept (fun j => lk = some j) W w') (ho : OwnI w' v lk l') : MS n L Q { s with l := l' } q lk w' := by
  have hs := h.size
  have hb : ∀ j, j < n + 4 + Q.length → w'.heap[j]? = W.heap[j]? := fun j hj => hk.block j (by omega) (fun e => by have := h.far j e; omega)
  obtain ⟨lv, hm, _⟩ := h.m
  have e : lv = v := by simp [World.cell?, hm] at hc; exact hc
  subst e
  refine ⟨⟨lv, (hb _ (by omega)).trans hm, ho⟩, h.far, ?_, ?_, (hb _ (by omega)).trans h.box, fun j v hj => (hb _ ?_).trans (h.qs j v hj), ?_⟩
  · unfold DMap; rw [hb _ (by omega)]; exact h.D
  · obtain ⟨es, c, hh, r⟩ := h.K
    exact ⟨es, c, (hb n (by omega)).trans hh, r⟩
  · have := (List.getElem?_eq_some_iff.1 hj).1; omega
  · have := hk.size; omega
theorem MS.set_low (h : MS n L Q s q lk W) (x : Int) : MS n L Q { s with low := x } q lk (W.setCell ⟨n + 1, 2, none⟩ (.int .i64 x)) := by
  have hs := h.size
  obtain ⟨lv, hm, ho⟩ := h.m
  have hbs : ∀ j, j ≠ n + 1 → (W.setCell ⟨n + 1, 2, none⟩ (.int .i64 x)).heap[j]? = W.heap[j]? := fun j hne => heap_setCell _ _ _ _ hne
  refine ⟨⟨lv, by rw [heap_setCell_same _ _ _ _ hm]; rfl, ho.setCell (fun e => by have := h.far _ e; simp at this; omega) _⟩, h.far, ?_, ?_, (hbs _ (by omega)).trans h.box, fun j v hj => (hbs _ (by omega)).trans (h.qs j v hj), by simpa [World.setCell] using hs⟩
  · unfold DMap; rw [hbs _ (by omega)]; exact h.D
  · obtain ⟨es, c, hh, r⟩ := h.K
    exact ⟨es, c, (hbs n (by omega)).trans hh, r⟩
theorem MS.set_high (h : MS n L Q s q lk W) (x : Int) : MS n L Q { s with high := x } q lk (W.setCell ⟨n + 1, 3, none⟩ (.int .i64 x)) := by
  have hs := h.size
  obtain ⟨lv, hm, ho⟩ := h.m
  have hbs : ∀ j, j ≠ n + 1 → (W.setCell ⟨n + 1, 3, none⟩ (.int .i64 x)).heap[j]? = W.heap[j]? := fun j hne => heap_setCell _ _ _ _ hne
  refine ⟨⟨lv, by rw [heap_setCell_same _ _ _ _ hm]; rfl, ho.setCell (fun e => by have := h.far _ e; simp at this; omega) _⟩, h.far, ?_, ?_, (hbs _ (by omega)).trans h.box, fun j v hj => (hbs _ (by omega)).trans (h.qs j v hj), by simpa [World.setCell] using hs⟩
  · unfold DMap; rw [hbs _ (by omega)]; exact h.D
  · obtain ⟨es, c, hh, r⟩ := h.K
    exact ⟨es, c, (hbs n (by omega)).trans hh, r⟩
/-- The keys have turned. -/
theorem MS.set_D {D' : DataW Unit} {q' : Nat} (h : MS n L Q s q lk W) (hk : Kept (fun j => j = n) W w') (hK : w'.ownsMap Tryz.prog 3 (plainElem (H := Unit) Tryz.prog 3) n q' D') : MS n L Q { s with D := D' } q' lk w' := by
  have hs := h.size
  have hb : ∀ j, j < n + 4 + Q.length → j ≠ n → w'.heap[j]? = W.heap[j]? := fun j hj hn => hk.block j (by omega) hn
  obtain ⟨lv, hm, ho⟩ := h.m
  refine ⟨⟨lv, (hb _ (by omega) (by omega)).trans hm, ho.kept hk (fun b e e' => by have := h.far b e; omega)⟩, h.far, ?_, hK, (hb _ (by omega) (by omega)).trans h.box, fun j v hj => (hb _ ?_ (by omega)).trans (h.qs j v hj), Nat.le_trans hs hk.size⟩
  · unfold DMap; rw [hb _ (by omega) (by omega)]; exact h.D
  · have := (List.getElem?_eq_some_iff.1 hj).1; omega
theorem MS.more {q' : Nat} (h : MS n L Q s q lk W) (hq : q ≤ q') : MS n L Q s q' lk W := ⟨h.m, h.far, h.D, h.K.mono hq, h.box, h.qs, h.size⟩
end

theorem Row.trans {lk lk1 lk2 : Option Nat} {W w1 : World} (hr : Row W lk lk1) (hs : W.heap.size ≤ w1.heap.size) (hr2 : Row w1 lk1 lk2) : Row W lk lk2 := by
  rcases hr2 with rfl | h
  · exact hr
  · exact .inr fun b e => by have := h b e; omega
theorem F.trans {n : Nat} {lk lk1 : Option Nat} {W w1 w2 : World} (h : Kept (F n lk) W w1) (hr : Row W lk lk1) (h2 : Kept (F n lk1) w1 w2) : Kept (F n lk) W w2 := by
  refine h.trans h2 fun i hi e => ?_
  rcases e with e | e | e
  · exact .inl e
  · exact .inr (.inl e)
  · rcases hr with rfl | hr
    · exact .inr (.inr e)
    · have := hr i e; omega

/-- How a deed ends. -/
inductive Out where
  | ret (r : Int)
  | stop (f e : Int)

/-- A deed's end, and its world; v: what it returns. -/
def Ends (n : Nat) (L : List (ByteArray × Value)) (Q : List Value) (s' : St) (q' : Nat) (lk : Option Nat) (W : World) (o : Out) (val : Int → Value) (e : Ending) (w' : World) : Prop :=
  Kept (F n lk) W w' ∧ match o with
    | .ret r => e = .returned (val r) ∧ ∃ lk', MS n L Q s' q' lk' w' ∧ Row W lk lk'
    | .stop f e0 => e = .panicked (stopC f e0)

abbrev P1 (n : Nat) : Value := .pointer (some ⟨n + 1, 0, none⟩)
end Go.Proofs.Bm

namespace Go.Proofs.Bm
open Go.RowKit Go.Maps
variable {n q : Nat} {L : List (ByteArray × Value)} {Q : List Value} {s : St} {lk : Option Nat} {W : World}

abbrev I (r : Int) : Value := .int .i64 r
abbrev N0 (_ : Int) : Value := .tuple #[]

/-- 1 or 0. -/
def bi (b : Bool) : Int := if b then 1 else 0
theorem truth_bi (b : Bool) (w : World) : Calls Tryz.prog 94 #[.bool b] w fun e w' => e = .returned (.int .i64 (bi b)) ∧ w = w' := truth_any b w

theorem Ends.same (hM : MS n L Q s q lk W) (val : Int → Value) (r : Int) : Ends n L Q s q lk W (.ret r) val (.returned (val r)) W := ⟨Kept.refl _ _, rfl, lk, hM, .inl rfl⟩
theorem Ends.halt (val : Int → Value) (f e : Int) (s : St) : Ends n L Q s q lk W (.stop f e) val (.panicked (stopC f e)) W := ⟨Kept.refl _ _, rfl⟩

theorem d_count (hM : MS n L Q s q lk W) (x y : Int) : Calls Tryz.prog 33 #[P1 n, I x, I y] W fun e w' => Ends n L Q s q lk W (.ret s.l.length) I e w' := by
  obtain ⟨lv, hc, ho⟩ := hM.c0
  obtain ⟨a, cap, rfl, _⟩ := ho.form
  refine (count_any (n + 1) s.l.length cap a x y W hc).mono ?_
  rintro e w' ⟨rfl, rfl⟩
  exact .same hM I _

theorem d_has (hM : MS n L Q s q lk W) (x y : Int) : Calls Tryz.prog 34 #[P1 n, I x, I y] W fun e w' => Ends n L Q s q lk W (.ret (bi (decide (x ∈ s.l)))) I e w' := by
  obtain ⟨lv, hc, ho⟩ := hM.c0
  go_enter Tryz.func34, Tryz.ntmps34
  go_wp2_with (first
    | (go_at_call 95; refine (contains_own ho _).mono ?_; rintro e w' ⟨rfl, rfl⟩)
    | (go_at_call 94; refine (truth_bi _ _).mono ?_; rintro e w' ⟨rfl, rfl⟩))
  go_ret
  exact .same hM I _

theorem d_push (hM : MS n L Q s q lk W) (hn : s.l.length ≤ 1000) (x y : Int) : Calls Tryz.prog 37 #[P1 n, I x, I y] W fun e w' => Ends n L Q { s with l := x :: s.l } q lk W (.ret 0) N0 e w' := by
  obtain ⟨lv, hc, ho⟩ := hM.c0
  have hlt := World.block_lt_of_cell? W _ hc
  have hls : lk ≠ some W.heap.size := fun e => by have := hM.lt _ e; omega
  have ht := insert_own (ho.alloc (.cells #[I x] 3)) 0 (Nat.zero_le _) (by omega) x W.heap.size 1 #[I x] (by rw [heap_alloc]; exact if_pos rfl) rfl hls
  have hf := hM.f 0
  go_enter Tryz.func37, Tryz.ntmps37
  go_wp2_with (first
    | (go_at_call 98; refine ht.mono ?_; rintro e w' ⟨v', k', rfl, ho', hk', hr⟩; obtain ⟨a', cap', rfl, _⟩ := ho'.form; have hk2 := (Kept.refl (fun j => lk = some j) W).alloc (.cells #[I x] 3) |>.trans' hk'; have hm' := (hk2.cell_some hc (fun e => by have := hM.far _ e; simp at this; omega)); have hf2 := (hk2.frozen (by exact hlt) (fun e => by have := hM.far _ e; simp at this; omega)).trans hf))
  go_end0
  exact ⟨hM.set_l_kept hk2, rfl, k', by simpa using hM.set_l hk2 ho' hr.alloc, hr.alloc⟩
end Go.Proofs.Bm

namespace Go.Proofs.Bm
open Go.RowKit Go.Maps
variable {n q : Nat} {L : List (ByteArray × Value)} {Q : List Value} {s : St} {lk : Option Nat} {W : World}

theorem d_extend (hM : MS n L Q s q lk W) (hn : s.l.length ≤ 1000) (x y : Int) : Calls Tryz.prog 38 #[P1 n, I x, I y] W fun e w' => Ends n L Q { s with l := s.l ++ [x] } q lk W (.ret 0) N0 e w' := by
  obtain ⟨lv, hc, ho⟩ := hM.c0
  have hlt := World.block_lt_of_cell? W _ hc
  have hf := hM.f 0
  go_enter Tryz.func38, Tryz.ntmps38
  go_wp2_with (first
    | (at_builtin; refine wpList_append_I rfl _ _ rfl rfl x W.heap.size 1 rfl (ho.alloc (.cells #[I x] 3)) (by omega) (cell_new1 _ _ _) ?_; intro v' k' w' ho' hk' hr; obtain ⟨a', cap', rfl, _⟩ := ho'.form; have hk2 := (Kept.refl (fun j => lk = some j) W).alloc (.cells #[I x] 3) |>.trans' hk'; have hm' := (hk2.cell_some hc (fun e => by have := hM.far _ e; simp at this; omega)); have hf2 := (hk2.frozen (by exact hlt) (fun e => by have := hM.far _ e; simp at this; omega)).trans hf))
  go_end0
  exact ⟨hM.set_l_kept hk2, rfl, k', hM.set_l hk2 (by simpa using ho') hr.alloc, hr.alloc⟩

theorem d_reverse (hM : MS n L Q s q lk W) (x y : Int) : Calls Tryz.prog 39 #[P1 n, I x, I y] W fun e w' => Ends n L Q { s with l := s.l.reverse } q lk W (.ret 0) N0 e w' := by
  obtain ⟨lv, hc, ho⟩ := hM.c0
  go_enter Tryz.func39, Tryz.ntmps39
  go_wp2_with (go_at_call 99; refine (reverse_own ho).mono ?_; rintro e w' ⟨rfl, ho', hk'⟩)
  go_end0
  exact ⟨hM.keep hk', rfl, lk, hM.turn_l hc hk' ho', .inl rfl⟩

theorem d_wipe (hM : MS n L Q s q lk W) (x y : Int) : Calls Tryz.prog 42 #[P1 n, I x, I y] W fun e w' => Ends n L Q { s with l := [] } q lk W (.ret 0) N0 e w' := by
  obtain ⟨lv, hc, ho⟩ := hM.c0
  obtain ⟨a0, cap, rfl, _⟩ := ho.form
  have hf := hM.f 0
  go_enter Tryz.func42, Tryz.ntmps42
  go_wp2
  go_end0
  exact ⟨hM.set_l_kept (Kept.refl _ W), rfl, none, hM.set_l (Kept.refl _ W) (OwnI.nil W) (.inr fun _ e => (by cases e)), .inr fun _ e => (by cases e)⟩

theorem d_item_in (hM : MS n L Q s q lk W) (j : Nat) (z y : Int) (hz : s.l[j]? = some z) : Calls Tryz.prog 40 #[P1 n, I (j + 1), I y] W fun e w' => Ends n L Q s q lk W (.ret z) I e w' := by
  obtain ⟨lv, hc, ho⟩ := hM.c0
  have hl := (List.getElem?_eq_some_iff.1 hz).1
  rcases ho.cases with ⟨_, _, h0⟩ | ⟨b, off, cap, rfl, rfl⟩
  · rw [h0] at hl; simp at hl
  have hz' := ho.cell hz
  obtain ⟨_, _, h1, h2, _⟩ := ho.row
  simp only [maxLen] at h2
  have t := must_true 1
  have a1 : (1 : Int) ≤ (j : Int) + 1 := by omega
  have a2 : (j : Int) + 1 ≤ (s.l.length : Int) := by omega
  go_enter Tryz.func40, Tryz.ntmps40
  go_wp2_with (go_at_call 59; refine (must_true _ _).mono ?_; rintro e w' ⟨rfl, rfl⟩)
  go_ret
  exact .same hM I _

theorem d_item_out (hM : MS n L Q s q lk W) (x y : Int) (hz : x < 1 ∨ (s.l.length : Int) < x) : Calls Tryz.prog 40 #[P1 n, I x, I y] W fun e w' => Ends n L Q s q lk W (.stop 1 0) I e w' := by
  obtain ⟨lv, hc, ho⟩ := hM.c0
  obtain ⟨a0, cap, rfl, _⟩ := ho.form
  by_cases h1 : 1 ≤ x
  · have h2 : ¬ x ≤ (s.l.length : Int) := by omega
    go_enter Tryz.func40, Tryz.ntmps40
    go_wp2_with (go_at_call 59; refine (must_false _ _).mono ?_; rintro e w' ⟨rfl, rfl⟩)
    exact ⟨rfl, .halt I _ _ _⟩
  · go_enter Tryz.func40, Tryz.ntmps40
    go_wp2_with (go_at_call 59; refine (must_false _ _).mono ?_; rintro e w' ⟨rfl, rfl⟩)
    exact ⟨rfl, .halt I _ _ _⟩
end Go.Proofs.Bm
