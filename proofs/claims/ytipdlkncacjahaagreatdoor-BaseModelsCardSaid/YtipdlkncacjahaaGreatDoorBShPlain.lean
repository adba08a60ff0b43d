/- The library functions that the deeds call, laid at this program. No condition. -/
import Derived.Test.YtipdlkncacjahaaGreatDoorProg
import Derived.Ground.NamesProg
import Derived.Ground.Names2Prog
import Derived.Shelf.Lay
import Derived.Shelf.Slices.Reverse
import Derived.Shelf.Slices.Turned
import Derived.Shelf.Slices.Delete
import Derived.Shelf.Spec.SlicesInsert
import Derived.Shelf.Spec.SlicesInsertGrow
import Derived.Test.YtipdlkncacjahaaGreatDoorBKit
import Derived.ArgAppend
import Derived.Lib.RowBridge
set_option linter.unusedSimpArgs false
set_option linter.unusedVariables false
namespace Go.Proofs
open Go.Shelf
def Tryz.laysReverse_ren : Go.Shelf.Ren := ⟨fun | 112 => 99 | n => n, fun | 28 => 25 | 3 => 3 | 4 => 4 | 0 => 0 | n => n, fun | n => n⟩
theorem Tryz.laysReverse : Go.Proofs.Lays.n112 Tryz.prog Tryz.laysReverse_ren := {
  mixed := by kernel_rfl
  f112 := Tryz.func99.trans (congrArg some (by kernel_rfl))
  t0 := Tryz.underlying0
  a0 := Tryz.isAgg0
  z0 := Tryz.sizeOf0
  v0 := Tryz.zeroValue0
  t3 := Tryz.underlying3
  a3 := Tryz.isAgg3
  z3 := Tryz.sizeOf3
  v3 := Tryz.zeroValue3
  t4 := Tryz.underlying4
  a4 := Tryz.isAgg4
  z4 := Tryz.sizeOf4
  v4 := Tryz.zeroValue4
  t28 := Tryz.underlying25
  a28 := Tryz.isAgg25
  z28 := Tryz.sizeOf25
  v28 := Tryz.zeroValue25 }
def Tryz.laysIndex_ren : Go.Shelf.Ren := ⟨fun | 108 => 100 | n => n, fun | 28 => 25 | 3 => 3 | 0 => 0 | 4 => 4 | n => n, fun | n => n⟩
theorem Tryz.laysIndex : Go.Proofs.Lays.n108 Tryz.prog Tryz.laysIndex_ren := {
  mixed := by kernel_rfl
  f108 := Tryz.func100.trans (congrArg some (by kernel_rfl))
  t0 := Tryz.underlying0
  a0 := Tryz.isAgg0
  z0 := Tryz.sizeOf0
  v0 := Tryz.zeroValue0
  t3 := Tryz.underlying3
  a3 := Tryz.isAgg3
  z3 := Tryz.sizeOf3
  v3 := Tryz.zeroValue3
  t4 := Tryz.underlying4
  a4 := Tryz.isAgg4
  z4 := Tryz.sizeOf4
  v4 := Tryz.zeroValue4
  t28 := Tryz.underlying25
  a28 := Tryz.isAgg25
  z28 := Tryz.sizeOf25
  v28 := Tryz.zeroValue25 }
def Tryz.laysContains_ren : Go.Shelf.Ren := ⟨fun | 107 => 95 | 108 => 100 | n => n, fun | 28 => 25 | 3 => 3 | 4 => 4 | 0 => 0 | n => n, fun | n => n⟩
theorem Tryz.laysContains : Go.Proofs.Lays.n107 Tryz.prog Tryz.laysContains_ren := {
  mixed := by kernel_rfl
  f107 := Tryz.func95.trans (congrArg some (by kernel_rfl))
  f108 := Tryz.func100.trans (congrArg some (by kernel_rfl))
  t0 := Tryz.underlying0
  a0 := Tryz.isAgg0
  z0 := Tryz.sizeOf0
  v0 := Tryz.zeroValue0
  t3 := Tryz.underlying3
  a3 := Tryz.isAgg3
  z3 := Tryz.sizeOf3
  v3 := Tryz.zeroValue3
  t4 := Tryz.underlying4
  a4 := Tryz.isAgg4
  z4 := Tryz.sizeOf4
  v4 := Tryz.zeroValue4
  t28 := Tryz.underlying25
  a28 := Tryz.isAgg25
  z28 := Tryz.sizeOf25
  v28 := Tryz.zeroValue25 }
def Tryz.laysDelete_ren : Go.Shelf.Ren := ⟨fun | 23 => 101 | n => n, fun | 22 => 25 | 3 => 3 | 4 => 4 | 0 => 0 | n => n, fun | n => n⟩
theorem Tryz.laysDelete : Go.Proofs.Lays2.n23 Tryz.prog Tryz.laysDelete_ren := {
  mixed := by kernel_rfl
  f23 := Tryz.func101.trans (congrArg some (by kernel_rfl))
  t0 := Tryz.underlying0
  a0 := Tryz.isAgg0
  z0 := Tryz.sizeOf0
  v0 := Tryz.zeroValue0
  t3 := Tryz.underlying3
  a3 := Tryz.isAgg3
  z3 := Tryz.sizeOf3
  v3 := Tryz.zeroValue3
  t4 := Tryz.underlying4
  a4 := Tryz.isAgg4
  z4 := Tryz.sizeOf4
  v4 := Tryz.zeroValue4
  t22 := Tryz.underlying25
  a22 := Tryz.isAgg25
  z22 := Tryz.sizeOf25
  v22 := Tryz.zeroValue25
  i3 := by kernel_rfl }
def Tryz.laysInsert_ren : Go.Shelf.Ren := ⟨fun | 21 => 98 | 27 => 112 | 28 => 113 | 35 => 117 | 39 => 99 | n => n, fun | 22 => 25 | 3 => 3 | 4 => 4 | 0 => 0 | n => n, fun | n => n⟩
theorem Tryz.laysInsert : Go.Proofs.Lays2.n21 Tryz.prog Tryz.laysInsert_ren := {
  mixed := by kernel_rfl
  f21 := Tryz.func98.trans (congrArg some (by kernel_rfl))
  f27 := Tryz.func112.trans (congrArg some (by kernel_rfl))
  f28 := Tryz.func113.trans (congrArg some (by kernel_rfl))
  f35 := Tryz.func117.trans (congrArg some (by kernel_rfl))
  f39 := Tryz.func99.trans (congrArg some (by kernel_rfl))
  t0 := Tryz.underlying0
  a0 := Tryz.isAgg0
  z0 := Tryz.sizeOf0
  v0 := Tryz.zeroValue0
  t3 := Tryz.underlying3
  a3 := Tryz.isAgg3
  z3 := Tryz.sizeOf3
  v3 := Tryz.zeroValue3
  t4 := Tryz.underlying4
  a4 := Tryz.isAgg4
  z4 := Tryz.sizeOf4
  v4 := Tryz.zeroValue4
  t22 := Tryz.underlying25
  a22 := Tryz.isAgg25
  z22 := Tryz.sizeOf25
  v22 := Tryz.zeroValue25
  i3 := by kernel_rfl }
end Go.Proofs

namespace Go.Proofs.Bm
open Go.RowKit Go.Sort

namespace OwnI
variable {w w' : World} {v : Value} {k : Option Nat} {xs : List Int}
/-- From the block. -/
theorem of_row {b off cap : Nat} {cur : Array Value} (h1 : w.heap[b]? = some (.cells cur 3 (0, 0))) (h2 : xs.length ≤ cap) (h3 : cap ≤ maxLen) (h4 : off + cap ≤ cur.size) (h5 : ∀ j x, xs[j]? = some x → cur[off + j]? = some (.int .i64 x)) :
    OwnI w (.slice (some ⟨b, off, none⟩) xs.length cap) (some b) xs := by
  refine .inr ⟨b, off, cap, cur, rfl, rfl, h1, h2, h3, h4, ?_⟩
  apply List.ext_getElem?
  intro j
  rw [List.getElem?_take]
  split
  · rename_i hj
    rw [List.getElem?_drop, List.getElem?_map, List.getElem?_eq_getElem hj]
    have := h5 j _ (List.getElem?_eq_getElem hj)
    simpa using this
  · rename_i hj
    rw [List.getElem?_eq_none (by simpa using hj)]
/-- What the block holds. -/
theorem row {b off : Nat} {n cap : Nat} (h : OwnI w (.slice (some ⟨b, off, none⟩) n cap) k xs) :
    n = xs.length ∧ k = some b ∧ xs.length ≤ cap ∧ cap ≤ maxLen ∧ ∃ cur, w.heap[b]? = some (.cells cur 3 (0, 0)) ∧ off + cap ≤ cur.size ∧ ∀ j x, xs[j]? = some x → cur[off + j]? = some (.int .i64 x) := by
  rcases h with ⟨h, _⟩ | ⟨b', off', cap', cur, h1, rfl, h3, h4, h5, h6, h7⟩
  · cases h
  · cases h1
    refine ⟨rfl, rfl, h4, h5, cur, h3, h6, fun j x hj => ?_⟩
    have hl := (List.getElem?_eq_some_iff.1 hj).1
    have := congrArg (fun l => l[j]?) h7
    simp only [List.getElem?_take, hl, if_true, List.getElem?_drop, List.getElem?_map, hj] at this
    simpa using this
theorem cases (h : OwnI w v k xs) : (v = .slice none 0 0 ∧ k = none ∧ xs = []) ∨ ∃ b off cap, v = .slice (some ⟨b, off, none⟩) xs.length cap ∧ k = some b := by
  rcases h with h | ⟨b', off', cap', cur, h1, h2, _⟩
  · exact .inl h
  · exact .inr ⟨_, _, _, h1, h2⟩
theorem of_owns {base : Nat} {n : Nat} {vs : List Value} (h : w.ownsRow base 3 1 v n vs) (hn : n = xs.length) (hv : vs = xs.map (Value.int .i64)) : OwnI w v v.ownBlock xs := by
  obtain ⟨h1, h2 | ⟨g, cap, cur, h3, h4, h5, h6, h7, h8, h9⟩⟩ := h
  · obtain ⟨rfl, h0⟩ := h2
    rw [hn] at h0
    exact .inl ⟨rfl, rfl, List.eq_nil_of_length_eq_zero h0⟩
  · subst h3
    subst hn
    refine .inr ⟨g, 0, cap, cur, rfl, rfl, h5, h6, h7, by rw [h8]; omega, ?_⟩
    simpa [hv] using h9
theorem cell {b off : Nat} {n cap : Nat} (h : OwnI w (.slice (some ⟨b, off, none⟩) n cap) k xs) {j : Nat} {x : Int} (hj : xs[j]? = some x) : w.cell? ⟨b, off + j, none⟩ = some (.int .i64 x) := by
  obtain ⟨_, _, _, _, cur, h1, _, h2⟩ := h.row
  simp [World.cell?, h1, h2 j x hj]
theorem some_cell {b off : Nat} {n cap : Nat} (h : OwnI w (.slice (some ⟨b, off, none⟩) n cap) k xs) {j : Nat} (hj : j < cap) : (w.cell? ⟨b, off + j, none⟩).isSome = true := by
  obtain ⟨_, _, _, _, cur, h1, h3, h2⟩ := h.row
  have : off + j < cur.size := by omega
  simp [World.cell?, h1, this]
theorem frozen {b off : Nat} {n cap : Nat} (h : OwnI w (.slice (some ⟨b, off, none⟩) n cap) k xs) (o : Nat) : w.frozen? ⟨b, o, none⟩ = false := by
  obtain ⟨_, _, _, _, cur, h1, h3, h2⟩ := h.row
  simp [World.frozen?, h1]
end OwnI

/-- The cells that are set, and no other. -/
theorem setCells_row (b : Nat) (e : TypeId) (fr : Nat × Nat) : ∀ (vs : List Value) (o : Nat) (w : World) (cur : Array Value), w.heap[b]? = some (.cells cur e fr) →
    ∃ cur', (w.setCells b o vs).heap[b]? = some (.cells cur' e fr) ∧ cur'.size = cur.size ∧ (∀ i, (i < o ∨ o + vs.length ≤ i) → cur'[i]? = cur[i]?) ∧ (∀ j v, vs[j]? = some v → o + j < cur.size → cur'[o + j]? = some v)
  | [], o, w, cur, h => ⟨cur, h, rfl, fun _ _ => rfl, fun j v hj => by simp at hj⟩
  | v :: r, o, w, cur, h => by
    have h1 : (w.setCell ⟨b, o, none⟩ v).heap[b]? = some (.cells (cur.setIfInBounds o v) e fr) := by
      simp [World.setCell, Array.getElem?_modify, h]
    obtain ⟨cur', g1, g2, g3, g4⟩ := setCells_row b e fr r (o + 1) _ _ h1
    refine ⟨cur', g1, by simpa using g2, fun i hi => ?_, fun j x hj hlt => ?_⟩
    · simp only [List.length_cons] at hi
      rw [g3 i (by omega), Array.getElem?_setIfInBounds, if_neg (by omega)]
    · cases j with
      | zero =>
        simp at hj
        subst hj
        rw [Nat.add_zero, g3 o (by omega), Array.getElem?_setIfInBounds, if_pos rfl, if_pos (by omega)]
      | succ j =>
        have := g4 j x (by simpa using hj) (by simpa using (by omega : o + 1 + j < cur.size))
        rwa [show o + (j + 1) = o + 1 + j by omega]

theorem setCells_size (b : Nat) : ∀ (vs : List Value) (o : Nat) (w : World), (w.setCells b o vs).heap.size = w.heap.size
  | [], _, _ => rfl
  | v :: r, o, w => by rw [World.setCells, setCells_size b r]; simp [World.setCell]
theorem setCells_kept (b : Nat) : ∀ (vs : List Value) (o : Nat) (w : World), Kept (fun j => j = b) w (w.setCells b o vs)
  | [], _, w => Kept.refl _ w
  | v :: r, o, w => (Kept.setCell (F := fun j => j = b) (Kept.refl _ w) (p := ⟨b, o, none⟩) (fun _ => rfl) v).trans' (setCells_kept b r (o + 1) _)

theorem putRow_kept {α : Type} [Inhabited α] (enc : α → Value) (w : World) (q b off : Nat) (d : Array α) : Kept (fun j => j = b) w (putRow enc (Sort.ahead w q) b off d) := by
  refine ⟨rfl, rfl, rfl, by simp [Sort.ahead], fun j hj hn => ?_⟩
  show ((Sort.ahead w q).heap.modify b _)[j]? = _
  rw [Array.getElem?_modify, if_neg (fun e => hn e.symm)]
  rfl
theorem putRow_row {α : Type} [Inhabited α] (enc : α → Value) (w : World) (q b off : Nat) (d : Array α) {cur : Array Value} {e : TypeId} {fr : Nat × Nat} (h : w.heap[b]? = some (.cells cur e fr)) :
    (putRow enc (Sort.ahead w q) b off d).heap[b]? = some (.cells (putCells enc off d cur) e fr) := by
  show ((Sort.ahead w q).heap.modify b _)[b]? = _
  rw [Array.getElem?_modify, if_pos rfl]
  show Option.map _ w.heap[b]? = _
  rw [h]; rfl
theorem putCells_get {α : Type} [Inhabited α] (enc : α → Value) (off : Nat) (d : Array α) (cur : Array Value) (j : Nat) (hj : j < d.size) (hc : off + j < cur.size) : (putCells enc off d cur)[off + j]? = some (enc d[j]!) := by
  unfold putCells
  rw [Array.getElem?_mapIdx, Array.getElem?_eq_getElem hc]
  simp [hj]

/-- The new block, or the old one. -/
def Row (w : World) (k k' : Option Nat) : Prop := k' = k ∨ ∀ b, k' = some b → w.heap.size ≤ b

variable {w : World} {v : Value} {k : Option Nat} {xs : List Int}

theorem reverse_own (h : OwnI w v k xs) :
    Calls Tryz.prog 99 #[v] w fun e w' => e = .returned (.tuple #[]) ∧ OwnI w' v k xs.reverse ∧ Kept (fun j => k = some j) w w' := by
  rcases h.cases with ⟨rfl, rfl, rfl⟩ | ⟨b, off, cap, rfl, rfl⟩
  · refine (Any.slices_Reverse_int_empty Tryz.laysReverse none 0 w).mono ?_
    rintro e w' ⟨rfl, rfl⟩
    exact ⟨rfl, h, Kept.refl _ _⟩
  · obtain ⟨_, _, h1, h2, cur, h3, h4, h5⟩ := h.row
    refine (Any.slices_Reverse_int Tryz.laysReverse b off cap xs w ?_ (by simp only [maxLen] at h2; omega)).mono ?_
    · intro j hj
      have hj' : j < xs.length := by simpa using hj
      have := h.cell (List.getElem?_eq_getElem hj')
      exact ⟨by rw [this]; simp [hj'], h.frozen _⟩
    rintro e w' ⟨rfl, q, rfl⟩
    refine ⟨rfl, ?_, (putRow_kept _ _ _ _ _ _).mono (fun j e => by rw [e])⟩
    have := OwnI.of_row (xs := xs.reverse) (off := off) (cap := cap) (putRow_row (Value.int .i64) w q b off xs.reverse.toArray h3) (by simpa using h1) h2 (by simpa [putCells] using h4) ?_
    · simpa using this
    · intro j x hj
      have hl := (List.getElem?_eq_some_iff.1 hj).1
      have hl' : j < xs.length := by simpa using hl
      rw [putCells_get _ _ _ _ _ (by simpa using hl') (by omega)]
      simp only [List.getElem?_eq_some_iff] at hj
      obtain ⟨_, hj⟩ := hj
      simp [hl', ← hj]

theorem delete_own (h : OwnI w v k xs) (i : Nat) (hi : i < xs.length) :
    Calls Tryz.prog 101 #[v, .int .i64 i, .int .i64 (i + 1)] w fun e w' => ∃ v', e = .returned v' ∧ OwnI w' v' k (xs.take i ++ xs.drop (i + 1)) ∧ Kept (fun j => k = some j) w w' := by
  rcases h.cases with ⟨rfl, rfl, rfl⟩ | ⟨b, off, cap, rfl, rfl⟩
  · simp at hi
  · obtain ⟨_, _, h1, h2, cur, h3, h4, h5⟩ := h.row
    refine (Any.slices_Delete_int Tryz.laysDelete b off cap i (i + 1) xs w ?_ h1 (by simpa only [maxLen] using h2) (by omega) (by omega)).mono ?_
    · intro j hj
      have hj' : j < xs.length := by simpa using hj
      have := h.cell (List.getElem?_eq_getElem hj')
      exact ⟨by rw [this]; simp [hj'], h.frozen _⟩
    rintro e w' ⟨rfl, q, rfl⟩
    refine ⟨_, rfl, ?_, (putRow_kept _ _ _ _ _ _).mono (fun j e => by rw [e])⟩
    have hlen : (xs.take i ++ xs.drop (i + 1)).length = xs.length - 1 := by simp; omega
    have := OwnI.of_row (xs := xs.take i ++ xs.drop (i + 1)) (off := off) (cap := cap) (putRow_row (Value.int .i64) w q b off (xs.take i ++ xs.drop (i + 1) ++ List.replicate (i + 1 - i) 0).toArray h3) (by omega) h2 (by simpa [putCells] using h4) ?_
    · rw [hlen] at this
      simpa using this
    · intro j x hj
      have hl := (List.getElem?_eq_some_iff.1 hj).1
      rw [hlen] at hl
      rw [putCells_get _ _ _ _ _ (by simp; omega) (by omega)]
      have : (xs.take i ++ xs.drop (i + 1) ++ List.replicate (i + 1 - i) (0:Int))[j]? = some x := by
        rw [List.getElem?_append_left (by omega)]; exact hj
      simp only [List.getElem!_toArray]
      rw [List.getElem!_eq_getElem?_getD, this]; rfl

/-- slices.Insert of one number, out of a block of its own. -/
theorem insert_own (h : OwnI w v k xs) (i : Nat) (hi : i ≤ xs.length) (hn : xs.length ≤ 1000000) (x : Int) (vb c : Nat) (cv : Array Value) (hv : w.heap[vb]? = some (.cells cv 3 (0, 0))) (hx : cv[0]? = some (.int .i64 x)) (hne : k ≠ some vb) :
    Calls Tryz.prog 98 #[v, .int .i64 i, .slice (some ⟨vb, 0, none⟩) 1 c] w fun e w' => ∃ v' k', e = .returned v' ∧ OwnI w' v' k' (xs.take i ++ x :: xs.drop i) ∧ Kept (fun j => k = some j) w w' ∧ Row w k k' := by
  have hvs : ∀ j u, [Value.int .i64 x][j]? = some u → w.cell? ⟨vb, 0 + j, none⟩ = some u := by
    intro j u hj
    cases j with
    | zero => simp at hj; subst hj; simp [World.cell?, hv, hx]
    | succ j => simp at hj
  have hone : (Value.int .i64 0).cells.size = 1 := rfl
  have oc : ∀ u ∈ [Value.int .i64 x], u.oneCell' = true := by
    intro u hu; simp at hu; subst hu; rfl
  have ocs : ∀ u ∈ xs.map (Value.int .i64), u.oneCell' = true := by
    intro u hu; simp at hu; obtain ⟨y, _, rfl⟩ := hu; rfl
  have hlen : (xs.take i ++ x :: xs.drop i).length = xs.length + 1 := by simp; omega
  have hget : ∀ j y, (xs.take i ++ x :: xs.drop i)[j]? = some y → (j < i ∧ xs[j]? = some y) ∨ (j = i ∧ y = x) ∨ (i < j ∧ xs[j - 1]? = some y) := by
    intro j y hj
    rcases Nat.lt_trichotomy j i with hlt | heq | hgt
    · rw [List.getElem?_append_left (by simp; omega), List.getElem?_take, if_pos hlt] at hj
      exact .inl ⟨hlt, hj⟩
    · subst heq
      rw [List.getElem?_append_right (by simp; omega)] at hj
      simp [Nat.min_eq_left hi] at hj
      exact .inr (.inl ⟨rfl, hj.symm⟩)
    · rw [List.getElem?_append_right (by simp; omega), List.length_take, Nat.min_eq_left hi] at hj
      rw [show j - i = (j - 1 - i) + 1 by omega, List.getElem?_cons_succ, List.getElem?_drop, show i + (j - 1 - i) = j - 1 by omega] at hj
      exact .inr (.inr ⟨hgt, hj⟩)
  rcases h.cases with ⟨rfl, rfl, rfl⟩ | ⟨b, off, cap, rfl, rfl⟩
  · obtain rfl : i = 0 := by simpa using hi
    refine (Any2.slices_Insert_int_end_grow Tryz.laysInsert none 0 0 vb 0 1 c [] [.int .i64 x] w (by omega) (by omega) (by omega) (by omega) rfl rfl (fun _ => rfl) (fun a ha => by cases ha) hvs oc).mono ?_
    rintro e w' ⟨rfl, rfl⟩
    rw [show Tryz.laysInsert_ren.t 3 = 3 from rfl]
    have hg := grownCap_ge w (0 + 1) 0 3
    have hm := grownCap_le_maxLen w (0 + 1) 0 3 (by simp [maxLen])
    refine ⟨_, some w.heap.size, rfl, ?_, ((Kept.refl _ w).drew).alloc _, .inr (fun b e => by cases e; exact Nat.le_refl _)⟩
    refine OwnI.of_row (w := w.drew.alloc (.cells (([] ++ [Value.int .i64 x]).toArray ++ Builtin.zeroCells (Value.int .i64 0).cells (grownCap w (0 + 1) 0 3 - (0 + 1))) 3)) (b := w.heap.size) (off := 0) (cap := grownCap w (0 + 1) 0 3) (xs := [x]) (by rw [heap_alloc]; exact if_pos rfl) (by simpa using hg) hm ?_ ?_
    · simp only [Array.size_append, List.size_toArray, size_zeroCells, hone, List.length_append, List.length_map, List.length_take, List.length_cons, List.length_nil]; omega
    · intro j y hj
      cases j with
      | zero => simp at hj; subst hj; rw [Array.getElem?_append_left (by simp)]; rfl
      | succ j => simp at hj
  · obtain ⟨_, _, h1, h2, cur, h3, h4, h5⟩ := h.row
    have hcs : ∀ j u, (xs.map (Value.int .i64))[j]? = some u → w.cell? ⟨b, off + j, none⟩ = some u := by
      intro j u hj
      rw [List.getElem?_map] at hj
      cases hx' : xs[j]? with
      | none => simp [hx'] at hj
      | some y => simp [hx'] at hj; subst hj; exact h.cell hx'
    have h63 : cap ≤ 9223372036854775807 := by simpa only [maxLen] using h2
    have hb : b ≠ vb := fun e => hne (by rw [e])
    have hsize : w.heap.size ≠ b := by have := (Array.getElem?_eq_some_iff.1 h3).1; omega
    by_cases hroom : xs.length + 1 ≤ cap
    · by_cases hend : i = xs.length
      · subst hend
        refine (Any2.slices_Insert_int_end_room Tryz.laysInsert b off xs.length cap vb 0 1 c [.int .i64 x] w (by omega) hroom h63 rfl (fun j hj => ?_) (fun j hj => h.frozen _) hvs oc).mono ?_
        · rw [Nat.add_assoc]; exact h.some_cell (by omega)
        rintro e w' ⟨rfl, rfl⟩
        obtain ⟨cur', g1, g2, g3, g4⟩ := setCells_row b 3 (0, 0) [.int .i64 x] (off + xs.length) w cur h3
        refine ⟨_, some b, rfl, ?_, (setCells_kept b _ _ w).mono (fun j e => by rw [e]), .inl rfl⟩
        have := OwnI.of_row (off := off) (cap := cap) (xs := xs.take xs.length ++ x :: xs.drop xs.length) g1 (by omega) h2 (by omega) ?_
        · rwa [hlen] at this
        · intro j y hj
          rcases hget j y hj with ⟨hlt, hj⟩ | ⟨rfl, rfl⟩ | ⟨hgt, hj⟩
          · rw [g3 _ (by omega)]; exact h5 j y hj
          · have := g4 0 (.int .i64 y) rfl (by omega)
            simpa using this
          · have := (List.getElem?_eq_some_iff.1 hj).1; omega
      · refine (Any2.slices_Insert_int_shift Tryz.laysInsert b off xs.length cap i vb 0 1 c (xs.map (Value.int .i64)) [.int .i64 x] w (by omega) (by omega) hroom h63 (fun e => hb e.symm) (by simp) rfl hcs (fun j hj => h.some_cell (by omega)) (fun j hj => h.frozen _) hvs ocs oc
          3 3 cv.size cur.size (by simp [World.shape?, hv]) (by simp [World.shape?, h3]) (by omega) (by simp [World.frozen?, hv]) (by simp [World.frozen?, hv])).mono ?_
        rintro e w' ⟨rfl, rfl⟩
        obtain ⟨cur1, g1, g2, g3, g4⟩ := setCells_row b 3 (0, 0) ((xs.map (Value.int .i64)).drop i) (off + (i + 1)) w.drew cur h3
        obtain ⟨cur', e1, e2, e3, e4⟩ := setCells_row b 3 (0, 0) [.int .i64 x] (off + i) _ cur1 g1
        refine ⟨_, some b, rfl, ?_, (((Kept.refl _ w).drew).trans' ((setCells_kept b _ _ _).trans' (setCells_kept b _ _ _))).mono (fun j e => by rw [e]), .inl rfl⟩
        have := OwnI.of_row (off := off) (cap := cap) (xs := xs.take i ++ x :: xs.drop i) e1 (by omega) h2 (by omega) ?_
        · rwa [hlen] at this
        · intro j y hj
          rcases hget j y hj with ⟨hlt, hj⟩ | ⟨rfl, rfl⟩ | ⟨hgt, hj⟩
          · rw [e3 _ (by omega), g3 _ (by omega)]; exact h5 j y hj
          · have := e4 0 (.int .i64 y) rfl (by omega)
            simpa using this
          · have hl := (List.getElem?_eq_some_iff.1 hj).1
            rw [e3 _ (by simp; omega)]
            have := g4 (j - 1 - i) (.int .i64 y) (by rw [List.getElem?_drop, List.getElem?_map, show i + (j - 1 - i) = j - 1 by omega, hj]; rfl) (by omega)
            rwa [show off + (i + 1) + (j - 1 - i) = off + j by omega] at this
    · have hg := grownCap_ge w (xs.length + 1) cap 3
      have hm := grownCap_le_maxLen w (xs.length + 1) cap 3 (by simp [maxLen]; omega)
      by_cases hend : i = xs.length
      · subst hend
        refine (Any2.slices_Insert_int_end_grow Tryz.laysInsert (some ⟨b, off, none⟩) xs.length cap vb 0 1 c (xs.map (Value.int .i64)) [.int .i64 x] w (by omega) h1 (by omega) (by omega) (by simp) rfl (fun e => by cases e) (fun a ha j u hj => by cases ha; rw [Addr.add_lit]; exact hcs j u hj) hvs oc).mono ?_
        rintro e w' ⟨rfl, rfl⟩
        rw [show Tryz.laysInsert_ren.t 3 = 3 from rfl]
        refine ⟨_, some w.heap.size, rfl, ?_, ((Kept.refl _ w).drew).alloc _, .inr (fun b e => by cases e; exact Nat.le_refl _)⟩
        have := OwnI.of_row (w := w.drew.alloc (.cells ((xs.map (Value.int .i64) ++ [Value.int .i64 x]).toArray ++ Builtin.zeroCells (Value.int .i64 0).cells (grownCap w (xs.length + 1) cap 3 - (xs.length + 1))) 3)) (b := w.heap.size) (off := 0) (cap := grownCap w (xs.length + 1) cap 3) (xs := xs.take xs.length ++ x :: xs.drop xs.length) (by rw [heap_alloc]; exact if_pos rfl) (by omega) hm ?_ ?_
        · rwa [hlen] at this
        · simp only [Array.size_append, List.size_toArray, size_zeroCells, hone, List.length_append, List.length_map, List.length_take, List.length_cons, List.length_nil]; omega
        · intro j y hj
          rcases hget j y hj with ⟨hlt, hj⟩ | ⟨rfl, rfl⟩ | ⟨hgt, hj⟩
          · rw [Nat.zero_add, Array.getElem?_append_left (by simp; omega), List.getElem?_toArray, List.getElem?_append_left (by simpa using hlt), List.getElem?_map, hj]; rfl
          · rw [Nat.zero_add, Array.getElem?_append_left (by simp), List.getElem?_toArray, List.getElem?_append_right (by simp)]; simp
          · have := (List.getElem?_eq_some_iff.1 hj).1; omega
      · refine (Any2.slices_Insert_int_grow Tryz.laysInsert b off xs.length cap i vb 0 1 c (xs.map (Value.int .i64)) [.int .i64 x] w (by omega) (by omega) h1 (by omega) (by omega) (by simp) rfl hcs hvs ocs oc).mono ?_
        rintro e w' ⟨rfl, rfl⟩
        rw [show Tryz.laysInsert_ren.t 3 = 3 from rfl]
        obtain ⟨W, hW⟩ : ∃ W, W = (w.alloc (.cells (((xs.map (Value.int .i64)).take i).toArray ++ Builtin.zeroCells (Value.int .i64 0).cells (xs.length + 1 - i) ++ Builtin.zeroCells (Value.int .i64 0).cells (grownCap w (xs.length + 1) cap 3 - (xs.length + 1))) 3)).drew := ⟨_, rfl⟩
        have hr : W.heap[w.heap.size]? = some (.cells (((xs.map (Value.int .i64)).take i).toArray ++ Builtin.zeroCells (Value.int .i64 0).cells (xs.length + 1 - i) ++ Builtin.zeroCells (Value.int .i64 0).cells (grownCap w (xs.length + 1) cap 3 - (xs.length + 1))) 3 (0, 0)) := by
          rw [hW]; show (w.alloc _).heap[_]? = _; rw [heap_alloc]; exact if_pos rfl
        have hsz : ((((xs.map (Value.int .i64)).take i).toArray ++ Builtin.zeroCells (Value.int .i64 0).cells (xs.length + 1 - i) ++ Builtin.zeroCells (Value.int .i64 0).cells (grownCap w (xs.length + 1) cap 3 - (xs.length + 1)))).size = grownCap w (xs.length + 1) cap 3 := by
          simp only [Array.size_append, List.size_toArray, size_zeroCells, hone, List.length_append, List.length_map, List.length_take, List.length_cons, List.length_nil]; omega
        obtain ⟨cur1, g1, g2, g3, g4⟩ := setCells_row w.heap.size 3 (0, 0) [.int .i64 x] i W _ hr
        obtain ⟨cur', e1, e2, e3, e4⟩ := setCells_row w.heap.size 3 (0, 0) ((xs.map (Value.int .i64)).drop i) (i + 1) (W.setCells w.heap.size i [.int .i64 x]).drew cur1 g1
        have hKW : Kept (fun j => some b = some j) w W := by rw [hW]; exact ((Kept.refl _ w).alloc _).drew
        have hout : ∀ vs o (V : World), Kept (fun j => some b = some j) w V → Kept (fun j => some b = some j) w (V.setCells w.heap.size o vs) := by
          intro vs o V hV
          exact hV.trans (setCells_kept w.heap.size vs o V) (fun i hi e => by omega)
        refine ⟨_, some w.heap.size, rfl, ?_, ?_, .inr (fun b e => by cases e; exact Nat.le_refl _)⟩
        · rw [← hW]
          have := OwnI.of_row (off := 0) (cap := grownCap w (xs.length + 1) cap 3) (xs := xs.take i ++ x :: xs.drop i) e1 (by omega) hm (by omega) ?_
          · rwa [hlen] at this
          · intro j y hj
            rw [Nat.zero_add]
            rcases hget j y hj with ⟨hlt, hj⟩ | ⟨rfl, rfl⟩ | ⟨hgt, hj⟩
            · rw [e3 _ (by omega), g3 _ (by omega), Array.getElem?_append_left (by simp only [Array.size_append, List.size_toArray, size_zeroCells, hone, List.length_append, List.length_map, List.length_take, List.length_cons, List.length_nil]; omega), Array.getElem?_append_left (by simp; omega)]
              simp [List.getElem?_take, hlt, hj]
            · rw [e3 _ (by omega)]
              have := g4 0 (.int .i64 y) rfl (by omega)
              simpa using this
            · have hl := (List.getElem?_eq_some_iff.1 hj).1
              have := e4 (j - 1 - i) (.int .i64 y) (by rw [List.getElem?_drop, List.getElem?_map, show i + (j - 1 - i) = j - 1 by omega, hj]; rfl) (by omega)
              rwa [show i + 1 + (j - 1 - i) = j by omega] at this
        · rw [← hW]; exact hout _ _ _ (hout _ _ _ hKW).drew
end Go.Proofs.Bm
