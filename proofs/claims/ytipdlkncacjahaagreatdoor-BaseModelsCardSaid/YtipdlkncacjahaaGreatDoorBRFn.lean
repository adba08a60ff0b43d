/- The reference's product, sum, insert and without. No condition but the state's. -/
import Derived.Test.YtipdlkncacjahaaGreatDoorBRefs
import Derived.Test.YtipdlkncacjahaaGreatDoorBKit
import Derived.IntWalk
import Derived.Deep.RegionHeld3
import Derived.Handy
set_option linter.unusedSimpArgs false
set_option linter.unusedVariables false
namespace Go.Proofs.Bm
open Go.RowKit Go.Maps

theorem gt_iff (a b : Int) (b0 : b ≠ 0) : (1099511627776 / max b (-b) < a ∨ 1099511627776 / max b (-b) < -a) ↔ ¬ inR (a * b) := by
  rw [← fits_iff a b b0]
  omega
theorem r_product (a b : Int) (w : World) (ha : inR a) (hb : inR b) : Calls Tryz.prog 84 #[I a, I b] w fun e w' => e = .returned (.tuple #[I (if inR (a * b) then a * b else 0), .bool (decide (inR (a * b)))]) ∧ w = w' := by
  have ⟨ha1, ha2⟩ := ha
  have ⟨hb1, hb2⟩ := hb
  by_cases b0 : b = 0
  · subst b0
    rw [show (if inR (a * 0) then a * 0 else 0) = 0 by simp, show decide (inR (a * 0)) = true by simp [inR]]
    go_enter Tryz.func84, Tryz.ntmps84
    go_wp2
    go_ret2
    exact ⟨rfl, rfl⟩
  · have eb : (b != 0) = true := by simpa using b0
    have hi := gt_iff a b b0
    by_cases h : inR (a * b)
    · have h1 : ¬ 1099511627776 / max b (-b) < a := fun e => (hi.1 (.inl e)) h
      have h2 : ¬ 1099511627776 / max b (-b) < -a := fun e => (hi.1 (.inr e)) h
      have e1 : decide (1099511627776 / max b (-b) < a) = false := by simpa using h1
      have e2 : decide (1099511627776 / max b (-b) < -a) = false := by simpa using h2
      have hm0 : max b (-b) ≠ 0 := by omega
      clear hi
      go_enter Tryz.func84, Tryz.ntmps84
      have ⟨p1, p2⟩ := h
      go_wp2
      go_ret2
      refine ⟨?_, rfl⟩
      have : wrap64 (a * b) = a * b := by unfold wrap64; omega
      simp [I, this]
    · by_cases h1 : 1099511627776 / max b (-b) < a
      · clear hi
        go_enter Tryz.func84, Tryz.ntmps84
        go_wp2
        go_ret2
        exact ⟨rfl, rfl⟩
      · have h2 : 1099511627776 / max b (-b) < -a := by
          rcases hi.2 h with e | e
          · exact absurd e h1
          · exact e
        clear hi
        go_enter Tryz.func84, Tryz.ntmps84
        go_wp2
        go_ret2
        exact ⟨rfl, rfl⟩

variable {b : Nat} {s s' s'' : RSt} {lL lK lO : Option Nat} {W w' : World}

theorem OwnI.fresh (w : World) : OwnI (w.alloc (.cells #[] 3)) (.slice (some ⟨w.heap.size, 0, none⟩) 0 0) (some w.heap.size) [] :=
  OwnI.of_row (xs := []) (off := 0) (cap := 0) (cur := #[]) (by rw [heap_alloc]; exact if_pos rfl) (by simp) (by simp [maxLen]) (by simp) (by simp)
theorem SrcI.one (w : World) (x : Int) (c : Nat) : SrcI (w.alloc (.cells #[I x] 3)) (.slice (some ⟨w.heap.size, 0, none⟩) 1 c) [x] :=
  ⟨_, c, rfl, fun _ => ⟨_, rfl, fun j y hj => by
    cases j with
    | zero => simp at hj; subst hj; exact cell_new1 _ _ _
    | succ j => simp at hj⟩⟩
theorem SrcI.nil (w : World) (a : Option Addr) (c : Nat) : SrcI w (.slice a 0 c) [] := ⟨a, c, rfl, fun e => absurd rfl e⟩
theorem SrcI.part {w : World} {k : Option Nat} {xs ys : List Int} {b off n cap : Nat} (h : OwnI w (.slice (some ⟨b, off, none⟩) n cap) k xs) (o m c : Nat) (hm : m = ys.length) (hy : ∀ (j : Nat) (y : Int), ys[j]? = some y → xs[o + j]? = some y) : SrcI w (.slice (some ⟨b, off + o, none⟩) m c) ys := by
  subst hm
  refine ⟨_, c, rfl, fun _ => ⟨_, rfl, fun j y hj => ?_⟩⟩
  rw [Addr.add_lit, Nat.add_assoc]
  exact h.cell (hy j y hj)

theorem Row.new {w w0 : World} {b : Option Nat} {k1 : Option Nat} (hr : Row w0 b k1) (hb : ∀ c, b = some c → w.heap.size ≤ c) (hs : w.heap.size ≤ w0.heap.size) : ∀ c, k1 = some c → w.heap.size ≤ c := by
  intro c e
  rcases hr with rfl | hr
  · exact hb c e
  · have := hr c e; omega
theorem Kept.news {w w1 w2 : World} {k1 : Option Nat} (hK : Kept (fun j => w.heap.size ≤ j) w w1) (N : ∀ c, k1 = some c → w.heap.size ≤ c) (h : Kept (fun j => k1 = some j) w1 w2) : Kept (fun j => w.heap.size ≤ j) w w2 :=
  hK.trans h fun j _ e => N j e
theorem Kept.ofNews {w w1 : World} (hK : Kept (fun j => w.heap.size ≤ j) w w1) : Kept (fun _ => False) w w1 :=
  ⟨hK.os, hK.tape, hK.output, hK.size, fun j hj _ => hK.block j hj (by omega)⟩

/-- insert: a new list. -/
theorem r_insert {w : World} {v : Value} {k : Option Nat} {xs : List Int} (h : OwnI w v k xs) (hn : xs.length ≤ 1000) (i : Nat) (hi : i ≤ xs.length) (x : Int) :
    Calls Tryz.prog 78 #[v, I i, I x] w fun e w' => ∃ v' k', e = .returned v' ∧ OwnI w' v' k' (xs.take i ++ x :: xs.drop i) ∧ Kept (fun _ => False) w w' ∧ (∀ c, k' = some c → w.heap.size ≤ c) := by
  have hii : (0 : Int) ≤ (i : Int) := by omega
  have hi2 : (i : Int) ≤ (xs.length : Int) := by omega
  have ho0 := OwnI.fresh w
  have hK1 : Kept (fun j => w.heap.size ≤ j) w (w.alloc (.cells #[] 3)) := (Kept.refl _ w).alloc _
  rcases h.cases with ⟨rfl, rfl, rfl⟩ | ⟨bb, off, cap, rfl, rfl⟩
  · obtain rfl : i = 0 := by simpa using hi
    go_enter Tryz.func78, Tryz.ntmps78
    go_wp2_with (first
      | (at_builtin; refine wpList_append_many (ys := []) rfl _ _ rfl rfl (SrcI.nil _ _ _) ho0 (by simp) (by simp) ?_; intro v1 k1 w1 ho1 hk1 hr1 hn1; obtain ⟨a1, c1, rfl, _⟩ := ho1.form; replace ho1 : OwnI w1 (.slice a1 0 c1) k1 [] := (by simpa using ho1))
      | (at_builtin; refine wpList_append_many (ys := [x]) rfl _ _ rfl rfl (SrcI.one w1 x 1) (ho1.alloc (.cells #[I x] 3)) hn1 (by simp) ?_; intro v2 k2 w2 ho2 hk2 hr2 hn2; obtain ⟨a2, c2, rfl, _⟩ := ho2.form; replace ho2 : OwnI w2 (.slice a2 1 c2) k2 [x] := (by simpa using ho2); have hN1 := hr1.new (w := w) (fun c e => Nat.le_of_eq (Option.some.inj e)) (by simp); have hw1 := Kept.news hK1 (fun c e => Nat.le_of_eq (Option.some.inj e)) hk1; have hw2 := Kept.news (hw1.alloc _) hN1 hk2; have hN2 := hr2.new (w := w) hN1 (hw1.alloc _).size; skip)
      | (at_builtin; refine wpList_append_many (ys := []) rfl _ _ rfl rfl (SrcI.nil w2 _ _) ho2 hn2 (by simp) ?_; intro v3 k3 w3 ho3 hk3 hr3 hn3; obtain ⟨a3, c3, rfl, _⟩ := ho3.form))
    go_ret
    have hw3 := Kept.news hw2 hN2 hk3
    exact ⟨_, k3, rfl, by simpa using ho3, hw3.ofNews, hr3.new hN2 hw2.size⟩
  · have h1 := h.row.2.2.1
    have h2 := h.row.2.2.2.1
    simp only [maxLen] at h2
    have hic : (i : Int) ≤ (cap : Int) := by omega
    have hs1 : SrcI (w.alloc (.cells #[] 3)) (.slice (some ⟨bb, off, none⟩) i cap) (xs.take i) := SrcI.part (h.alloc _) 0 i cap (by simp [Nat.min_eq_left hi]) (fun j y hj => by
      rw [List.getElem?_take] at hj; split at hj; · simpa using hj
      · simp at hj)
    have hH := Lib.hid h
    have htk : (xs.take i).length = i := by simp [Nat.min_eq_left hi]
    have hlt := h.lt bb rfl
    by_cases hcap : i = cap
    · by_cases hz : cap = 0
      · subst hz
        subst hcap
        obtain rfl : xs = [] := List.eq_nil_of_length_eq_zero (by omega)
        go_enter Tryz.func78, Tryz.ntmps78
        go_wp2_with (first
          | (at_builtin; refine wpList_append_many (ys := []) rfl _ _ rfl rfl (SrcI.nil _ _ _) ho0 (by simp) (by simp) ?_; intro v1 k1 w1 ho1 hk1 hr1 hn1; obtain ⟨a1, c1, rfl, _⟩ := ho1.form; replace ho1 : OwnI w1 (.slice a1 0 c1) k1 [] := (by simpa using ho1))
          | (at_builtin; refine wpList_append_many (ys := [x]) rfl _ _ rfl rfl (SrcI.one w1 x 1) (ho1.alloc (.cells #[I x] 3)) hn1 (by simp) ?_; intro v2 k2 w2 ho2 hk2 hr2 hn2; obtain ⟨a2, c2, rfl, _⟩ := ho2.form; replace ho2 : OwnI w2 (.slice a2 1 c2) k2 [x] := (by simpa using ho2); have hN1 := hr1.new (w := w) (fun c e => Nat.le_of_eq (Option.some.inj e)) (by simp); have hw1 := Kept.news hK1 (fun c e => Nat.le_of_eq (Option.some.inj e)) hk1; have hw2 := Kept.news (hw1.alloc _) hN1 hk2; have hN2 := hr2.new (w := w) hN1 (hw1.alloc _).size; skip)
          | (at_builtin; refine wpList_append_many (ys := []) rfl _ _ rfl rfl (SrcI.nil w2 _ _) ho2 hn2 (by simp) ?_; intro v3 k3 w3 ho3 hk3 hr3 hn3; obtain ⟨a3, c3, rfl, _⟩ := ho3.form))
        go_ret
        have hw3 := Kept.news hw2 hN2 hk3
        exact ⟨_, k3, rfl, by simpa using ho3, hw3.ofNews, hr3.new hN2 hw2.size⟩
      · have hdr : xs.drop cap = [] := List.drop_eq_nil_of_le (by omega)
        obtain rfl : cap = i := hcap.symm
        have hxl := Lib.hid (show xs.length = cap by omega)
        clear hcap hii hi2 hic
        go_enter Tryz.func78, Tryz.ntmps78
        go_wp2_with (first
          | (at_builtin; refine wpList_append_many (ys := xs.take cap) rfl _ _ rfl rfl hs1 ho0 (by simp) (by simp; omega) ?_; intro v1 k1 w1 ho1 hk1 hr1 hn1; obtain ⟨a1, c1, rfl, _⟩ := ho1.form; replace ho1 : OwnI w1 (.slice a1 cap c1) k1 (xs.take cap) := (by simpa [Nat.min_eq_left hi] using ho1))
          | (at_builtin; refine wpList_append_many (ys := [x]) rfl _ _ rfl rfl (SrcI.one w1 x 1) (ho1.alloc (.cells #[I x] 3)) hn1 (by simp; omega) ?_; intro v2 k2 w2 ho2 hk2 hr2 hn2; obtain ⟨a2, c2, rfl, _⟩ := ho2.form; replace ho2 : OwnI w2 (.slice a2 (cap + 1) c2) k2 (xs.take cap ++ [x]) := (by simpa [Nat.min_eq_left hi] using ho2); have hN1 := hr1.new (w := w) (fun c e => Nat.le_of_eq (Option.some.inj e)) (by simp); have hw1 := Kept.news hK1 (fun c e => Nat.le_of_eq (Option.some.inj e)) hk1; have hw2 := Kept.news (hw1.alloc _) hN1 hk2; have hN2 := hr2.new (w := w) hN1 (hw1.alloc _).size; skip)
          | (at_builtin; refine wpList_append_many (ys := []) rfl _ _ rfl rfl (SrcI.nil w2 _ _) ho2 hn2 (by simp; omega) ?_; intro v3 k3 w3 ho3 hk3 hr3 hn3; obtain ⟨a3, c3, rfl, _⟩ := ho3.form))
        go_ret
        have hw3 := Kept.news hw2 hN2 hk3
        exact ⟨_, k3, rfl, by simpa [Nat.min_eq_left hi, hdr] using ho3, hw3.ofNews, hr3.new hN2 hw2.size⟩
    · have hcap' : ¬ (i : Int) = (cap : Int) := by omega
      have hcap2 : i < cap := by omega
      go_enter Tryz.func78, Tryz.ntmps78
      go_wp2_with (first
        | (at_builtin; refine wpList_append_many (ys := xs.take i) rfl _ _ rfl rfl hs1 ho0 (by simp) (by simp; omega) ?_; intro v1 k1 w1 ho1 hk1 hr1 hn1; obtain ⟨a1, c1, rfl, _⟩ := ho1.form; replace ho1 : OwnI w1 (.slice a1 i c1) k1 (xs.take i) := (by simpa [Nat.min_eq_left hi] using ho1))
        | (at_builtin; refine wpList_append_many (ys := [x]) rfl _ _ rfl rfl (SrcI.one w1 x 1) (ho1.alloc (.cells #[I x] 3)) hn1 (by simp; omega) ?_; intro v2 k2 w2 ho2 hk2 hr2 hn2; obtain ⟨a2, c2, rfl, _⟩ := ho2.form; replace ho2 : OwnI w2 (.slice a2 (i + 1) c2) k2 (xs.take i ++ [x]) := (by simpa [Nat.min_eq_left hi] using ho2); have hN1 := hr1.new (w := w) (fun c e => Nat.le_of_eq (Option.some.inj e)) (by simp); have hw1 := Kept.news hK1 (fun c e => Nat.le_of_eq (Option.some.inj e)) hk1; have hw2 := Kept.news (hw1.alloc _) hN1 hk2; have hN2 := hr2.new (w := w) hN1 (hw1.alloc _).size; have hs3 := SrcI.part (ys := xs.drop i) (hH.out.kept hw2 (fun c e => by have := Option.some.inj e; omega)) i (xs.length - i) (cap - i) (by simp) (fun j y hj => by simpa using hj))
        | (at_builtin; refine wpList_append_many (ys := xs.drop i) rfl _ _ rfl rfl hs3 ho2 hn2 (by simp; omega) ?_; intro v3 k3 w3 ho3 hk3 hr3 hn3; obtain ⟨a3, c3, rfl, _⟩ := ho3.form))
      go_ret
      have hw3 := Kept.news hw2 hN2 hk3
      exact ⟨_, k3, rfl, by simpa [Nat.min_eq_left hi] using ho3, hw3.ofNews, hr3.new hN2 hw2.size⟩
end Go.Proofs.Bm

namespace Go.Proofs.Bm
open Go.RowKit Go.Maps

theorem wp_append_many {w : World} {v : Value} {k : Option Nat} {xs ys : List Int} {o : Oper} {a : Act} {K : Act → World → Prop} {Q : Exit → Act → World → Prop} (s x : Operand) (hop : o.op = Op.call { callee := Callee.builtin Builtin.append, args := #[s, x], argTypes := #[25, 25] })
    (hs : a.eval s = v) (hx : SrcI w (a.eval x) ys) (h : OwnI w v k xs) (hk : k ≠ none) (hn : xs.length + ys.length ≤ 1000000)
    (hK : ∀ v' k' w', OwnI w' v' k' (xs ++ ys) → Kept (fun j => k = some j) w w' → Row w k k' → k' ≠ none → K (a.put o.dst v') w') :
    o.wp Tryz.prog a w K Q := by
  obtain ⟨v', k', w', hrun, r1, r2, r3, r4⟩ := run_append_many o.type (a.eval x) h hk hx hn
  unfold Oper.wp
  simp [execOp, hop, resolve, invoke, builtin, hs, hrun, Result.andThen]
  exact hK v' k' w' r1 r2 r3 r4

theorem r_without_none {w : World} {v : Value} {k : Option Nat} {xs : List Int} (h : OwnI w v k xs) (x : Int) (hx : x < 0) :
    Calls Tryz.prog 82 #[v, I x] w fun e w' => e = .returned v ∧ w = w' := by
  obtain ⟨a, cap, rfl, _⟩ := h.form
  go_enter Tryz.func82, Tryz.ntmps82
  go_wp2
  go_ret
  exact ⟨rfl, rfl⟩

set_option maxRecDepth 100000 in
set_option maxHeartbeats 2000000 in
/-- without: a new list. -/
theorem r_without {w : World} {v : Value} {k : Option Nat} {xs : List Int} (h : OwnI w v k xs) (hn : xs.length ≤ 1000) (i : Nat) (hi : i < xs.length) :
    Calls Tryz.prog 82 #[v, I i] w fun e w' => ∃ v' k', e = .returned v' ∧ OwnI w' v' k' (xs.take i ++ xs.drop (i + 1)) ∧ Kept (fun _ => False) w w' ∧ (∀ c, k' = some c → w.heap.size ≤ c) := by
  have hii : (0 : Int) ≤ (i : Int) := by omega
  have hneg : ¬ (i : Int) < 0 := by omega
  have hi' : i ≤ xs.length := by omega
  have e1 : IntKind.i64.wrap ((i : Int) + 1) = (i : Int) + 1 := IntWalk.i64_in _ (by omega)
  have ho0 : OwnI (w.drew.alloc (.cells #[] 3)) (.slice (some ⟨w.heap.size, 0, none⟩) 0 0) (some w.heap.size) [] := OwnI.fresh w.drew
  have hK1 : Kept (fun j => w.heap.size ≤ j) w (w.drew.alloc (.cells #[] 3)) := ((Kept.refl _ w).drew).alloc _
  rcases h.cases with ⟨rfl, rfl, rfl⟩ | ⟨bb, off, cap, rfl, rfl⟩
  · simp at hi
  have h1 := h.row.2.2.1
  have h2 := h.row.2.2.2.1
  simp only [maxLen] at h2
  have hlt := h.lt bb rfl
  have hs1 : SrcI (w.drew.alloc (.cells #[] 3)) (.slice (some ⟨bb, off, none⟩) i cap) (xs.take i) := SrcI.part (h.drew.alloc _) 0 i cap (by simp [Nat.min_eq_left hi']) (fun j y hj => by
    rw [List.getElem?_take] at hj; split at hj; · simpa using hj
    · simp at hj)
  have hH := Lib.hid h
  clear h
  have f1 : (i : Int) ≤ (cap : Int) := by omega
  have f2 : (i : Int) + 1 ≤ (xs.length : Int) := by omega
  have f3 : i ≤ cap := by omega
  have f4 : i + 1 ≤ xs.length := by omega
  have f5 : ((i : Int) + 1).toNat = i + 1 := by omega
  have f6 : (0 : Int) ≤ (i : Int) + 1 := by omega
  have f7 : ¬ cap = 0 := by omega
  go_enter Tryz.func82, Tryz.ntmps82
  go_wp2
  refine wp_region_held_drew (S := fun _ => True) (by kernel_rfl) trivial (fun _ => ?_)
  refine wpAnyH_take (i := 1) (oi := _) (v := ?_) rfl (by kernel_rfl) (by kernel_rfl) (by kernel_rfl) (fun _ _ _ h => h) (Or.inl ⟨by rfl, ?_⟩) trivial ?_
  rotate_left
  · (intro V' hSw; clear hSw; go_simp); with_reducible rfl
  try simp only [Act.put, List.setIfInBounds_toArray, List.set_cons_zero, List.set_cons_succ, e1]
  refine wpAnyH_take (i := 2) (oi := _) (v := ?_) rfl (by kernel_rfl) (by kernel_rfl) (by kernel_rfl) (fun _ _ _ h => h) (Or.inl ⟨by rfl, ?_⟩) trivial ?_
  rotate_left
  · (intro V' hSw; clear hSw; go_simp); with_reducible rfl
  try simp only [Act.put, List.setIfInBounds_toArray, List.set_cons_zero, List.set_cons_succ, e1]
  refine wpAnyH_take (i := 3) (oi := _) (v := ?_) rfl (by kernel_rfl) (by kernel_rfl) (by kernel_rfl) (fun _ _ _ h => h) (Or.inl ⟨by rfl, ?_⟩) trivial ?_
  rotate_left
  · (intro V' hSw; clear hSw; go_simp); with_reducible rfl
  try simp only [Act.put, List.setIfInBounds_toArray, List.set_cons_zero, List.set_cons_succ, e1]
  refine wpAnyH_take (i := 5) (oi := _) (v := ?_) rfl (by kernel_rfl) (by kernel_rfl) (by kernel_rfl) (fun _ _ _ h => h) (Or.inl ⟨by rfl, ?_⟩) trivial ?_
  rotate_left
  · (intro V' hSw; clear hSw; go_simp); with_reducible rfl
  try simp only [Act.put, List.setIfInBounds_toArray, List.set_cons_zero, List.set_cons_succ, e1]
  refine wpAnyH_take (i := 6) (oi := _) (v := ?_) rfl (by kernel_rfl) (by kernel_rfl) (by kernel_rfl) (fun _ _ _ h => h) (Or.inl ⟨by rfl, ?_⟩) trivial ?_
  rotate_left
  · (intro V' hSw; clear hSw; go_simp); with_reducible rfl
  try simp only [Act.put, List.setIfInBounds_toArray, List.set_cons_zero, List.set_cons_succ, e1]
  refine wpAnyH_take (i := 7) (oi := _) (v := ?_) rfl (by kernel_rfl) (by kernel_rfl) (by kernel_rfl) (fun _ _ _ h => h) (Or.inl ⟨by rfl, ?_⟩) trivial ?_
  rotate_left
  · (intro V' hSw; clear hSw; go_simp); with_reducible rfl
  try simp only [Act.put, List.setIfInBounds_toArray, List.set_cons_zero, List.set_cons_succ, e1]
  refine wpAnyH_take (i := 8) (oi := _) (v := ?_) rfl (by kernel_rfl) (by kernel_rfl) (by kernel_rfl) (fun _ _ _ h => h) (Or.inl ⟨by rfl, ?_⟩) trivial ?_
  rotate_left
  · (intro V' hSw; clear hSw; go_simp); with_reducible rfl
  try simp only [Act.put, List.setIfInBounds_toArray, List.set_cons_zero, List.set_cons_succ, e1]
  refine wpAnyH_ready (rs := [0]) (by kernel_rfl) (by simp) ?_
  refine AllReadyH.cons (o := _) rfl (fun K hK => ?_) AllReadyH.nil
  go_simp
  refine hK.out _ _ trivial (fun _ => ?_)
  clear hK K
  try simp only [Act.put, List.setIfInBounds_toArray, List.set_cons_zero, List.set_cons_succ, e1]
  refine wpAnyH_ready (rs := [4]) (by kernel_rfl) (by simp) ?_
  refine AllReadyH.cons (o := _) rfl (fun K hK => ?_) AllReadyH.nil
  refine step_of_wp rfl ?_
  refine wp_append_many (ys := xs.take i) _ _ rfl rfl hs1 ho0 (by simp) (by simp; omega) ?_
  intro v1 k1 w1 ho1 hk1 hr1 hn1
  obtain ⟨a1, c1, rfl, _⟩ := ho1.form
  replace ho1 : OwnI w1 (.slice a1 i c1) k1 (xs.take i) := (by simpa [Nat.min_eq_left hi'] using ho1)
  rw [show (([] : List Int) ++ xs.take i).length = i by simp [Nat.min_eq_left hi']]
  have hN1 := hr1.new (w := w) (fun c e => Nat.le_of_eq (Option.some.inj e)) (by show w.heap.size ≤ (w.drew.alloc _).heap.size; simp)
  have hw1 := Kept.news hK1 (fun c e => Nat.le_of_eq (Option.some.inj e)) hk1
  have hs3 : SrcI w1 (.slice (if cap = i + 1 then some ⟨bb, off, none⟩ else some ⟨bb, off + (i + 1), none⟩) (xs.length - (i + 1)) (cap - (i + 1))) (xs.drop (i + 1)) := by
    split
    · exact ⟨_, _, by rw [List.length_drop], fun e => absurd (List.drop_eq_nil_of_le (by omega)) e⟩
    · exact SrcI.part (ys := xs.drop (i + 1)) (hH.out.kept hw1 (fun c e => by have := Option.some.inj e; omega)) (i + 1) (xs.length - (i + 1)) (cap - (i + 1)) (by simp) (fun j y hj => by simpa using hj)
  refine hK.out _ _ trivial (fun _ => ?_)
  clear hK K
  try simp only [Act.put, List.setIfInBounds_toArray, List.set_cons_zero, List.set_cons_succ, e1]
  refine wpAnyH_ready (rs := [9]) (by kernel_rfl) (by simp) ?_
  refine AllReadyH.cons (o := _) rfl (fun K hK => ?_) AllReadyH.nil
  refine step_of_wp rfl ?_
  refine wp_append_many (ys := xs.drop (i + 1)) _ _ rfl rfl hs3 ho1 hn1 (by simp; omega) ?_
  intro v2 k2 w2 ho2 hk2 hr2 hn2
  obtain ⟨a2, c2, rfl, _⟩ := ho2.form
  have hw2 := Kept.news hw1 hN1 hk2
  refine hK.out _ _ trivial (fun _ => ?_)
  clear hK K
  try simp only [Act.put, List.setIfInBounds_toArray, List.set_cons_zero, List.set_cons_succ, e1]
  refine wpAnyH_ready (rs := [10]) (by kernel_rfl) (by simp) ?_
  refine AllReadyH.cons (o := _) rfl (fun K hK => ?_) AllReadyH.nil
  go_simp
  refine hK.out _ _ trivial (fun _ => ?_)
  clear hK K
  try simp only [Act.put, List.setIfInBounds_toArray, List.set_cons_zero, List.set_cons_succ, e1]
  refine wpAnyH_done (by kernel_rfl) ?_ _
  go_wp2
  all_goals
    go_ret
    exact ⟨_, rfl, k2, by simpa [Nat.min_eq_left hi'] using ho2, hw2.ofNews, hr2.new hN1 hw1.size⟩
end Go.Proofs.Bm

namespace Go.Proofs.Bm
open Go.RowKit Go.Maps
variable {b : Nat} {s s' : RSt} {lL lK lO : Option Nat} {W w' : World}

theorem REnds.alloc {o : Obj} (h : REnds b s' lL lK lO (W.alloc o) w') : REnds b s' lL lK lO W w' := by
  obtain ⟨k, l1, l2, l3, r, f⟩ := h
  exact ⟨((Kept.refl _ W).alloc o).trans' k, l1, l2, l3, r, fun c hc e => f c (by simp; omega) e⟩

abbrev PB (b : Nat) : Value := .pointer (some ⟨b, 0, none⟩)
abbrev CL (nm : ByteArray) (x y : Int) : Value := .agg #[.string nm, I x, I y]

theorem r_counter_count (h : RS b s lL lK lO W) (hn : s.out.length ≤ 1000) (x y : Int) :
    Calls Tryz.prog 24 #[PB b, CL ⟨#[99, 111, 117, 110, 116]⟩ x y] W fun e w' => e = .returned (.tuple #[]) ∧ REnds b { s with out := s.out ++ [s.low] } lL lK lO W w' := by
  have hA := h.alloc (.cells #[.string ⟨#[99, 111, 117, 110, 116]⟩, I x, I y] 40)
  have hc := hA.c2
  go_enter Tryz.func24, Tryz.ntmps24
  go_wp2_with (go_at_call 77; refine (r_put hA hn s.low).mono ?_; rintro e w' ⟨rfl, hR⟩)
  ((try simp only [Exit.inBlock, Exit.then]); refine bodyPost_ret (results_none rfl _ _ _) rfl ?_)
  exact ⟨rfl, hR.alloc⟩
theorem r_counter_up_in (h : RS b s lL lK lO W) (x y : Int) (hl : inR s.low) (h1 : inR (s.low + 1)) :
    Calls Tryz.prog 24 #[PB b, CL ⟨#[117, 112]⟩ x y] W fun e w' => e = .returned (.tuple #[]) ∧ REnds b { s with low := s.low + 1 } lL lK lO W w' := by
  have hA := h.alloc (.cells #[.string ⟨#[117, 112]⟩, I x, I y] 40)
  have hc := hA.c2
  have hf := hA.f 2
  have ⟨b1, b2⟩ := hl
  have hb := fun w => r_beyond (s.low + 1) w
  rw [show decide (¬ inR (s.low + 1)) = false by simpa using h1] at hb
  go_enter Tryz.func24, Tryz.ntmps24
  go_wp2_with (go_at_call 81; refine (hb _).mono ?_; rintro e w' ⟨rfl, rfl⟩)
  go_end0
  exact ⟨rfl, (REnds.of_set (hA.set_low _)).alloc⟩
theorem r_counter_up_out (h : RS b s lL lK lO W) (x y : Int) (hl : inR s.low) (h1 : ¬ inR (s.low + 1)) :
    Calls Tryz.prog 24 #[PB b, CL ⟨#[117, 112]⟩ x y] W fun e w' => e = .returned (.tuple #[]) ∧ REnds b { s with fault := 7 } lL lK lO W w' := by
  have hA := h.alloc (.cells #[.string ⟨#[117, 112]⟩, I x, I y] 40)
  have hc := hA.c2
  have hc5 := hA.c5
  have hf := hA.f 5
  have ⟨b1, b2⟩ := hl
  have hb := fun w => r_beyond (s.low + 1) w
  rw [show decide (¬ inR (s.low + 1)) = true by simpa using h1] at hb
  go_enter Tryz.func24, Tryz.ntmps24
  go_wp2_with (go_at_call 81; refine (hb _).mono ?_; rintro e w' ⟨rfl, rfl⟩)
  ((try simp only [Exit.inBlock, Exit.then]); refine bodyPost_ret (results_none rfl _ _ _) rfl ?_)
  exact ⟨rfl, (REnds.of_set (hA.set_fault _)).alloc⟩
theorem r_counter_add_neg (h : RS b s lL lK lO W) (x y : Int) (hx : x < 0) :
    Calls Tryz.prog 24 #[PB b, CL ⟨#[97, 100, 100]⟩ x y] W fun e w' => e = .returned (.tuple #[]) ∧ REnds b { s with fault := 1 } lL lK lO W w' := by
  have hA := h.alloc (.cells #[.string ⟨#[97, 100, 100]⟩, I x, I y] 40)
  have hc := hA.c2
  have hc5 := hA.c5
  have hf := hA.f 5
  go_enter Tryz.func24, Tryz.ntmps24
  go_wp2
  ((try simp only [Exit.inBlock, Exit.then]); refine bodyPost_ret (results_none rfl _ _ _) rfl ?_)
  exact ⟨rfl, (REnds.of_set (hA.set_fault _)).alloc⟩
theorem r_counter_add_in (h : RS b s lL lK lO W) (x y : Int) (hx : ¬ x < 0) (hxr : inR x) (hl : inR s.low) (h1 : inR (s.low + x)) :
    Calls Tryz.prog 24 #[PB b, CL ⟨#[97, 100, 100]⟩ x y] W fun e w' => e = .returned (.tuple #[]) ∧ REnds b { s with low := s.low + x } lL lK lO W w' := by
  have hA := h.alloc (.cells #[.string ⟨#[97, 100, 100]⟩, I x, I y] 40)
  have hc := hA.c2
  have hf := hA.f 2
  have ⟨b1, b2⟩ := hl
  have ⟨b3, b4⟩ := hxr
  have hb := fun w => r_beyond (s.low + x) w
  rw [show decide (¬ inR (s.low + x)) = false by simpa using h1] at hb
  go_enter Tryz.func24, Tryz.ntmps24
  go_wp2_with (go_at_call 81; refine (hb _).mono ?_; rintro e w' ⟨rfl, rfl⟩)
  go_end0
  exact ⟨rfl, (REnds.of_set (hA.set_low _)).alloc⟩
theorem r_counter_add_out (h : RS b s lL lK lO W) (x y : Int) (hx : ¬ x < 0) (hxr : inR x) (hl : inR s.low) (h1 : ¬ inR (s.low + x)) :
    Calls Tryz.prog 24 #[PB b, CL ⟨#[97, 100, 100]⟩ x y] W fun e w' => e = .returned (.tuple #[]) ∧ REnds b { s with fault := 7 } lL lK lO W w' := by
  have hA := h.alloc (.cells #[.string ⟨#[97, 100, 100]⟩, I x, I y] 40)
  have hc := hA.c2
  have hc5 := hA.c5
  have hf := hA.f 5
  have ⟨b1, b2⟩ := hl
  have ⟨b3, b4⟩ := hxr
  have hb := fun w => r_beyond (s.low + x) w
  rw [show decide (¬ inR (s.low + x)) = true by simpa using h1] at hb
  go_enter Tryz.func24, Tryz.ntmps24
  go_wp2_with (go_at_call 81; refine (hb _).mono ?_; rintro e w' ⟨rfl, rfl⟩)
  ((try simp only [Exit.inBlock, Exit.then]); refine bodyPost_ret (results_none rfl _ _ _) rfl ?_)
  exact ⟨rfl, (REnds.of_set (hA.set_fault _)).alloc⟩
end Go.Proofs.Bm
