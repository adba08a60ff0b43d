/- A frame with a set of blocks that may have turned, and slices of ints that the call owns. No condition. -/
import Derived.WalkKit
import Derived.WalkSpells
import Derived.WalkLawsBesides
import Derived.Lib.Hide
import Derived.Test.YtipdlkncacjahaaGreatDoorProg
import Derived.Deep.LoopGhost
import Derived.Lib.SlicesS
import Derived.Deep.RegionHeld3
import Derived.Deep.RegionWith
import Derived.BigRegion
import Derived.BigQuiet
import Derived.Deep.QuietTactic
import Derived.Maps.Own
import Derived.Maps.OwnOps
import Derived.Maps.OwnSet
set_option linter.unusedSimpArgs false
set_option linter.unusedVariables false
namespace Go.Proofs.Bm
open Go.RowKit

/-- w' is w with new blocks, and turned in the blocks of F alone. -/
structure Kept (F : Nat → Prop) (w w' : World) : Prop where
  os : w'.os = w.os
  tape : w'.tape = w.tape
  output : w'.output = w.output
  size : w.heap.size ≤ w'.heap.size
  block : ∀ k, k < w.heap.size → ¬ F k → w'.heap[k]? = w.heap[k]?

namespace Kept
variable {F G : Nat → Prop} {a b c w w' : World}
theorem refl (F : Nat → Prop) (w : World) : Kept F w w := ⟨rfl, rfl, rfl, Nat.le_refl _, fun _ _ _ => rfl⟩
/-- What G may turn beyond F is new. -/
theorem trans (h : Kept F a b) (k : Kept G b c) (hG : ∀ i, i < a.heap.size → G i → F i) : Kept F a c :=
  ⟨k.os.trans h.os, k.tape.trans h.tape, k.output.trans h.output, Nat.le_trans h.size k.size,
   fun i hi hn => (k.block i (Nat.lt_of_lt_of_le hi h.size) (fun e => hn (hG i hi e))).trans (h.block i hi hn)⟩
theorem trans' (h : Kept F a b) (k : Kept F b c) : Kept F a c := h.trans k fun _ _ e => e
theorem mono (h : Kept F a b) (hG : ∀ i, F i → G i) : Kept G a b := ⟨h.os, h.tape, h.output, h.size, fun i hi hn => h.block i hi (fun e => hn (hG i e))⟩
theorem drew (h : Kept F a w) : Kept F a w.drew := ⟨h.os, h.tape, h.output, h.size, h.block⟩
theorem alloc (h : Kept F a w) (o : Obj) : Kept F a (w.alloc o) :=
  h.trans (G := fun _ => False) ⟨rfl, rfl, rfl, by simp, fun k hk _ => Below.heap_alloc _ _ _ hk⟩ (fun _ _ e => e.elim)
theorem setCell (h : Kept F a w) {p : Addr} (hp : p.block < a.heap.size → F p.block) (u : Value) : Kept F a (w.setCell p u) :=
  h.trans (G := fun k => k = p.block) ⟨rfl, rfl, rfl, by simp [World.setCell], fun k hk hn => Below.heap_setCell _ _ _ _ (by omega)⟩ (fun i hi e => by subst e; exact hp hi)
theorem grown (h : Kept F a w) {row : Option Nat} (hg : w.grownBy w' row) (hr : ∀ k, row = some k → k < a.heap.size → F k) : Kept F a w' :=
  h.trans (G := fun k => some k = row) ⟨hg.os, hg.tape, hg.output, hg.size, fun k hk hn => hg.block k hk hn⟩ (fun i hi e => hr i e.symm hi)
theorem of_below {B : Nat} (h : Below B w w') (hB : ∀ k, k < w.heap.size → ¬ F k → k < B) : Kept F w w' :=
  ⟨h.os, h.tape, h.output, h.size, fun k hk hn => h.block k (hB k hk hn)⟩
theorem of_below' (h : Below w.heap.size w w') : Kept F w w' := of_below h fun _ hk _ => hk
theorem below {B : Nat} (h : Kept F w w') (hB : B ≤ w.heap.size) (hF : ∀ k, F k → B ≤ k) : Below B w w' :=
  ⟨h.os, h.tape, h.output, h.size, fun k hk => h.block k (by omega) (fun e => by have := hF k e; omega)⟩
theorem cell (h : Kept F w w') {p : Addr} (hp : p.block < w.heap.size) (hn : ¬ F p.block) : w'.cell? p = w.cell? p := World.cell?_of_block (w := w) (h.block p.block hp hn)
theorem cell_some (h : Kept F w w') {p : Addr} {v : Value} (hv : w.cell? p = some v) (hn : ¬ F p.block) : w'.cell? p = some v :=
  (h.cell (World.block_lt_of_cell? w p hv) hn).trans hv
theorem frozen (h : Kept F w w') {p : Addr} (hp : p.block < w.heap.size) (hn : ¬ F p.block) : w'.frozen? p = w.frozen? p := World.frozen?_of_block (w := w) (h.block p.block hp hn)
end Kept

theorem heap_alloc (w : World) (o : Obj) (k : Nat) : (w.alloc o).heap[k]? = if k = w.heap.size then some o else w.heap[k]? := by
  show (w.heap.push o)[k]? = _
  rw [Array.getElem?_push]

theorem cell_alloc (w : World) (x : Obj) (b o : Nat) (h : b < w.heap.size) : (w.alloc x).cell? ⟨b, o, none⟩ = w.cell? ⟨b, o, none⟩ :=
  World.cell?_of_block (w := w) (Below.heap_alloc _ _ _ h)
theorem frozen_alloc' (w : World) (x : Obj) (b o : Nat) (h : b < w.heap.size) : (w.alloc x).frozen? ⟨b, o, none⟩ = w.frozen? ⟨b, o, none⟩ :=
  World.frozen?_of_block (w := w) (Below.heap_alloc _ _ _ h)
theorem size_setCell (w : World) (a : Addr) (v : Value) : (w.setCell a v).heap.size = w.heap.size := by simp [World.setCell]
theorem cell_set (w : World) (b o : Nat) (v : Value) (h : (w.cell? ⟨b, o, none⟩).isSome = true) : (w.setCell ⟨b, o, none⟩ v).cell? ⟨b, o, none⟩ = some v := World.cell?_setCell_same' _ _ _ h
theorem cell_set_block (w : World) (b o b' o' : Nat) (v : Value) (h : b ≠ b') : (w.setCell ⟨b, o, none⟩ v).cell? ⟨b', o', none⟩ = w.cell? ⟨b', o', none⟩ := World.cell?_setCell_other _ _ _ _ (by simp [h])
theorem cell_set_off (w : World) (b o b' o' : Nat) (v : Value) (h : o ≠ o') : (w.setCell ⟨b, o, none⟩ v).cell? ⟨b', o', none⟩ = w.cell? ⟨b', o', none⟩ := World.cell?_setCell_other _ _ _ _ (by simp [h])

/-- v is a slice of ints that owns its row: block k, from some offset on; xs are its elements. -/
def OwnI (w : World) (v : Value) (k : Option Nat) (xs : List Int) : Prop :=
  (v = .slice none 0 0 ∧ k = none ∧ xs = []) ∨
  ∃ b off cap cur, v = .slice (some ⟨b, off, none⟩) xs.length cap ∧ k = some b ∧ w.heap[b]? = some (.cells cur 3 (0, 0)) ∧ xs.length ≤ cap ∧ cap ≤ maxLen ∧ off + cap ≤ cur.size ∧
    (cur.toList.drop off).take xs.length = xs.map (Value.int .i64)

namespace OwnI
variable {w w' : World} {v : Value} {k : Option Nat} {xs : List Int}
theorem nil (w : World) : OwnI w (.slice none 0 0) none [] := .inl ⟨rfl, rfl, rfl⟩
theorem lt (h : OwnI w v k xs) : ∀ b, k = some b → b < w.heap.size := by
  rintro b rfl
  rcases h with ⟨_, h, _⟩ | ⟨b', off, cap, cur, _, h, hb, _⟩
  · cases h
  · cases h; exact (Array.getElem?_eq_some_iff.1 hb).1
theorem keep (h : OwnI w v k xs) (hb : ∀ b, k = some b → w'.heap[b]? = w.heap[b]?) : OwnI w' v k xs := by
  rcases h with h | ⟨b', off, cap, cur, h1, h2, h3, h4⟩
  · exact .inl h
  · exact .inr ⟨b', off, cap, cur, h1, h2, (hb b' h2).trans h3, h4⟩
theorem kept (h : OwnI w v k xs) {F : Nat → Prop} (hk : Kept F w w') (hn : ∀ b, k = some b → ¬ F b) : OwnI w' v k xs :=
  h.keep fun b e => hk.block b (h.lt b e) (hn b e)
theorem alloc (h : OwnI w v k xs) (o : Obj) : OwnI (w.alloc o) v k xs := h.keep fun b e => Below.heap_alloc _ _ _ (h.lt b e)
theorem drew (h : OwnI w v k xs) : OwnI w.drew v k xs := h
theorem setCell (h : OwnI w v k xs) {p : Addr} (hn : k ≠ some p.block) (u : Value) : OwnI (w.setCell p u) v k xs :=
  h.keep fun b e => Below.heap_setCell _ _ _ _ (fun e' => hn (by rw [e, e']))
/-- Its form. -/
theorem form (h : OwnI w v k xs) : ∃ a cap, v = .slice a xs.length cap ∧ xs.length ≤ cap ∧ cap ≤ maxLen ∧ (a = none → xs = []) ∧ (∀ x, a = some x → k = some x.block ∧ x.spot = none) := by
  rcases h with ⟨rfl, rfl, rfl⟩ | ⟨b', off, cap, cur, rfl, rfl, h3, h4, h5, h6, h7⟩
  · exact ⟨none, 0, rfl, Nat.le_refl _, Nat.zero_le _, fun _ => rfl, by simp⟩
  · exact ⟨_, cap, rfl, h4, h5, by simp, fun x hx => by cases hx; exact ⟨rfl, rfl⟩⟩
end OwnI
end Go.Proofs.Bm

namespace Go.Proofs.Bm
open Go.RowKit

abbrev stopV (f e : Int) : Value := .iface 52 (.agg #[.int .i64 f, .int .i64 e])
abbrev stopC (f e : Int) : List PanicEntry := [{ v := stopV f e, recovered := false }]

theorem must_true (f : Int) (w : World) :
    Calls Tryz.prog 59 #[.bool true, .int .i64 f] w fun e w' => e = .returned (.tuple #[]) ∧ w = w' := by
  go_enter Tryz.func59, Tryz.ntmps59
  go_wp2
  go_end0
  exact ⟨rfl, rfl⟩

theorem must_false (f : Int) (w : World) :
    Calls Tryz.prog 59 #[.bool false, .int .i64 f] w fun e w' => e = .panicked (stopC f 0) ∧ w = w' := by
  go_enter Tryz.func59, Tryz.ntmps59
  go_wp2
  exact ⟨rfl, rfl, rfl⟩

theorem truth_any (b : Bool) (w : World) :
    Calls Tryz.prog 94 #[.bool b] w fun e w' => e = .returned (.int .i64 (if b then 1 else 0)) ∧ w = w' := by
  cases b <;>
  · go_enter Tryz.func94, Tryz.ntmps94
    go_wp2
    go_ret
    exact ⟨rfl, rfl⟩

theorem within_any (n : Int) (w : World) (h0 : -9223372036854775808 ≤ n) (h1 : n ≤ 9223372036854775807) :
    Calls Tryz.prog 32 #[.int .i64 n] w fun e w' => e = .returned (.bool (decide (-1099511627776 ≤ n ∧ n ≤ 1099511627776))) ∧ w = w' := by
  by_cases h2 : -1099511627776 ≤ n <;> by_cases h3 : n ≤ 1099511627776
  all_goals
    go_enter Tryz.func32, Tryz.ntmps32
    go_wp2
    go_ret
    exact ⟨by simp [h2, h3], rfl⟩

theorem count_any (bm n cap : Nat) (a : Option Addr) (x y : Int) (w : World) (hc : w.cell? ⟨bm, 0, none⟩ = some (.slice a n cap)) :
    Calls Tryz.prog 33 #[.pointer (some ⟨bm, 0, none⟩), .int .i64 x, .int .i64 y] w fun e w' => e = .returned (.int .i64 n) ∧ w = w' := by
  go_enter Tryz.func33, Tryz.ntmps33
  go_wp2
  go_ret
  exact ⟨rfl, rfl⟩
end Go.Proofs.Bm

namespace Go.Proofs.Bm
open Go.RowKit

theorem str_inj {a b : ByteArray} (h : a.toList = b.toList) : a = b := by
  rw [Go.ByteArray.toList_eq, Go.ByteArray.toList_eq] at h
  exact ByteArray.ext (Array.ext' h)
theorem str_ne {a b : ByteArray} (h : a ≠ b) : (a.toList == b.toList) = false := by
  rw [beq_eq_false_iff_ne]
  exact fun e => h (str_inj e)

/-- The predicate of the search. -/
theorem pred87_yes (c : Nat) (cls : ByteArray) (nd tx : Value) (w : World) (hc : w.cell? ⟨c, 0, none⟩ = some (.string cls)) :
    Calls Tryz.prog 87 #[.agg #[.string cls, nd, tx], .pointer (some ⟨c, 0, none⟩)] w fun e w' => e = .returned (.bool true) ∧ w' = w.alloc (.cells #[.string cls, nd, tx] 61) := by
  have hlt := World.block_lt_of_cell? w _ hc
  have hc2 : (w.alloc (.cells #[.string cls, nd, tx] 61)).cell? ⟨c, 0, none⟩ = some (.string cls) := (World.cell?_alloc_lt _ _ _ hlt).trans hc
  go_enter Tryz.func87, Tryz.ntmps87
  go_wp2
  go_ret
  exact ⟨by simp, rfl⟩
theorem pred87_no (c : Nat) (nm cls : ByteArray) (nd tx : Value) (w : World) (hc : w.cell? ⟨c, 0, none⟩ = some (.string cls)) (hne : nm ≠ cls) :
    Calls Tryz.prog 87 #[.agg #[.string nm, nd, tx], .pointer (some ⟨c, 0, none⟩)] w fun e w' => e = .returned (.bool false) ∧ w' = w.alloc (.cells #[.string nm, nd, tx] 61) := by
  have hlt := World.block_lt_of_cell? w _ hc
  have hc2 : (w.alloc (.cells #[.string nm, nd, tx] 61)).cell? ⟨c, 0, none⟩ = some (.string cls) := (World.cell?_alloc_lt _ _ _ hlt).trans hc
  have hs := Lib.hid (str_ne hne)
  go_enter Tryz.func87, Tryz.ntmps87
  go_wp2
  go_ret
  refine ⟨?_, rfl⟩
  show Ending.returned (.bool (nm.toList == cls.toList)) = _
  rw [hs.out]

set_option maxHeartbeats 1000000 in
theorem ixf86 (g c : Nat) (nms : List ByteArray) (F1 F2 : Nat → Value) (cls : ByteArray) (w : World) (hc : w.cell? ⟨c, 0, none⟩ = some (.string cls)) (hn2 : nms.length ≤ 1000)
    (hC : ∀ k nm, nms[k]? = some nm → w.cell? ⟨g, k * 3, none⟩ = some (.string nm) ∧ w.cell? ⟨g, k * 3 + 1, none⟩ = some (F1 k) ∧ w.cell? ⟨g, k * 3 + 2, none⟩ = some (F2 k)) :
    Calls Tryz.prog 86 #[.slice (some ⟨g, 0, none⟩) nms.length nms.length, .func (.func 87) #[] #[.pointer (some ⟨c, 0, none⟩)]] w fun e w' => e = .returned (.int .i64 (Lib.idxOfS nms cls)) ∧ Below w.heap.size w w' := by
  have hC' := Lib.hid hC
  clear hC
  have hcl := World.block_lt_of_cell? w _ hc
  go_enter Tryz.func86, Tryz.ntmps86
  go_wp2
  go_loopg [5, 8] nms.length (fun gg _ s8 wr => ∃ kk : Nat, kk ≤ nms.length ∧ nms.length - kk ≤ gg ∧ s8 = .int .i64 kk ∧ Below w.heap.size w wr ∧ Hid (∀ j, j < kk → nms.getD j ByteArray.empty ≠ cls))
  case atStart => exact ⟨0, Nat.zero_le _, Nat.le_refl _, rfl, Below.refl _ _, Lib.hid fun j hj => absurd hj (Nat.not_lt_zero _)⟩
  case round =>
    obtain ⟨kk, hkk, hg, rfl, hb, A⟩ := hrel
    by_cases hlt : kk < nms.length
    · have hltz : (kk : Int) < (nms.length : Int) := by omega
      have hz := List.getElem?_eq_getElem hlt
      generalize nms[kk] = nm at hz
      obtain ⟨h0, h1, h2⟩ := hC'.out kk nm hz
      have g0 := (hb.cell (World.block_lt_of_cell? w _ h0)).trans h0
      have g1 := (hb.cell (World.block_lt_of_cell? w _ h1)).trans h1
      have g2 := (hb.cell (World.block_lt_of_cell? w _ h2)).trans h2
      have gc := (hb.cell hcl).trans hc
      have hz' := Lib.hid hz
      clear hz h0 h1 h2
      by_cases hq : nm = cls
      · subst hq
        go_wp2_with (go_at_call 87; refine (pred87_yes c nm _ _ _ gc).mono ?_; rintro e w' ⟨rfl, rfl⟩)
        go_ret
        refine ⟨?_, hb.alloc hb.size _⟩
        have := Lib.idxOfS_hit nms nms.length kk nm hlt (Nat.le_refl _) (by simp [List.getD, hz'.out]) A.out
        rw [List.take_length] at this
        rw [this]
        rfl
      · go_wp2_with (go_at_call 87; refine (pred87_no c nm cls _ _ _ gc hq).mono ?_; rintro e w' ⟨rfl, rfl⟩)
        go_roundg (nms.length - (kk + 1))
        case measure => omega
        case rel =>
          refine ⟨kk + 1, by omega, by omega, by go_num, hb.alloc hb.size _, Lib.hid fun j hj => ?_⟩
          by_cases e : j = kk
          · subst e; simpa [List.getD, hz'.out] using hq
          · exact A.out j (by omega)
    · have hltz : ¬ (kk : Int) < (nms.length : Int) := by omega
      have e : kk = nms.length := by omega
      have hlow : Lib.idxOfS nms cls = -1 := by
        have := Lib.idxOfS_miss nms kk cls A.out
        rw [e, List.take_length] at this
        exact this
      replace hlow := Lib.hid hlow
      go_wp2
      go_ret
      rw [hlow.out]
      exact ⟨rfl, hb⟩

/-- The predicate of the search. -/
theorem pred70_yes (c : Nat) (cls : ByteArray) (ar re : Value) (w : World) (hc : w.cell? ⟨c, 0, none⟩ = some (.string cls)) :
    Calls Tryz.prog 70 #[.agg #[.string cls, ar, re], .pointer (some ⟨c, 0, none⟩)] w fun e w' => e = .returned (.bool true) ∧ w' = w.alloc (.cells #[.string cls, ar, re] 48) := by
  have hlt := World.block_lt_of_cell? w _ hc
  have hc2 : (w.alloc (.cells #[.string cls, ar, re] 48)).cell? ⟨c, 0, none⟩ = some (.string cls) := (World.cell?_alloc_lt _ _ _ hlt).trans hc
  go_enter Tryz.func70, Tryz.ntmps70
  go_wp2
  go_ret
  exact ⟨by simp, rfl⟩
theorem pred70_no (c : Nat) (nm cls : ByteArray) (ar re : Value) (w : World) (hc : w.cell? ⟨c, 0, none⟩ = some (.string cls)) (hne : nm ≠ cls) :
    Calls Tryz.prog 70 #[.agg #[.string nm, ar, re], .pointer (some ⟨c, 0, none⟩)] w fun e w' => e = .returned (.bool false) ∧ w' = w.alloc (.cells #[.string nm, ar, re] 48) := by
  have hlt := World.block_lt_of_cell? w _ hc
  have hc2 : (w.alloc (.cells #[.string nm, ar, re] 48)).cell? ⟨c, 0, none⟩ = some (.string cls) := (World.cell?_alloc_lt _ _ _ hlt).trans hc
  have hs := Lib.hid (str_ne hne)
  go_enter Tryz.func70, Tryz.ntmps70
  go_wp2
  go_ret
  refine ⟨?_, rfl⟩
  show Ending.returned (.bool (nm.toList == cls.toList)) = _
  rw [hs.out]

set_option maxHeartbeats 1000000 in
theorem ixf69 (g c : Nat) (nms : List ByteArray) (F1 F2 : Nat → Value) (cls : ByteArray) (w : World) (hc : w.cell? ⟨c, 0, none⟩ = some (.string cls)) (hn2 : nms.length ≤ 1000)
    (hC : ∀ k nm, nms[k]? = some nm → w.cell? ⟨g, k * 3, none⟩ = some (.string nm) ∧ w.cell? ⟨g, k * 3 + 1, none⟩ = some (F1 k) ∧ w.cell? ⟨g, k * 3 + 2, none⟩ = some (F2 k)) :
    Calls Tryz.prog 69 #[.slice (some ⟨g, 0, none⟩) nms.length nms.length, .func (.func 70) #[] #[.pointer (some ⟨c, 0, none⟩)]] w fun e w' => e = .returned (.int .i64 (Lib.idxOfS nms cls)) ∧ Below w.heap.size w w' := by
  have hC' := Lib.hid hC
  clear hC
  have hcl := World.block_lt_of_cell? w _ hc
  go_enter Tryz.func69, Tryz.ntmps69
  go_wp2
  go_loopg [5, 8] nms.length (fun gg _ s8 wr => ∃ kk : Nat, kk ≤ nms.length ∧ nms.length - kk ≤ gg ∧ s8 = .int .i64 kk ∧ Below w.heap.size w wr ∧ Hid (∀ j, j < kk → nms.getD j ByteArray.empty ≠ cls))
  case atStart => exact ⟨0, Nat.zero_le _, Nat.le_refl _, rfl, Below.refl _ _, Lib.hid fun j hj => absurd hj (Nat.not_lt_zero _)⟩
  case round =>
    obtain ⟨kk, hkk, hg, rfl, hb, A⟩ := hrel
    by_cases hlt : kk < nms.length
    · have hltz : (kk : Int) < (nms.length : Int) := by omega
      have hz := List.getElem?_eq_getElem hlt
      generalize nms[kk] = nm at hz
      obtain ⟨h0, h1, h2⟩ := hC'.out kk nm hz
      have g0 := (hb.cell (World.block_lt_of_cell? w _ h0)).trans h0
      have g1 := (hb.cell (World.block_lt_of_cell? w _ h1)).trans h1
      have g2 := (hb.cell (World.block_lt_of_cell? w _ h2)).trans h2
      have gc := (hb.cell hcl).trans hc
      have hz' := Lib.hid hz
      clear hz h0 h1 h2
      by_cases hq : nm = cls
      · subst hq
        go_wp2_with (go_at_call 70; refine (pred70_yes c nm _ _ _ gc).mono ?_; rintro e w' ⟨rfl, rfl⟩)
        go_ret
        refine ⟨?_, hb.alloc hb.size _⟩
        have := Lib.idxOfS_hit nms nms.length kk nm hlt (Nat.le_refl _) (by simp [List.getD, hz'.out]) A.out
        rw [List.take_length] at this
        rw [this]
        rfl
      · go_wp2_with (go_at_call 70; refine (pred70_no c nm cls _ _ _ gc hq).mono ?_; rintro e w' ⟨rfl, rfl⟩)
        go_roundg (nms.length - (kk + 1))
        case measure => omega
        case rel =>
          refine ⟨kk + 1, by omega, by omega, by go_num, hb.alloc hb.size _, Lib.hid fun j hj => ?_⟩
          by_cases e : j = kk
          · subst e; simpa [List.getD, hz'.out] using hq
          · exact A.out j (by omega)
    · have hltz : ¬ (kk : Int) < (nms.length : Int) := by omega
      have e : kk = nms.length := by omega
      have hlow : Lib.idxOfS nms cls = -1 := by
        have := Lib.idxOfS_miss nms kk cls A.out
        rw [e, List.take_length] at this
        exact this
      replace hlow := Lib.hid hlow
      go_wp2
      go_ret
      rw [hlow.out]
      exact ⟨rfl, hb⟩
end Go.Proofs.Bm

namespace Go.Proofs.Bm
open Go.RowKit

abbrev quietV (b : Nat) : Value := .func (.func 97) #[] #[.pointer (some ⟨b, 0, none⟩)]

set_option maxHeartbeats 400000 in
theorem quiet_any (fv : Value) (w : World) (h1 : ∃ fn first cap, fv = .func fn first cap) :
    Calls Tryz.prog 36 #[fv] w fun e w' => e = .returned (quietV w.heap.size) ∧ w' = w.alloc (.cells #[fv] 78) := by
  obtain ⟨fn, first, cap, rfl⟩ := h1
  have hmf : ∀ (fn : Fn) (first cap : Array Value) (w : World), (Instr.makeFunc fn first cap).run Tryz.prog w = .ok (.func fn first cap) w := fun _ _ _ _ => rfl
  go_enter Tryz.func36, Tryz.ntmps36
  go_wp2
  go_ret
  exact ⟨rfl, rfl⟩
end Go.Proofs.Bm

namespace Go.Proofs.Bm
open Go.RowKit Go.ChangeMaps

instance reflBytes : ReflBEq ByteArray := ⟨(Go.MapKept.bytes_beq _ _).2 rfl⟩
instance lawfulBytes : LawfulBEq ByteArray := ⟨fun h => (Go.MapKept.bytes_beq _ _).1 h⟩

/-- The entries of a list of keys and values, in order. -/
def ents : List (ByteArray × Value) → Nat → List MapEntry
  | [], _ => []
  | p :: r, i => { key := .string p.1, val := p.2, born := i } :: ents r (i + 1)

/-- Block b of w is a map of just these keys and values. -/
def DMap (w : World) (b : Nat) (L : List (ByteArray × Value)) : Prop := w.heap[b]? = some (.map (ents L 0).toArray L.length)

theorem ents_append : ∀ (L : List (ByteArray × Value)) (k : ByteArray) (v : Value) (i : Nat), ents (L ++ [(k, v)]) i = ents L i ++ [{ key := .string k, val := v, born := i + L.length }]
  | [], k, v, i => by simp [ents]
  | p :: r, k, v, i => by simp [ents, ents_append r k v (i + 1)]; omega
theorem ents_length : ∀ (L : List (ByteArray × Value)) (i : Nat), (ents L i).length = L.length
  | [], _ => rfl
  | p :: r, i => by simp [ents, ents_length r (i + 1)]

/-- Where a key stands, from i on. -/
def at? (k : ByteArray) : List (ByteArray × Value) → Nat → Option (Nat × Value)
  | [], _ => none
  | p :: r, i => if k == p.1 then some (i, p.2) else at? k r (i + 1)

theorem findNow_ents (k : ByteArray) : ∀ (L : List (ByteArray × Value)) (i j : Nat), Instr.findNow .string (.string k) (ents L j) i = some (at? k L i)
  | [], i, j => rfl
  | p :: r, i, j => by
    simp only [ents, Instr.findNow, Instr.sameNow, at?]
    by_cases h : (k == p.1) = true
    · simp [h]
    · simp only [Bool.not_eq_true] at h
      simp [h, findNow_ents k r (i + 1) (j + 1)]

variable {P : Program} {w : World} {T kT eT : TypeId} {b : Nat} {L : List (ByteArray × Value)}

theorem run_findKey (hk : P.underlying kT = some .string) (k : ByteArray) : (Instr.findKey kT (.string k) (ents L 0)).run P w = .ok (at? k L 0) w := by
  simp [Instr.findKey, run_underlying hk, findNow_ents]

theorem run_checkKey (hk : P.underlying kT = some .string) (e : Bool) (n : Nat) (k : ByteArray) : (Instr.checkKey e (n + 1) kT (.string k)).run P w = .ok () w := by
  simp [Instr.checkKey, run_underlying hk]

theorem run_lookup (hT : P.underlying T = some (.map kT eT)) (hk : P.underlying kT = some .string) (hD : DMap w b L) {k : ByteArray} {i : Nat} {v : Value} (hat : at? k L 0 = some (i, v)) :
    (Instr.lookup T (.map (some b)) (.string k) false).run P w = .ok v w := by
  unfold DMap at hD
  simp [Instr.lookup, run_underlying hT, MapKept.run_getObj_map hD, run_checkKey hk, run_findKey hk, hat]

theorem setBlock_eq (w : World) (b : Nat) (o : Obj) : ({ heap := w.heap.setIfInBounds b o, tape := w.tape, drawn := w.drawn, os := w.os, output := w.output } : World) = setBlock w b o := rfl

theorem grownBy_setBlock {w : World} {b : Nat} {es : Array MapEntry} {c : Nat} (h : w.heap[b]? = some (.map es c)) (o' : Obj) : w.grownBy (setBlock w b o') (some b) :=
  ⟨rfl, rfl, rfl, by simp [setBlock], fun i _ hi => heap_setBlock_other h _ (fun e => hi (by rw [e]))⟩

/-- 'm[k] = v' at a new key. -/
theorem run_mapUpdate_new (hT : P.underlying T = some (.map kT eT)) (hk : P.underlying kT = some .string) (hD : DMap w b L) {k : ByteArray} (hat : at? k L 0 = none) (v : Value) :
    ∃ w', (Instr.mapUpdate T (.map (some b)) (.string k) v).run P w = .ok () w' ∧ DMap w' b (L ++ [(k, v)]) ∧ w.grownBy w' (some b) ∧ w'.heap.size = w.heap.size := by
  have hD' := hD
  unfold DMap at hD'
  refine ⟨setBlock w b (.map (ents (L ++ [(k, v)]) 0).toArray (L.length + 1)), ?_, ?_, grownBy_setBlock hD' _, by simp [setBlock]⟩
  · simp [Instr.mapUpdate, run_underlying hT, MapKept.run_getObj_map hD', run_checkKey hk, run_findKey hk, hat, MapKept.run_setObj_map _ hD', setBlock, ents_append]
  · unfold DMap
    rw [heap_setBlock_same hD']
    simp

/-- The key is found, or laid, ahead of the store: at a new key. -/
theorem run_mapEntry_new (hT : P.underlying T = some (.map kT eT)) (hk : P.underlying kT = some .string) {z : Value} (hz : ∀ w, (zeroValue eT).run P w = .ok z w) (hD : DMap w b L) {k : ByteArray} (hat : at? k L 0 = none) :
    ∃ w', (Instr.mapEntry T (.map (some b)) (.string k)).run P w = .ok (.tuple #[z, .int .i64 L.length]) w' ∧ DMap w' b (L ++ [(k, z)]) ∧ w.grownBy w' (some b) ∧ w'.heap.size = w.heap.size := by
  have hD' := hD
  unfold DMap at hD'
  refine ⟨setBlock w b (.map (ents (L ++ [(k, z)]) 0).toArray (L.length + 1)), ?_, ?_, grownBy_setBlock hD' _, by simp [setBlock]⟩
  · simp [Instr.mapEntry, run_underlying hT, MapKept.run_getObj_map hD', run_checkKey hk, run_findKey hk, hat, hz, MapKept.run_setObj_map _ hD', setBlock, ents_append, goInt]
  · unfold DMap
    rw [heap_setBlock_same hD']
    simp

theorem ents_getElem : ∀ (L : List (ByteArray × Value)) (i j : Nat) (p : ByteArray × Value), L[i]? = some p → (ents L j)[i]? = some { key := .string p.1, val := p.2, born := j + i }
  | [], i, j, p, h => by simp at h
  | q :: r, 0, j, p, h => by simp at h; subst h; simp [ents]
  | q :: r, i + 1, j, p, h => by
    simp at h
    simp [ents, ents_getElem r i (j + 1) p h]
    omega

theorem at?_getElem {k : ByteArray} : ∀ {L : List (ByteArray × Value)} {j i : Nat} {v : Value}, at? k L j = some (i, v) → j ≤ i ∧ ∃ q, L[i - j]? = some q ∧ q.1 = k ∧ q.2 = v
  | [], j, i, v, h => by simp [at?] at h
  | p :: r, j, i, v, h => by
    simp only [at?] at h
    split at h
    · rename_i he
      simp at h
      obtain ⟨rfl, rfl⟩ := h
      exact ⟨Nat.le_refl _, p, by simp, (by simpa using he : k = p.1).symm, rfl⟩
    · obtain ⟨h1, q, h2, h3⟩ := at?_getElem h
      refine ⟨by omega, q, ?_, h3⟩
      rw [show i - j = (i - (j + 1)) + 1 by omega]
      simpa using h2

theorem modify_same {α : Type} (l : Array α) (i : Nat) (f : α → α) (h : ∀ x, l[i]? = some x → f x = x) : l.modify i f = l := by
  apply Array.ext_getElem?
  intro j
  rw [Array.getElem?_modify]
  split
  · rename_i e
    rw [← e]
    cases hx : l[i]? with
    | none => rfl
    | some x => simp [h x hx]
  · rfl

/-- .. at a key that is there. -/
theorem run_mapEntry_old (hT : P.underlying T = some (.map kT eT)) (hk : P.underlying kT = some .string) (hD : DMap w b L) {k : ByteArray} {i : Nat} {v : Value} (hat : at? k L 0 = some (i, v)) :
    (Instr.mapEntry T (.map (some b)) (.string k)).run P w = .ok (.tuple #[v, .int .i64 i]) w := by
  have hD' := hD
  unfold DMap at hD'
  obtain ⟨_, q, h2, rfl, rfl⟩ := at?_getElem hat
  have he := ents_getElem L i 0 q (by simpa using h2)
  simp only [Nat.zero_add] at he
  have hm : ((ents L 0).toArray.modify i fun e => { key := .string q.1, val := e.val, born := e.born }) = (ents L 0).toArray := by
    apply modify_same
    intro x hx
    simp [he] at hx
    subst hx
    rfl
  have hs : setBlock w b (.map (ents L 0).toArray L.length) = w := by
    have hlt := (Array.getElem?_eq_some_iff.1 hD').1
    have hg := (Array.getElem?_eq_some_iff.1 hD').2
    unfold setBlock
    congr 1
    apply Array.ext_getElem?
    intro j
    rw [Array.getElem?_setIfInBounds]
    split
    · rename_i e
      rw [← e]; exact hD'.symm
    · rfl
  have hsb : Instr.sameBits 10000 (.string q.1) (.string q.1) = true := by simp [Instr.sameBits]
  simp [Instr.mapEntry, run_underlying hT, MapKept.run_getObj_map hD', run_checkKey hk, run_findKey hk, hat, MapKept.run_setObj_map _ hD', Instr.keyThatStays, he, hsb, goInt]
  have hm' := hm
  simp at hm'
  rw [hm', setBlock_eq, hs]

/-- The i-th key has the value v now. -/
def setAt (L : List (ByteArray × Value)) (i : Nat) (v : Value) : List (ByteArray × Value) := L.modify i fun p => (p.1, v)

theorem ents_setAt : ∀ (L : List (ByteArray × Value)) (i j : Nat) (v : Value), ents (setAt L i v) j = (ents L j).modify i fun e => { e with val := v }
  | [], i, j, v => by cases i <;> simp [setAt, ents]
  | p :: r, 0, j, v => by simp [setAt, ents]
  | p :: r, i + 1, j, v => by
    have := ents_setAt r i (j + 1) v
    simp only [setAt] at this
    simp [setAt, ents, this]

theorem findIdx_ents : ∀ (L : List (ByteArray × Value)) (i j : Nat), i < L.length → (ents L j).findIdx? (fun e => (e.born : Int) == ((j + i : Nat) : Int)) = some i
  | [], i, j, h => by simp at h
  | p :: r, 0, j, h => by simp [ents, List.findIdx?_cons]
  | p :: r, i + 1, j, h => by
    have h' : i < r.length := by simpa using h
    have ih := findIdx_ents r i (j + 1) h'
    have hne : (((j : Nat) : Int) == ((j + (i + 1) : Nat) : Int)) = false := by simp; omega
    rw [ents, List.findIdx?_cons, hne]
    rw [show j + (i + 1) = j + 1 + i by omega, ih]
    rfl

theorem run_entryStore (hD : DMap w b L) {i : Nat} (hi : i < L.length) (v : Value) :
    ∃ w', (Instr.entryStore T (.map (some b)) (.int .i64 i) v).run P w = .ok () w' ∧ DMap w' b (setAt L i v) ∧ w.grownBy w' (some b) ∧ w'.heap.size = w.heap.size := by
  have hD' := hD
  unfold DMap at hD'
  refine ⟨setBlock w b (.map (ents (setAt L i v) 0).toArray L.length), ?_, ?_, grownBy_setBlock hD' _, by simp [setBlock]⟩
  · have hf := findIdx_ents L i 0 hi
    simp only [Nat.zero_add] at hf
    simp [Instr.entryStore, MapKept.run_getObj_map hD', asInt, asIntOf, hf, MapKept.run_setObj_map _ hD', setBlock, ents_setAt]
  · unfold DMap
    rw [heap_setBlock_same hD']
    simp [setAt]

/-! ### At the operation -/
section
variable {ops : Array Oper} {o : Oper} {a : Act} {K : Act → World → Prop} {Q : Exit → Act → World → Prop} {E : Prop} {rest : List Oper} {m k v : Operand} {s : ByteArray} {x : Value}

theorem wp_insert_new (ho : o.op = .insert T m k v) (hm : a.eval m = .map (some b)) (hkv : a.eval k = .string s) (hv : a.eval v = x) (hT : P.underlying T = some (.map kT eT)) (hk : P.underlying kT = some .string) (hD : DMap w b L) (hat : at? s L 0 = none)
    (h : ∀ w', DMap w' b (L ++ [(s, x)]) → w.grownBy w' (some b) → w'.heap.size = w.heap.size → K (a.put o.dst undef) w') : o.wp P a w K Q := by
  obtain ⟨w', hr, h1, h2, h3⟩ := run_mapUpdate_new (P := P) hT hk hD hat x
  unfold Oper.wp execOp
  simp [ho, hm, hkv, hv, hr]
  exact h w' h1 h2 h3

theorem wpList_insert_new (hg : o.guard = none) (ho : o.op = .insert T m k v) (hm : a.eval m = .map (some b)) (hkv : a.eval k = .string s) (hv : a.eval v = x) (hT : P.underlying T = some (.map kT eT)) (hk : P.underlying kT = some .string) (hD : DMap w b L) (hat : at? s L 0 = none)
    (h : ∀ w', DMap w' b (L ++ [(s, x)]) → w.grownBy w' (some b) → w'.heap.size = w.heap.size → wpList P ops Q rest (a.put o.dst undef) w') : wpList P ops Q (o :: rest) a w :=
  wpList_plain hg fun _ hK => wp_insert_new ho hm hkv hv hT hk hD hat fun w' h1 h2 h3 => hK _ _ (h w' h1 h2 h3)

theorem wp_mapEntry_new (ho : o.op = .mapEntry T m k) (hm : a.eval m = .map (some b)) (hkv : a.eval k = .string s) (hT : P.underlying T = some (.map kT eT)) (hk : P.underlying kT = some .string) {z : Value} (hz : ∀ w, (zeroValue eT).run P w = .ok z w) (hD : DMap w b L) (hat : at? s L 0 = none)
    (h : ∀ w', DMap w' b (L ++ [(s, z)]) → w.grownBy w' (some b) → w'.heap.size = w.heap.size → K (a.put o.dst (.tuple #[z, .int .i64 L.length])) w') : o.wp P a w K Q := by
  obtain ⟨w', hr, h1, h2, h3⟩ := run_mapEntry_new (P := P) hT hk hz hD hat
  unfold Oper.wp execOp
  simp [ho, hm, hkv, hr]
  exact h w' h1 h2 h3

theorem wp_mapEntry_old (ho : o.op = .mapEntry T m k) (hm : a.eval m = .map (some b)) (hkv : a.eval k = .string s) (hT : P.underlying T = some (.map kT eT)) (hk : P.underlying kT = some .string) (hD : DMap w b L) {i : Nat} (hat : at? s L 0 = some (i, x))
    (h : K (a.put o.dst (.tuple #[x, .int .i64 i])) w) : o.wp P a w K Q := by
  have hr := run_mapEntry_old (P := P) hT hk hD hat
  unfold Oper.wp execOp
  simp [ho, hm, hkv, hr]
  exact h

theorem wp_entryStore (ho : o.op = .entryStore T m k v) (hm : a.eval m = .map (some b)) {i : Nat} (hkv : a.eval k = .int .i64 i) (hv : a.eval v = x) (hD : DMap w b L) (hi : i < L.length)
    (h : ∀ w', DMap w' b (setAt L i x) → w.grownBy w' (some b) → w'.heap.size = w.heap.size → K (a.put o.dst undef) w') : o.wp P a w K Q := by
  obtain ⟨w', hr, h1, h2, h3⟩ := run_entryStore (P := P) (T := T) hD hi x
  unfold Oper.wp execOp
  simp [ho, hm, hkv, hv, hr]
  exact h w' h1 h2 h3

/-- As a step of a region that draws its order. -/
theorem step_of_wp (hgd : o.guard = none) (h : o.wp P a w K Q) : if Region.wanted o (yielded ops a.tmps) = true then Oper.wp P o a w K Q else E := by
  rw [if_pos (by simp [Region.wanted, hgd])]
  exact h
end
end Go.Proofs.Bm

namespace Go.Proofs.Bm
open Go.RowKit Go.Maps

/-- n + 1 is the model, n + 2 the variable that holds it, n + 3 its deeds, from n + 4 on the variables that the quiet ones have captured. -/
structure Lay (w : World) (n : Nat) (W : World) (L : List (ByteArray × Value)) (Q : List Value) : Prop where
  D : DMap W (n + 1 + 1 + 1) L
  K : W.ownsMap Tryz.prog 3 (plainElem (H := Unit) Tryz.prog 3) n 0 (.map [])
  box : W.heap[n + 1 + 1]? = some (.cells #[Value.pointer (some ⟨n + 1, 0, none⟩)] 45 (0, 0))
  qs : ∀ j v, Q[j]? = some v → W.heap[n + 4 + j]? = some (.cells #[v] 78 (0, 0))
  below : Below n w W
  size : W.heap.size = n + 4 + Q.length

/-- .. and the model's block; d: its deeds. -/
def Mod (n : Nat) (W : World) (d : Value) : Prop := W.heap[n + 1]? = some (.cells #[Value.slice none 0 0, Value.map (some n), Value.int IntKind.i64 0, Value.int IntKind.i64 (-1), d] 75 (0, 0))

section
variable {w W w' : World} {n : Nat} {L L' : List (ByteArray × Value)} {Q : List Value} {d u : Value}
theorem Lay.cbox (h : Lay w n W L Q) : W.cell? ⟨n + 1 + 1, 0, none⟩ = some (.pointer (some ⟨n + 1, 0, none⟩)) := by
  simp [World.cell?, h.box]
theorem Mod.c4 (h : Mod n W d) : W.cell? ⟨n + 1, 4, none⟩ = some d := by
  unfold Mod at h
  simp [World.cell?, h]
theorem Mod.f4 (h : Mod n W d) : W.frozen? ⟨n + 1, 4, none⟩ = false := by
  unfold Mod at h
  simp [World.frozen?, h]
theorem Lay.grow (h : Lay w n W L Q) (hD : DMap w' (n + 1 + 1 + 1) L') (hg : W.grownBy w' (some (n + 1 + 1 + 1))) (hs : w'.heap.size = W.heap.size) : Lay w n w' L' Q :=
  ⟨hD, h.K.kept hg (by simp; omega), (hg.block _ (by have := h.size; omega) (by simp)).trans h.box,
   fun j v hj => (hg.block _ (Array.getElem?_eq_some_iff.1 (h.qs j v hj)).1 (by simp; omega)).trans (h.qs j v hj),
   h.below.grown hg (by have := h.size; omega) (by rintro k ⟨⟩; omega), hs.trans h.size⟩
theorem Mod.grow (h : Mod n W d) (hg : W.grownBy w' (some (n + 1 + 1 + 1))) : Mod n w' d :=
  (hg.block _ (Array.getElem?_eq_some_iff.1 h).1 (by simp)).trans h
theorem heap_setCell (w : World) (a : Addr) (u : Value) (k : Nat) (h : k ≠ a.block) : (w.setCell a u).heap[k]? = w.heap[k]? := Below.heap_setCell _ _ _ _ h
theorem heap_setCell_same (w : World) (b o : Nat) (u : Value) {c : Array Value} {e : TypeId} {fr : Nat × Nat} (h : w.heap[b]? = some (.cells c e fr)) : (w.setCell ⟨b, o, none⟩ u).heap[b]? = some (.cells (c.setIfInBounds o u) e fr) := by
  simp [World.setCell, Array.getElem?_modify, h]
theorem Lay.setM {o : Nat} (h : Lay w n W L Q) (e : w' = W.setCell ⟨n + 1, o, none⟩ u) : Lay w n w' L Q := by
  subst e
  refine ⟨?_, h.K.setCell (show n ≠ n + 1 by omega) _, ?_, ?_, h.below.setCell (by simp) _, ?_⟩
  · unfold DMap; rw [heap_setCell _ _ _ _ (show n + 1 + 1 + 1 ≠ n + 1 by omega)]; exact h.D
  · rw [heap_setCell _ _ _ _ (show n + 1 + 1 ≠ n + 1 by omega)]; exact h.box
  · intro j v hj; rw [heap_setCell _ _ _ _ (show n + 4 + j ≠ n + 1 by omega)]; exact h.qs j v hj
  · simpa [World.setCell] using h.size
theorem Mod.setM (h : Mod n W d) (e : w' = W.setCell ⟨n + 1, 4, none⟩ u) : Mod n w' u := by
  subst e
  unfold Mod
  rw [heap_setCell_same _ _ _ _ h]
  rfl
theorem Lay.drew (h : Lay w n W L Q) : Lay w n W.drew L Q := ⟨h.D, h.K, h.box, h.qs, h.below.drew, h.size⟩
theorem Mod.drew (h : Mod n W d) : Mod n W.drew d := h
theorem Lay.alloc (h : Lay w n W L Q) (v : Value) : Lay w n (W.alloc (.cells #[v] 78)) L (Q ++ [v]) := by
  have hs := h.size
  refine ⟨?_, h.K.alloc _, ?_, ?_, h.below.alloc (by omega) _, by simp; omega⟩
  · unfold DMap; rw [heap_alloc, if_neg (by omega)]; exact h.D
  · rw [heap_alloc, if_neg (by omega)]; exact h.box
  · intro j x hj
    rw [heap_alloc]
    by_cases e : j = Q.length
    · subst e
      simp at hj
      subst hj
      rw [if_pos hs.symm]
    · have hlt : j < Q.length := by
        have := (List.getElem?_eq_some_iff.1 hj).1
        simp at this; omega
      rw [if_neg (by omega)]
      exact h.qs j x (by rwa [List.getElem?_append_left hlt] at hj)
theorem Mod.alloc (h : Mod n W d) (o : Obj) : Mod n (W.alloc o) d := by
  unfold Mod
  have hlt := (Array.getElem?_eq_some_iff.1 h).1
  rw [heap_alloc, if_neg (by omega)]
  exact h
end

theorem Z76 (w : World) : (zeroValue 76).run Tryz.prog w = .ok .nilFunc w := by kernel_rfl

/-- The world in which a new model stands, its deeds not yet. -/
abbrev W4 (w : World) : World := ((((w.alloc (Obj.map #[] 0)).alloc (Obj.cells #[Value.slice none 0 0, Value.map (some w.heap.size), Value.int IntKind.i64 0, Value.int IntKind.i64 (-1), Value.map none] 75)).alloc
                (Obj.cells #[Value.pointer (some { block := w.heap.size + 1, off := 0 })] 45)).alloc (Obj.map #[] 0))
theorem W4_lay (w : World) : Lay w w.heap.size (W4 w) [] [] := by
  unfold W4
  refine ⟨?_, (((World.ownsMap_made w _ _ _).alloc _).alloc _).alloc _, ?_, ?_, ?_, ?_⟩
  · unfold DMap
    simp only [heap_alloc, World.size_alloc]
    split
    · rfl
    · simp_all
  · simp only [heap_alloc, World.size_alloc]
    repeat (first | rfl | omega | split)
  · intro j v hj; simp at hj
  · exact ((((Below.refl _ w).alloc (by simp) _).alloc (by simp) _).alloc (by simp; omega) _).alloc (by simp; omega) _
  · simp
theorem W4_mod (w : World) : Mod w.heap.size (W4 w) (.map none) := by
  unfold Mod W4
  simp only [heap_alloc, World.size_alloc]
  repeat (first | rfl | omega | split)

/-- The step from one entry to the next: the key, new, with its value. -/
theorem lay_entry {w W : World} {n : Nat} {L : List (ByteArray × Value)} {Q : List Value} {d : Value} (h : Lay w n W L Q) (hm : Mod n W d) (k : ByteArray) (v : Value) (hat : at? k L 0 = none) :
    ∃ w1 w2, (Instr.mapEntry 73 (.map (some (n + 1 + 1 + 1))) (.string k)).run Tryz.prog W = .ok (.tuple #[.nilFunc, .int .i64 L.length]) w1 ∧
      (Instr.entryStore 73 (.map (some (n + 1 + 1 + 1))) (.int .i64 L.length) v).run Tryz.prog w1 = .ok () w2 ∧
      (w1.cell? ⟨n + 1 + 1, 0, none⟩ = some (.pointer (some ⟨n + 1, 0, none⟩)) ∧ w1.cell? ⟨n + 1, 4, none⟩ = some d) ∧ Lay w n w2 (L ++ [(k, v)]) Q ∧ Mod n w2 d := by
  obtain ⟨w1, hr1, hD1, hg1, hs1⟩ := run_mapEntry_new (P := Tryz.prog) Tryz.underlying73 Tryz.underlying9 Z76 h.D hat
  have x1 := h.grow hD1 hg1 hs1
  have y1 := hm.grow hg1
  obtain ⟨w2, hr2, hD2, hg2, hs2⟩ := run_entryStore (P := Tryz.prog) (T := 73) hD1 (i := L.length) (by simp) v
  have e : setAt (L ++ [(k, .nilFunc)]) L.length v = L ++ [(k, v)] := by
    have : ∀ (l : List (ByteArray × Value)) (p : ByteArray × Value), setAt (l ++ [p]) l.length v = l ++ [(p.1, v)] := by
      intro l p
      induction l with
      | nil => rfl
      | cons a r ih => simpa [setAt] using ih
    exact this _ _
  rw [e] at hD2
  exact ⟨w1, w2, hr1, hr2, ⟨x1.cbox, y1.c4⟩, x1.grow hD2 hg2 hs2, y1.grow hg2⟩
theorem lay_entry_old {w W : World} {n i : Nat} {L : List (ByteArray × Value)} {Q : List Value} {d : Value} (h : Lay w n W L Q) (hm : Mod n W d) (k : ByteArray) (v x : Value) (hat : at? k L 0 = some (i, x)) (hi : i < L.length) :
    ∃ w2, (Instr.mapEntry 73 (.map (some (n + 1 + 1 + 1))) (.string k)).run Tryz.prog W = .ok (.tuple #[x, .int .i64 i]) W ∧
      (Instr.entryStore 73 (.map (some (n + 1 + 1 + 1))) (.int .i64 i) v).run Tryz.prog W = .ok () w2 ∧ Lay w n w2 (setAt L i v) Q ∧ Mod n w2 d := by
  have hr1 := run_mapEntry_old (P := Tryz.prog) Tryz.underlying73 Tryz.underlying9 h.D hat
  obtain ⟨w2, hr2, hD2, hg2, hs2⟩ := run_entryStore (P := Tryz.prog) (T := 73) h.D hi v
  exact ⟨w2, hr1, hr2, h.grow hD2 hg2 hs2, hm.grow hg2⟩
end Go.Proofs.Bm

namespace Go.Proofs.Bm
open Go.RowKit

def N12 : List ByteArray := [⟨#[76, 73, 78, 75]⟩, ⟨#[73, 78, 84, 83]⟩, ⟨#[83, 79, 82, 84, 69, 68]⟩, ⟨#[78, 79, 68, 69]⟩, ⟨#[83, 84, 65, 67, 75]⟩, ⟨#[81, 85, 69, 85, 69]⟩, ⟨#[69, 78, 84, 82, 89]⟩, ⟨#[84, 65, 66, 76, 69]⟩, ⟨#[83, 69, 84]⟩, ⟨#[67, 79, 85, 78, 84, 69, 82]⟩, ⟨#[82, 65, 78, 71, 69]⟩, ⟨#[65, 82, 73, 84, 72]⟩]
/-- A list of items stands in block g. -/
def LibAt (w : World) (g : Nat) (A : Nat → Option Addr) (M : Nat → Nat) (X : Nat → ByteArray) : Prop := ∀ k nm, N12[k]? = some nm → w.cell? ⟨g, k * 3, none⟩ = some (.string nm) ∧ w.cell? ⟨g, k * 3 + 1, none⟩ = some (.slice (A k) (M k) (M k)) ∧ w.cell? ⟨g, k * 3 + 2, none⟩ = some (.string (X k))
def LibPost (w : World) (e : Ending) (w' : World) : Prop := ∃ (g m : Nat) (A : Nat → Option Addr) (M : Nat → Nat) (X : Nat → ByteArray), e = .returned (.slice (some ⟨g, 0, none⟩) 12 12) ∧ w.heap.size ≤ g ∧ Below w.heap.size w w' ∧ LibAt w' g A M X ∧
  A 8 = some ⟨m, 0, none⟩ ∧ M 8 = 2 ∧ w.heap.size ≤ m ∧ w'.heap[m]? = some (.cells #[.string ⟨#[76, 73, 78, 75]⟩, .string ⟨#[73, 78, 84, 83]⟩] 9 (0, 0))

abbrev libW (w : World) : World := ((((((w.alloc (.cells #[.string ⟨#[76, 73, 78, 75]⟩] 9)).alloc (.cells #[.string ⟨#[76, 73, 78, 75]⟩, .string ⟨#[73, 78, 84, 83]⟩] 9)).alloc (.cells #[.string ⟨#[78, 79, 68, 69]⟩] 9)).alloc (.cells #[.string ⟨#[76, 73, 78, 75]⟩] 9)).alloc (.cells #[.string ⟨#[69, 78, 84, 82, 89]⟩] 9)).alloc (.cells #[.string ⟨#[76, 73, 78, 75]⟩, .string ⟨#[73, 78, 84, 83]⟩] 9))
abbrev libC (w : World) (t0 t1 t2 t3 t4 t5 t6 t7 t8 t9 t10 t11 : ByteArray) : Array Value := #[.string ⟨#[76, 73, 78, 75]⟩, .slice none 0 0, .string t0, .string ⟨#[73, 78, 84, 83]⟩, .slice (some ⟨w.heap.size, 0, none⟩) 1 1, .string t1, .string ⟨#[83, 79, 82, 84, 69, 68]⟩, .slice (some ⟨w.heap.size + 1, 0, none⟩) 2 2, .string t2, .string ⟨#[78, 79, 68, 69]⟩, .slice none 0 0, .string t3, .string ⟨#[83, 84, 65, 67, 75]⟩, .slice (some ⟨w.heap.size + 1 + 1, 0, none⟩) 1 1, .string t4, .string ⟨#[81, 85, 69, 85, 69]⟩, .slice (some ⟨w.heap.size + 1 + 1 + 1, 0, none⟩) 1 1, .string t5, .string ⟨#[69, 78, 84, 82, 89]⟩, .slice none 0 0, .string t6, .string ⟨#[84, 65, 66, 76, 69]⟩, .slice (some ⟨w.heap.size + 1 + 1 + 1 + 1, 0, none⟩) 1 1, .string t7, .string ⟨#[83, 69, 84]⟩, .slice (some ⟨w.heap.size + 1 + 1 + 1 + 1 + 1, 0, none⟩) 2 2, .string t8, .string ⟨#[67, 79, 85, 78, 84, 69, 82]⟩, .slice none 0 0, .string t9, .string ⟨#[82, 65, 78, 71, 69]⟩, .slice none 0 0, .string t10, .string ⟨#[65, 82, 73, 84, 72]⟩, .slice none 0 0, .string t11]
theorem lib_of (w : World) (t0 t1 t2 t3 t4 t5 t6 t7 t8 t9 t10 t11 : ByteArray) : LibPost w (.returned (.slice (some ⟨w.heap.size + 1 + 1 + 1 + 1 + 1 + 1, 0, none⟩) 12 12)) ((libW w).alloc (.cells (libC w t0 t1 t2 t3 t4 t5 t6 t7 t8 t9 t10 t11) 61)) := by
  have hs : (libW w).heap.size = w.heap.size + 1 + 1 + 1 + 1 + 1 + 1 := by simp [libW]
  have hb : ((libW w).alloc (.cells (libC w t0 t1 t2 t3 t4 t5 t6 t7 t8 t9 t10 t11) 61)).heap[w.heap.size + 1 + 1 + 1 + 1 + 1 + 1]? = some (.cells (libC w t0 t1 t2 t3 t4 t5 t6 t7 t8 t9 t10 t11) 61 (0, 0)) := by
    rw [heap_alloc, if_pos hs.symm]
  refine ⟨_, w.heap.size + 1 + 1 + 1 + 1 + 1, fun k => match k with | 1 => some ⟨w.heap.size, 0, none⟩ | 2 => some ⟨w.heap.size + 1, 0, none⟩ | 4 => some ⟨w.heap.size + 1 + 1, 0, none⟩ | 5 => some ⟨w.heap.size + 1 + 1 + 1, 0, none⟩ | 7 => some ⟨w.heap.size + 1 + 1 + 1 + 1, 0, none⟩ | 8 => some ⟨w.heap.size + 1 + 1 + 1 + 1 + 1, 0, none⟩  | _ => none, fun k => match k with | 1 => 1 | 2 => 2 | 4 => 1 | 5 => 1 | 7 => 1 | 8 => 2  | _ => 0, fun k => match k with | 0 => t0 | 1 => t1 | 2 => t2 | 3 => t3 | 4 => t4 | 5 => t5 | 6 => t6 | 7 => t7 | 8 => t8 | 9 => t9 | 10 => t10 | 11 => t11 | _ => ⟨#[]⟩, rfl, by omega, ?_, ?_, rfl, rfl, by omega, ?_⟩
  · unfold libW
    exact (((((((Below.refl _ w).alloc (by simp; try omega) _).alloc (by simp; try omega) _).alloc (by simp; try omega) _).alloc (by simp; try omega) _).alloc (by simp; try omega) _).alloc (by simp; try omega) _).alloc (by simp; try omega) _
  · intro k nm hk
    have hlt : k < 12 := (List.getElem?_eq_some_iff.1 hk).1
    have hc : ∀ j, ((libW w).alloc (.cells (libC w t0 t1 t2 t3 t4 t5 t6 t7 t8 t9 t10 t11) 61)).cell? ⟨w.heap.size + 1 + 1 + 1 + 1 + 1 + 1, j, none⟩ = (libC w t0 t1 t2 t3 t4 t5 t6 t7 t8 t9 t10 t11)[j]? := by
      intro j
      unfold World.cell?
      rw [hb]
      rfl
    rw [hc, hc, hc]
    match k, hlt, hk with
    | 0, _, hk => cases hk; exact ⟨rfl, rfl, rfl⟩
    | 1, _, hk => cases hk; exact ⟨rfl, rfl, rfl⟩
    | 2, _, hk => cases hk; exact ⟨rfl, rfl, rfl⟩
    | 3, _, hk => cases hk; exact ⟨rfl, rfl, rfl⟩
    | 4, _, hk => cases hk; exact ⟨rfl, rfl, rfl⟩
    | 5, _, hk => cases hk; exact ⟨rfl, rfl, rfl⟩
    | 6, _, hk => cases hk; exact ⟨rfl, rfl, rfl⟩
    | 7, _, hk => cases hk; exact ⟨rfl, rfl, rfl⟩
    | 8, _, hk => cases hk; exact ⟨rfl, rfl, rfl⟩
    | 9, _, hk => cases hk; exact ⟨rfl, rfl, rfl⟩
    | 10, _, hk => cases hk; exact ⟨rfl, rfl, rfl⟩
    | 11, _, hk => cases hk; exact ⟨rfl, rfl, rfl⟩
  · simp only [libW, heap_alloc, World.size_alloc]
    repeat (first | rfl | omega | split)

set_option maxRecDepth 100000 in
set_option maxHeartbeats 1000000 in
theorem lib85 (w : World) : Calls Tryz.prog 85 #[] w (LibPost w) := by
  go_enter Tryz.func85, Tryz.ntmps85
  go_wp2
  go_ret
  exact lib_of w _ _ _ _ _ _ _ _ _ _ _ _
end Go.Proofs.Bm
