/- The reference's Model, at a script that is accepted. No condition but that the list reads. -/
import Derived.Test.YtipdlkncacjahaaGreatDoorBClasses
import Derived.StillTailTactics
set_option linter.unusedSimpArgs false
set_option linter.unusedVariables false
namespace Go.Proofs.Bm
open Go.RowKit Go.Maps

theorem ref_ops (c : Cls) : ∀ p ∈ T_cls c, HasR c p.1 p.2 := by
  cases c
  · exact (List.forall_mem_cons.2 ⟨rs_ints_count, (List.forall_mem_cons.2 ⟨rs_ints_push, (List.forall_mem_cons.2 ⟨rs_ints_extend, (List.forall_mem_cons.2 ⟨rs_ints_has, (List.forall_mem_cons.2 ⟨rs_ints_item, (List.forall_mem_cons.2 ⟨rs_ints_sum, (List.forall_mem_cons.2 ⟨rs_ints_remove, (List.forall_mem_cons.2 ⟨rs_ints_reverse, (List.forall_mem_cons.2 ⟨rs_ints_wipe, (by intro p hp; cases hp)⟩)⟩)⟩)⟩)⟩)⟩)⟩)⟩)⟩)
  · exact (List.forall_mem_cons.2 ⟨rs_sorted_count, (List.forall_mem_cons.2 ⟨rs_sorted_push, (List.forall_mem_cons.2 ⟨rs_sorted_extend, (List.forall_mem_cons.2 ⟨rs_sorted_has, (List.forall_mem_cons.2 ⟨rs_sorted_item, (List.forall_mem_cons.2 ⟨rs_sorted_sum, (List.forall_mem_cons.2 ⟨rs_sorted_remove, (List.forall_mem_cons.2 ⟨rs_sorted_reverse, (List.forall_mem_cons.2 ⟨rs_sorted_wipe, (by intro p hp; cases hp)⟩)⟩)⟩)⟩)⟩)⟩)⟩)⟩)⟩)
  · exact (List.forall_mem_cons.2 ⟨rs_stack_count, (List.forall_mem_cons.2 ⟨rs_stack_push, (List.forall_mem_cons.2 ⟨rs_stack_pop, (List.forall_mem_cons.2 ⟨rs_stack_peek, (by intro p hp; cases hp)⟩)⟩)⟩)⟩)
  · exact (List.forall_mem_cons.2 ⟨rs_queue_count, (List.forall_mem_cons.2 ⟨rs_queue_enter, (List.forall_mem_cons.2 ⟨rs_queue_leave, (List.forall_mem_cons.2 ⟨rs_queue_front, (by intro p hp; cases hp)⟩)⟩)⟩)⟩)
  · exact (List.forall_mem_cons.2 ⟨rs_table_count, (List.forall_mem_cons.2 ⟨rs_table_force, (List.forall_mem_cons.2 ⟨rs_table_has, (List.forall_mem_cons.2 ⟨rs_table_value_of, (List.forall_mem_cons.2 ⟨rs_table_remove, (by intro p hp; cases hp)⟩)⟩)⟩)⟩)⟩)
  · exact (List.forall_mem_cons.2 ⟨rs_set_add, (List.forall_mem_cons.2 ⟨rs_set_drop, (List.forall_mem_cons.2 ⟨rs_set_has, (List.forall_mem_cons.2 ⟨rs_set_size, (by intro p hp; cases hp)⟩)⟩)⟩)⟩)
  · exact (List.forall_mem_cons.2 ⟨rs_counter_count, (List.forall_mem_cons.2 ⟨rs_counter_up, (List.forall_mem_cons.2 ⟨rs_counter_add, (by intro p hp; cases hp)⟩)⟩)⟩)
  · exact (List.forall_mem_cons.2 ⟨rs_range_low, (List.forall_mem_cons.2 ⟨rs_range_high, (List.forall_mem_cons.2 ⟨rs_range_span, (List.forall_mem_cons.2 ⟨rs_range_contains, (List.forall_mem_cons.2 ⟨rs_range_size, (List.forall_mem_cons.2 ⟨rs_range_sum, (by intro p hp; cases hp)⟩)⟩)⟩)⟩)⟩)⟩)
  · exact (List.forall_mem_cons.2 ⟨rs_arith_gcd, (List.forall_mem_cons.2 ⟨rs_arith_power, (List.forall_mem_cons.2 ⟨rs_arith_fact, (List.forall_mem_cons.2 ⟨rs_arith_tries, (by intro p hp; cases hp)⟩)⟩)⟩)⟩)

def RModPost (o' : List Int) (f e0 : Int) (w : World) (e : Ending) (w' : World) : Prop := ∃ v k, e = .returned (.agg #[v, I f, I e0]) ∧ OwnI w' v k o' ∧ Below w.heap.size w w'

theorem rmodel_err (cls : ByteArray) (a : Option Addr) (n cap : Nat) (x : Int) (hx : (x != 0) = true) (w : World) (h : ∀ w, Calls Tryz.prog 18 #[.string cls, .slice a n cap] w (ErrPost x w)) :
    Calls Tryz.prog 7 #[.string cls, .slice a n cap] w (RModPost [] 0 x w) := by
  go_enter Tryz.func7, Tryz.ntmps7
  go_wp2_with fail
  refine (h _).mono ?_
  rintro e w1 ⟨rfl, hb⟩
  have b0 : w1.cell? ⟨w.heap.size, 0, none⟩ = some (.slice none 0 0) := (hb.cell (by simp)).trans (by unfold World.cell?; rw [heap_alloc, if_pos rfl]; rfl)
  have b1 : w1.cell? ⟨w.heap.size, 1, none⟩ = some (I 0) := (hb.cell (by simp)).trans (by unfold World.cell?; rw [heap_alloc, if_pos rfl]; rfl)
  have b2 : w1.cell? ⟨w.heap.size, 2, none⟩ = some (I 0) := (hb.cell (by simp)).trans (by unfold World.cell?; rw [heap_alloc, if_pos rfl]; rfl)
  have f0 : ∀ j, w1.frozen? ⟨w.heap.size, j, none⟩ = false := fun j => (hb.frozen (by simp)).trans (by unfold World.frozen?; rw [heap_alloc, if_pos rfl]; simp)
  have f1 := f0 0
  have f2 := f0 1
  have f3 := f0 2
  have hB := Lib.hid ((Below.refl _ w).alloc (Nat.le_refl _) (.cells #[.slice none 0 0, I 0, I 0] 30) |>.trans (hb.mono (by simp)))
  clear hb f0
  go_wp2
  refine bodyPost_ret (v := .agg #[.slice none 0 0, I 0, I x]) (by simp [results, Tryz.results7, go_sem, b0, b1, b2]) rfl ?_
  exact ⟨_, none, rfl, OwnI.nil _, ((hB.out.setCell (by simp) _).setCell (by simp) _).setCell (by simp) _⟩
end Go.Proofs.Bm

namespace Go.Proofs.Bm
open Go.RowKit Go.Maps

theorem drewN_drewN (w : World) (a b : Nat) : (w.drewN a).drewN b = w.drewN (a + b) := by simp [World.drewN, Nat.add_assoc]

set_option maxHeartbeats 1000000 in
theorem same_ints {w : World} {v1 v2 : Value} {k1 k2 : Option Nat} {xs : List Int} (h1 : OwnI w v1 k1 xs) (h2 : OwnI w v2 k2 xs) : Calls Tryz.prog 8 #[v1, v2] w fun e w' => e = .returned (.bool true) ∧ ∃ n, w' = w.drewN n := by
  rcases h1.cases with ⟨rfl, rfl, rfl⟩ | ⟨b1, o1, c1, rfl, rfl⟩
  · obtain ⟨a2, c2, rfl, _⟩ := h2.form
    go_enter Tryz.func8, Tryz.ntmps8
    go_wp2
    go_loopg [5] 0 (fun _ s5 wr => s5 = I 0 ∧ wr = w)
    case atStart => exact ⟨rfl, rfl⟩
    case round =>
      obtain ⟨rfl, rfl⟩ := hrel
      go_wp2
      go_ret
      exact ⟨rfl, 0, rfl⟩
  · have hm1 := h1.row.2.2.1
    have hm2 := h1.row.2.2.2.1
    simp only [maxLen] at hm2
    rcases h2.cases with ⟨rfl, _, h0⟩ | ⟨b2, o2, c2, rfl, _⟩
    · subst h0
      go_enter Tryz.func8, Tryz.ntmps8
      go_wp2
      go_loopg [5] 0 (fun _ s5 wr => s5 = I 0 ∧ wr = w)
      case atStart => exact ⟨rfl, rfl⟩
      case round =>
        obtain ⟨rfl, rfl⟩ := hrel
        go_wp2
        go_ret
        exact ⟨rfl, 0, rfl⟩
    · have hC1 := Lib.hid (fun (j : Nat) (z : Int) (hj : xs[j]? = some z) => h1.cell hj)
      have hC2 := Lib.hid (fun (j : Nat) (z : Int) (hj : xs[j]? = some z) => h2.cell hj)
      clear h1 h2
      go_enter Tryz.func8, Tryz.ntmps8
      go_wp2
      go_loopg [5] xs.length (fun gg s5 wr => ∃ (kk n : Nat), kk ≤ xs.length ∧ xs.length - kk ≤ gg ∧ s5 = I kk ∧ Hid (wr = w.drewN n))
      case atStart => exact ⟨0, 0, Nat.zero_le _, Nat.le_refl _, rfl, Lib.hid rfl⟩
      case round =>
        obtain ⟨kk, n, hkk, hg, rfl, hw⟩ := hrel
        by_cases hlt : kk < xs.length
        · have hltz : (kk : Int) < (xs.length : Int) := by omega
          have hkz : (0 : Int) ≤ (kk : Int) := by omega
          have hz := List.getElem?_eq_getElem hlt
          generalize xs[kk] = z at hz
          have g1 : wr.cell? ⟨b1, o1 + kk, none⟩ = some (I z) := by rw [hw.out]; exact hC1.out kk z hz
          have g2 : wr.cell? ⟨b2, o2 + kk, none⟩ = some (I z) := by rw [hw.out]; exact hC2.out kk z hz
          clear hz
          go_wp2_with fail
          go_quiet (fail)
          go_wp2_with fail
          go_roundg (xs.length - (kk + 1))
          case measure => omega
          case rel => exact ⟨kk + 1, n + nq, by omega, by omega, by go_num, Lib.hid (by rw [hw.out, drewN_drewN])⟩
        · have hltz : ¬ (kk : Int) < (xs.length : Int) := by omega
          go_wp2
          go_ret
          exact ⟨rfl, n, hw.out⟩

/-- A slice of strings, nil or in a block. -/
def StrS (w : World) (v : Value) (l : List ByteArray) : Prop := ∃ g off cap, v = .slice (some ⟨g, off, none⟩) l.length cap ∧ ∀ (k : Nat) (nm : ByteArray), l[k]? = some nm → w.cell? ⟨g, off + k, none⟩ = some (.string nm)

set_option maxHeartbeats 1000000 in
theorem same_names {w : World} {v1 v2 : Value} {xs : List ByteArray} (hn : xs.length ≤ 1000) (h1 : StrS w v1 xs) (h2 : StrS w v2 xs) : Calls Tryz.prog 12 #[v1, v2] w fun e w' => e = .returned (.bool true) ∧ ∃ n, w' = w.drewN n := by
  obtain ⟨b1, o1, c1, rfl, hC1⟩ := h1
  obtain ⟨b2, o2, c2, rfl, hC2⟩ := h2
  replace hC1 := Lib.hid hC1
  replace hC2 := Lib.hid hC2
  go_enter Tryz.func12, Tryz.ntmps12
  go_wp2
  go_loopg [5] xs.length (fun gg s5 wr => ∃ (kk n : Nat), kk ≤ xs.length ∧ xs.length - kk ≤ gg ∧ s5 = I kk ∧ Hid (wr = w.drewN n))
  case atStart => exact ⟨0, 0, Nat.zero_le _, Nat.le_refl _, rfl, Lib.hid rfl⟩
  case round =>
    obtain ⟨kk, n, hkk, hg, rfl, hw⟩ := hrel
    by_cases hlt : kk < xs.length
    · have hltz : (kk : Int) < (xs.length : Int) := by omega
      have hkz : (0 : Int) ≤ (kk : Int) := by omega
      have hz := List.getElem?_eq_getElem hlt
      generalize xs[kk] = z at hz
      have g1 : wr.cell? ⟨b1, o1 + kk, none⟩ = some (.string z) := by rw [hw.out]; exact hC1.out kk z hz
      have g2 : wr.cell? ⟨b2, o2 + kk, none⟩ = some (.string z) := by rw [hw.out]; exact hC2.out kk z hz
      clear hz
      go_wp2_with fail
      go_quiet (fail)
      go_wp2_with fail
      go_roundg (xs.length - (kk + 1))
      case measure => omega
      case rel => exact ⟨kk + 1, n + nq, by omega, by omega, by go_num, Lib.hid (by rw [hw.out, drewN_drewN])⟩
    · have hltz : ¬ (kk : Int) < (xs.length : Int) := by omega
      go_wp2
      go_ret
      exact ⟨rfl, n, hw.out⟩

theorem few_yes1 (a : Option Addr) (n cap : Nat) (hn : n ≤ 20) (w : World) : Calls Tryz.prog 5 #[.slice a n cap] w fun e w' => e = .returned (.bool true) ∧ w = w' := by
  have h1 : (n : Int) ≤ 20 := by omega
  go_enter Tryz.func5, Tryz.ntmps5
  go_wp2
  go_ret
  exact ⟨rfl, rfl⟩
theorem few_yes2 (a : Option Addr) (n cap : Nat) (hn : 40 < n) (hn2 : n ≤ 60) (w : World) : Calls Tryz.prog 5 #[.slice a n cap] w fun e w' => e = .returned (.bool true) ∧ w = w' := by
  have h1 : ¬ (n : Int) ≤ 20 := by omega
  have h2 : (40 : Int) < (n : Int) := by omega
  have h3 : (n : Int) ≤ 60 := by omega
  go_enter Tryz.func5, Tryz.ntmps5
  go_wp2
  go_ret
  exact ⟨rfl, rfl⟩
theorem few_no1 (a : Option Addr) (n cap : Nat) (hn : 60 < n) (w : World) : Calls Tryz.prog 5 #[.slice a n cap] w fun e w' => e = .returned (.bool false) ∧ w = w' := by
  have h1 : ¬ (n : Int) ≤ 20 := by omega
  have h2 : (40 : Int) < (n : Int) := by omega
  have h3 : ¬ (n : Int) ≤ 60 := by omega
  go_enter Tryz.func5, Tryz.ntmps5
  go_wp2
  go_ret
  exact ⟨rfl, rfl⟩
theorem few_no2 (a : Option Addr) (n cap : Nat) (hn : 20 < n) (hn2 : n ≤ 40) (w : World) : Calls Tryz.prog 5 #[.slice a n cap] w fun e w' => e = .returned (.bool false) ∧ w = w' := by
  have h1 : ¬ (n : Int) ≤ 20 := by omega
  have h2 : ¬ (40 : Int) < (n : Int) := by omega
  go_enter Tryz.func5, Tryz.ntmps5
  go_wp2
  go_ret
  exact ⟨rfl, rfl⟩
end Go.Proofs.Bm

namespace Go.Proofs.Bm
open Go.RowKit Go.Maps

theorem below_drewN' {B : Nat} {w w' : World} (h : Below B w w') (k : Nat) : Below B w (w'.drewN k) := ⟨h.os, h.tape, h.output, h.size, h.block⟩

theorem says_yes (c : Cls) (a : Option Addr) (cap : Nat) (l : List (ByteArray × Int × Int)) (want : List Int) (f : Int) (wv : Value) (kw : Option Nat) (w : World) (hL : LC w a l) (hn : l.length ≤ 40) (hok : ∀ x ∈ l, okC c x) (hP : Plays c l ⟨[], .map [], 0, -1⟩ [] want f 0) (hW : OwnI w wv kw want) :
    Calls Tryz.prog 13 #[.string (clsName c), .slice a l.length cap, wv, I f] w fun e w' => e = .returned (.bool true) ∧ Below w.heap.size w w' := by
  have hm := model_ok c a cap l want f 0 w hL hn hok hP
  obtain ⟨a2, c2, rfl, _⟩ := hW.form
  replace hP := Lib.hid hP
  go_enter Tryz.func13, Tryz.ntmps13
  go_wp2_with fail
  refine hm.mono ?_
  rintro e w1 ⟨v, k, rfl, ho, hb, _⟩
  obtain ⟨a1, c1, rfl, _⟩ := ho.form
  have hs := same_ints ho (hW.of_below hb)
  go_wp2_with fail
  refine hs.mono ?_
  rintro e w2 ⟨rfl, n, rfl⟩
  go_wp2
  go_ret
  exact ⟨rfl, below_drewN' hb n⟩
end Go.Proofs.Bm
