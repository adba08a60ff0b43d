/- The law BaseModels. No condition but that the list reads. -/
import Derived.Test.YtipdlkncacjahaaGreatDoorBDrv
import Derived.Test.YtipdlkncacjahaaGreatDoorBRmInts
import Derived.Test.YtipdlkncacjahaaGreatDoorBRmSorted
import Derived.Test.YtipdlkncacjahaaGreatDoorBRmStack
import Derived.Test.YtipdlkncacjahaaGreatDoorBRmQueue
import Derived.Test.YtipdlkncacjahaaGreatDoorBRmTable
import Derived.Test.YtipdlkncacjahaaGreatDoorBRmSet
import Derived.Test.YtipdlkncacjahaaGreatDoorBRmCounter
import Derived.Test.YtipdlkncacjahaaGreatDoorBRmRange
import Derived.Test.YtipdlkncacjahaaGreatDoorBRmArith
set_option linter.unusedSimpArgs false
set_option linter.unusedVariables false
namespace Go.Proofs.Bm
open Go.RowKit Go.Maps

theorem rmodel_err2 (cls : ByteArray) (a : Option Addr) (n cap : Nat) (x : Int) (hx : (x != 0) = true) (w : World) (h : ∀ w1, Below w.heap.size w w1 → Calls Tryz.prog 18 #[.string cls, .slice a n cap] w1 (ErrPost x w1)) :
    Calls Tryz.prog 7 #[.string cls, .slice a n cap] w (RModPost [] 0 x w) := by
  go_enter Tryz.func7, Tryz.ntmps7
  go_wp2_with fail
  refine (h _ ((Below.refl _ w).alloc (Nat.le_refl _) _)).mono ?_
  rintro e w1 ⟨rfl, hb⟩
  have b0 : w1.cell? ⟨w.heap.size, 0, none⟩ = some (.slice none 0 0) := (hb.cell (by simp)).trans (by unfold World.cell?; rw [heap_alloc, if_pos rfl]; rfl)
  have b1 : w1.cell? ⟨w.heap.size, 1, none⟩ = some (I 0) := (hb.cell (by simp)).trans (by unfold World.cell?; rw [heap_alloc, if_pos rfl]; rfl)
  have b2 : w1.cell? ⟨w.heap.size, 2, none⟩ = some (I 0) := (hb.cell (by simp)).trans (by unfold World.cell?; rw [heap_alloc, if_pos rfl]; rfl)
  have f0 : ∀ j, w1.frozen? ⟨w.heap.size, j, none⟩ = false := fun j => (hb.frozen (by simp)).trans (by unfold World.frozen?; rw [heap_alloc, if_pos rfl]; simp)
  have f1 := f0 0
  have f2 := f0 1
  have f3 := f0 2
  have hB := Lib.hid ((Below.refl _ w).alloc (Nat.le_refl _) (.cells #[.slice none 0 0, I 0, I 0] 30) |>.trans (hb.mono (by simp)))
  clear hb f0
  go_wp2
  refine bodyPost_ret (v := .agg #[.slice none 0 0, I 0, I x]) (by simp [results, Tryz.results7, go_sem, b0, b1, b2]) rfl ?_
  exact ⟨_, none, rfl, OwnI.nil _, ((hB.out.setCell (by simp) _).setCell (by simp) _).setCell (by simp) _⟩

theorem rmodel_cls (c : Cls) (a : Option Addr) (cap : Nat) (l : List (ByteArray × Int × Int)) (o' : List Int) (f e0 : Int) (w : World) (hL : LC w a l) (hn : l.length ≤ 40) (hok : ∀ x ∈ l, okC c x) (hP : Plays c l ⟨[], .map [], 0, -1⟩ [] o' f e0) :
    Calls Tryz.prog 7 #[.string (clsName c), .slice a l.length cap] w (RModPost o' f e0 w) := by
  cases c
  · exact rmodel_ints a cap l o' f e0 w hL hn hok hP
  · exact rmodel_sorted a cap l o' f e0 w hL hn hok hP
  · exact rmodel_stack a cap l o' f e0 w hL hn hok hP
  · exact rmodel_queue a cap l o' f e0 w hL hn hok hP
  · exact rmodel_table a cap l o' f e0 w hL hn hok hP
  · exact rmodel_set a cap l o' f e0 w hL hn hok hP
  · exact rmodel_counter a cap l o' f e0 w hL hn hok hP
  · exact rmodel_range a cap l o' f e0 w hL hn hok hP
  · exact rmodel_arith a cap l o' f e0 w hL hn hok hP

def Both (cls : ByteArray) (a : Option Addr) (cap : Nat) (l : List (ByteArray × Int × Int)) (o' : List Int) (f e0 : Int) : Prop :=
  ∀ w, LC w a l → Calls Tryz.prog 6 #[.string cls, .slice a l.length cap] w (ModPost o' f e0 w) ∧ Calls Tryz.prog 7 #[.string cls, .slice a l.length cap] w (RModPost o' f e0 w)
theorem both_err (cls : ByteArray) (a : Option Addr) (cap : Nat) (l : List (ByteArray × Int × Int)) (x : Int) (hx : (x != 0) = true)
    (h1 : ∀ w, LC w a l → Calls Tryz.prog 14 #[.string cls, .slice a l.length cap] w (ErrPost x w)) (h2 : ∀ w, LC w a l → Calls Tryz.prog 18 #[.string cls, .slice a l.length cap] w (ErrPost x w)) : Both cls a cap l [] 0 x := fun w hL =>
  ⟨(model_err cls a _ cap x hx w (h1 w hL)).mono fun _ _ ⟨h, hb⟩ => ⟨_, none, h, OwnI.nil _, hb, fun _ e => (by cases e)⟩, rmodel_err2 cls a _ cap x hx w fun _ hb => h2 _ (hL.below hb)⟩
theorem idx_miss12 (cls : ByteArray) (h : cls ∉ N12) : Lib.idxOfS N12 cls = -1 := by
  have h0 := Lib.idxOfS_miss N12 N12.length cls (fun j hj e => h (by rw [← e, List.getD_eq_getElem?_getD, List.getElem?_eq_getElem hj]; exact List.getElem_mem hj))
  rwa [List.take_length] at h0
theorem idx_hit12 (cls : ByteArray) (h : cls ∈ N12) : ∃ k : Nat, Lib.idxOfS N12 cls = (k : Int) ∧ N12[k]? = some cls := by
  have : ∀ c ∈ N12, ∃ k : Nat, Lib.idxOfS N12 c = (k : Int) ∧ N12[k]? = some c := by
    have hall : (List.range 12).all (fun k => decide (Lib.idxOfS N12 (N12.getD k default) = (k : Int))) = true := by decide +kernel
    intro c hc
    obtain ⟨k, hk⟩ := List.mem_iff_getElem?.1 hc
    have h1 := List.all_eq_true.1 hall k (List.mem_range.2 (List.getElem?_eq_some_iff.1 hk).1)
    exact ⟨k, by simpa [List.getD, hk] using h1, hk⟩
  exact this cls h
theorem both (cls : ByteArray) (a : Option Addr) (cap : Nat) (l : List (ByteArray × Int × Int)) : ∃ o' f e0, Both cls a cap l o' f e0 := by
  by_cases h : cls ∈ N12
  · by_cases hc : ∃ c, cls = clsName c
    · obtain ⟨c, rfl⟩ := hc
      by_cases hn : l.length ≤ 40
      · by_cases hok : ∀ x ∈ l, okC c x
        · obtain ⟨o', f, e0, hP⟩ := Plays.exists c l ⟨[], .map [], 0, -1⟩ [] hok
          exact ⟨o', f, e0, fun w hL => ⟨model_ok c a cap l o' f e0 w hL hn hok hP, rmodel_cls c a cap l o' f e0 w hL hn hok hP⟩⟩
        · have hR : Chk c l 1 := .inr ⟨rfl, by
            have := Classical.not_forall.1 hok
            obtain ⟨x, hx⟩ := this
            obtain ⟨h1, h2⟩ := Classical.not_imp.1 hx
            exact ⟨x, h1, h2⟩⟩
          exact ⟨[], 0, 1, both_err _ a cap l 1 (by decide) (fun w hL => check_loop c a cap l 1 hR w hL hn) (fun w hL => rcheck_loop c a cap l 1 hR w hL hn)⟩
      · exact ⟨[], 0, 3, both_err _ a cap l 3 (by decide) (fun w _ => check_limit c a _ cap (by omega) w) (fun w _ => rcheck_limit c a _ cap (by omega) w)⟩
    · have hc' : ∀ c, cls ≠ clsName c := fun c e => hc ⟨c, e⟩
      obtain ⟨k, hk, hN⟩ := idx_hit12 cls h
      exact ⟨[], 0, 1, both_err _ a cap l 1 (by decide) (fun w _ => check_arg k cls hk hN hc' a _ cap w) (fun w _ => rcheck_arg k cls hN hc' a _ cap w)⟩
  · exact ⟨[], 0, 4, both_err _ a cap l 4 (by decide) (fun w _ => check_name cls (idx_miss12 cls h) a _ cap w) (fun w _ => rcheck_name cls h a _ cap w)⟩

set_option maxHeartbeats 2000000 in
theorem law_yes (cls : ByteArray) (a : Option Addr) (cap : Nat) (l : List (ByteArray × Int × Int)) (w : World) (hL : LC w a l) :
    Calls Tryz.prog 3 #[.string cls, .slice a l.length cap] w fun e w' => e = .returned (.bool true) ∧ Below w.heap.size w w' := by
  obtain ⟨o', f, e0, hboth⟩ := both cls a cap l
  replace hboth := Lib.hid hboth
  by_cases hfew : l.length ≤ 20 ∨ (40 < l.length ∧ l.length ≤ 60)
  · have hy : ∀ w, Calls Tryz.prog 5 #[.slice a l.length cap] w fun e w' => e = .returned (.bool true) ∧ w = w' := fun w => by
      rcases hfew with h | ⟨h, h'⟩
      · exact few_yes1 a _ cap h w
      · exact few_yes2 a _ cap h h' w
    clear hfew
    go_enter Tryz.func3, Tryz.ntmps3
    go_wp2_with fail
    refine (head_yes _).mono ?_
    rintro e w1 ⟨rfl, hb1⟩
    have hL1 := hL.below hb1
    go_wp2_with fail
    refine (hy _).mono ?_
    rintro e w2 ⟨rfl, rfl⟩
    clear hy
    have hm := (hboth.out w1 hL1).1
    go_wp2_with fail
    refine hm.mono ?_
    rintro e w2 ⟨v1, k1, rfl, ho1, hb2, _⟩
    have hL2 := hL1.below hb2
    have hr := (hboth.out w2 hL2).2
    clear hm
    go_wp2_with fail
    refine hr.mono ?_
    rintro e w3 ⟨v2, k2, rfl, ho2, hb3⟩
    obtain ⟨a1, c1, rfl, _⟩ := ho1.form
    obtain ⟨a2, c2, rfl, _⟩ := ho2.form
    have ho1' := ho1.of_below hb3
    clear hr
    go_wp2_with fail
    refine (same_ints (ho1'.alloc (.cells #[.slice a2 o'.length c2, I f, I e0] 30)) (ho2.alloc (.cells #[.slice a2 o'.length c2, I f, I e0] 30))).mono ?_
    rintro e w4 ⟨rfl, n, rfl⟩
    have hb4 : Below w.heap.size w ((w3.alloc (.cells #[.slice a2 o'.length c2, I f, I e0] 30)).drewN n) := by
      have h2 := hb1.trans (hb2.mono hb1.size)
      have h3 := h2.trans (hb3.mono h2.size)
      exact below_drewN' (h3.alloc h3.size _) n
    clear ho1 ho2 ho1' hb1 hb2 hb3 hL1 hL2 hboth hL
    go_wp2
    go_ret
    exact ⟨rfl, hb4⟩
  · have hy : ∀ w, Calls Tryz.prog 5 #[.slice a l.length cap] w fun e w' => e = .returned (.bool false) ∧ w = w' := fun w => by
      by_cases h : 60 < l.length
      · exact few_no1 a _ cap h w
      · exact few_no2 a _ cap (by omega) (by omega) w
    clear hfew
    go_enter Tryz.func3, Tryz.ntmps3
    go_wp2_with fail
    refine (head_yes _).mono ?_
    rintro e w1 ⟨rfl, hb1⟩
    go_wp2_with fail
    refine (hy _).mono ?_
    rintro e w2 ⟨rfl, rfl⟩
    go_wp2
    go_ret
    exact ⟨rfl, hb1⟩
end Go.Proofs.Bm
