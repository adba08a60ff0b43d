/- The plays of the head's scripts; lists of calls laid new. No condition. -/
import Derived.Test.YtipdlkncacjahaaGreatDoorBMdR
set_option linter.unusedSimpArgs false
set_option linter.unusedVariables false
namespace Go.Proofs.Bm
open Go.RowKit Go.Maps

theorem Plays.step {c : Cls} {x : ByteArray × Int × Int} {r : List (ByteArray × Int × Int)} {s : St} {out o' : List Int} {f e : Int} (k : Nat) (op : Op) (v : Int) (hm : (T_cls c)[k]? = some (x.1, op)) (hv : (act op s x.2.1 x.2.2).2 = .ret v) (h : Plays c r (act op s x.2.1 x.2.2).1 (out ++ (if resO op then [v] else [])) o' f e) : Plays c (x :: r) s out o' f e := by
  refine ⟨op, List.mem_of_getElem? hm, ?_⟩
  revert hv h
  generalize act op s x.2.1 x.2.2 = z
  obtain ⟨s', o⟩ := z
  rintro h1 h
  dsimp only at h1 h
  subst h1
  exact h
theorem Plays.halt {c : Cls} {x : ByteArray × Int × Int} {r : List (ByteArray × Int × Int)} {s : St} {out o' : List Int} {f : Int} (k : Nat) (op : Op) (hm : (T_cls c)[k]? = some (x.1, op)) (hv : (act op s x.2.1 x.2.2).2 = .stop f 0) (ho : o' = out) : Plays c (x :: r) s out o' f 0 := by
  refine ⟨op, List.mem_of_getElem? hm, ?_⟩
  revert hv
  generalize act op s x.2.1 x.2.2 = z
  obtain ⟨s', o⟩ := z
  rintro h1
  dsimp only at h1
  subst h1
  exact ⟨ho, rfl, rfl⟩
def flatL : List (ByteArray × Int × Int) → List Value
  | [] => []
  | x :: r => .string x.1 :: I x.2.1 :: I x.2.2 :: flatL r
theorem flat_get : ∀ (l : List (ByteArray × Int × Int)) (k : Nat) (nm : ByteArray) (A B : Int), l[k]? = some (nm, A, B) → (flatL l)[k * 3]? = some (.string nm) ∧ (flatL l)[k * 3 + 1]? = some (I A) ∧ (flatL l)[k * 3 + 2]? = some (I B)
  | [], k, _, _, _, h => by simp at h
  | x :: r, 0, nm, A, B, h => by cases h; exact ⟨rfl, rfl, rfl⟩
  | x :: r, k + 1, nm, A, B, h => by
    obtain ⟨h0, h1, h2⟩ := flat_get r k nm A B h
    rw [show (k + 1) * 3 = k * 3 + 3 by omega]
    exact ⟨h0, h1, h2⟩
theorem LC_new (w : World) (l : List (ByteArray × Int × Int)) (T : TypeId) (cs : Array Value) (hc : cs = (flatL l).toArray) (hl : l.length ≤ 40) (hw : ∀ x ∈ l, inR x.2.1 ∧ inR x.2.2) : LC (w.alloc (.cells cs T)) (some ⟨w.heap.size, 0, none⟩) l := by
  subst hc
  have hcell : ∀ j, (w.alloc (.cells (flatL l).toArray T)).cell? ⟨w.heap.size, j, none⟩ = (flatL l)[j]? := by
    intro j; unfold World.cell?; rw [heap_alloc, if_pos rfl]; simp
  refine ⟨by omega, fun k nm A B hk => ⟨_, _, rfl, ?_⟩, fun x hx => ?_⟩
  · simp only [Nat.zero_add, hcell]
    exact flat_get l k nm A B hk
  · have h := hw x hx
    simp only [inR] at h
    omega
theorem OwnI_new (w : World) (xs : List Int) (cs : Array Value) (hc : cs = (xs.map (Value.int .i64)).toArray) (hl : xs.length ≤ 40) : OwnI (w.alloc (.cells cs 3)) (.slice (some ⟨w.heap.size, 0, none⟩) xs.length xs.length) (some w.heap.size) xs := by
  subst hc
  refine .inr ⟨_, 0, _, _, rfl, rfl, by rw [heap_alloc, if_pos rfl], Nat.le_refl _, by simp only [maxLen]; omega, by simp, ?_⟩
  simp
  rw [List.take_of_length_le (by simp)]
def L_intsS : List (ByteArray × Int × Int) := [(⟨#[112, 117, 115, 104]⟩, 3, 0), (⟨#[101, 120, 116, 101, 110, 100]⟩, 5, 0), (⟨#[112, 117, 115, 104]⟩, 1, 0), (⟨#[115, 117, 109]⟩, 0, 0), (⟨#[114, 101, 118, 101, 114, 115, 101]⟩, 0, 0), (⟨#[105, 116, 101, 109]⟩, 1, 0)]
theorem play_ints : Plays .ints L_intsS ⟨[], .map [], 0, -1⟩ [] [9, 5] 0 0 := by
  refine .step 1 .push 0 rfl (by kernel_rfl) ?_
  refine .step 2 .extend 0 rfl (by kernel_rfl) ?_
  refine .step 1 .push 0 rfl (by kernel_rfl) ?_
  refine .step 5 .sum 9 rfl (by kernel_rfl) ?_
  refine .step 7 .reverse 0 rfl (by kernel_rfl) ?_
  refine .step 4 .item 5 rfl (by kernel_rfl) ?_
  exact ⟨rfl, rfl, rfl⟩
theorem ok_ints : ∀ x ∈ L_intsS, okC .ints x := by
  refine List.forall_mem_cons.2 ⟨?_, List.forall_mem_cons.2 ⟨?_, List.forall_mem_cons.2 ⟨?_, List.forall_mem_cons.2 ⟨?_, List.forall_mem_cons.2 ⟨?_, List.forall_mem_cons.2 ⟨?_, (by intro p hp; cases hp)⟩⟩⟩⟩⟩⟩
  · exact ⟨1, 1, false, rfl, by simp [inR], by simp [inR], by simp, by simp⟩
  · exact ⟨2, 1, false, rfl, by simp [inR], by simp [inR], by simp, by simp⟩
  · exact ⟨1, 1, false, rfl, by simp [inR], by simp [inR], by simp, by simp⟩
  · exact ⟨5, 0, true, rfl, by simp [inR], by simp [inR], by simp, by simp⟩
  · exact ⟨7, 0, false, rfl, by simp [inR], by simp [inR], by simp, by simp⟩
  · exact ⟨4, 1, true, rfl, by simp [inR], by simp [inR], by simp, by simp⟩
theorem in_ints : ∀ x ∈ L_intsS, inR x.2.1 ∧ inR x.2.2 := fun x hx => by obtain ⟨_, _, _, _, h1, h2, _⟩ := ok_ints x hx; exact ⟨h1, h2⟩
def L_sortedS : List (ByteArray × Int × Int) := [(⟨#[112, 117, 115, 104]⟩, 3, 0), (⟨#[101, 120, 116, 101, 110, 100]⟩, 1, 0), (⟨#[112, 117, 115, 104]⟩, 2, 0), (⟨#[105, 116, 101, 109]⟩, 2, 0), (⟨#[105, 116, 101, 109]⟩, 4, 0)]
theorem play_sorted : Plays .sorted L_sortedS ⟨[], .map [], 0, -1⟩ [] [2] 1 0 := by
  refine .step 1 .ins 0 rfl (by kernel_rfl) ?_
  refine .step 2 .ins 0 rfl (by kernel_rfl) ?_
  refine .step 1 .ins 0 rfl (by kernel_rfl) ?_
  refine .step 4 .item 2 rfl (by kernel_rfl) ?_
  exact .halt 4 .item rfl (by kernel_rfl) rfl
theorem ok_sorted : ∀ x ∈ L_sortedS, okC .sorted x := by
  refine List.forall_mem_cons.2 ⟨?_, List.forall_mem_cons.2 ⟨?_, List.forall_mem_cons.2 ⟨?_, List.forall_mem_cons.2 ⟨?_, List.forall_mem_cons.2 ⟨?_, (by intro p hp; cases hp)⟩⟩⟩⟩⟩
  · exact ⟨1, 1, false, rfl, by simp [inR], by simp [inR], by simp, by simp⟩
  · exact ⟨2, 1, false, rfl, by simp [inR], by simp [inR], by simp, by simp⟩
  · exact ⟨1, 1, false, rfl, by simp [inR], by simp [inR], by simp, by simp⟩
  · exact ⟨4, 1, true, rfl, by simp [inR], by simp [inR], by simp, by simp⟩
  · exact ⟨4, 1, true, rfl, by simp [inR], by simp [inR], by simp, by simp⟩
theorem in_sorted : ∀ x ∈ L_sortedS, inR x.2.1 ∧ inR x.2.2 := fun x hx => by obtain ⟨_, _, _, _, h1, h2, _⟩ := ok_sorted x hx; exact ⟨h1, h2⟩
def L_tableS : List (ByteArray × Int × Int) := [(⟨#[102, 111, 114, 99, 101]⟩, 1, 7), (⟨#[102, 111, 114, 99, 101]⟩, 1, 8), (⟨#[99, 111, 117, 110, 116]⟩, 0, 0), (⟨#[118, 97, 108, 117, 101, 95, 111, 102]⟩, 1, 0), (⟨#[118, 97, 108, 117, 101, 95, 111, 102]⟩, 2, 0)]
theorem play_table : Plays .table L_tableS ⟨[], .map [], 0, -1⟩ [] [1, 8, 0] 0 0 := by
  refine .step 1 .force 0 rfl (by kernel_rfl) ?_
  refine .step 1 .force 0 rfl (by kernel_rfl) ?_
  refine .step 0 .many 1 rfl (by kernel_rfl) ?_
  refine .step 3 .value 8 rfl (by kernel_rfl) ?_
  refine .step 3 .value 0 rfl (by kernel_rfl) ?_
  exact ⟨rfl, rfl, rfl⟩
theorem ok_table : ∀ x ∈ L_tableS, okC .table x := by
  refine List.forall_mem_cons.2 ⟨?_, List.forall_mem_cons.2 ⟨?_, List.forall_mem_cons.2 ⟨?_, List.forall_mem_cons.2 ⟨?_, List.forall_mem_cons.2 ⟨?_, (by intro p hp; cases hp)⟩⟩⟩⟩⟩
  · exact ⟨1, 2, false, rfl, by simp [inR], by simp [inR], by simp, by simp⟩
  · exact ⟨1, 2, false, rfl, by simp [inR], by simp [inR], by simp, by simp⟩
  · exact ⟨0, 0, true, rfl, by simp [inR], by simp [inR], by simp, by simp⟩
  · exact ⟨3, 1, true, rfl, by simp [inR], by simp [inR], by simp, by simp⟩
  · exact ⟨3, 1, true, rfl, by simp [inR], by simp [inR], by simp, by simp⟩
theorem in_table : ∀ x ∈ L_tableS, inR x.2.1 ∧ inR x.2.2 := fun x hx => by obtain ⟨_, _, _, _, h1, h2, _⟩ := ok_table x hx; exact ⟨h1, h2⟩
def L_arithS : List (ByteArray × Int × Int) := [(⟨#[103, 99, 100]⟩, 12, 18), (⟨#[112, 111, 119, 101, 114]⟩, 2, 10), (⟨#[102, 97, 99, 116]⟩, 5, 0), (⟨#[116, 114, 105, 101, 115]⟩, 3, 0), (⟨#[116, 114, 105, 101, 115]⟩, 21, 0)]
theorem play_arith : Plays .arith L_arithS ⟨[], .map [], 0, -1⟩ [] [6, 1024, 120, 3] 107 0 := by
  refine .step 0 .gcd 6 rfl (by kernel_rfl) ?_
  refine .step 1 .power 1024 rfl (by kernel_rfl) ?_
  refine .step 2 .fact 120 rfl (by kernel_rfl) ?_
  refine .step 3 .tries 3 rfl (by kernel_rfl) ?_
  exact .halt 3 .tries rfl (by kernel_rfl) rfl
theorem ok_arith : ∀ x ∈ L_arithS, okC .arith x := by
  refine List.forall_mem_cons.2 ⟨?_, List.forall_mem_cons.2 ⟨?_, List.forall_mem_cons.2 ⟨?_, List.forall_mem_cons.2 ⟨?_, List.forall_mem_cons.2 ⟨?_, (by intro p hp; cases hp)⟩⟩⟩⟩⟩
  · exact ⟨0, 2, true, rfl, by simp [inR], by simp [inR], by simp, by simp⟩
  · exact ⟨1, 2, true, rfl, by simp [inR], by simp [inR], by simp, by simp⟩
  · exact ⟨2, 1, true, rfl, by simp [inR], by simp [inR], by simp, by simp⟩
  · exact ⟨3, 1, true, rfl, by simp [inR], by simp [inR], by simp, by simp⟩
  · exact ⟨3, 1, true, rfl, by simp [inR], by simp [inR], by simp, by simp⟩
theorem in_arith : ∀ x ∈ L_arithS, inR x.2.1 ∧ inR x.2.2 := fun x hx => by obtain ⟨_, _, _, _, h1, h2, _⟩ := ok_arith x hx; exact ⟨h1, h2⟩
def L_rangeS : List (ByteArray × Int × Int) := [(⟨#[115, 112, 97, 110]⟩, 3, 6), (⟨#[115, 105, 122, 101]⟩, 0, 0), (⟨#[115, 117, 109]⟩, 0, 0), (⟨#[115, 112, 97, 110]⟩, 5, 3)]
theorem play_range : Plays .range L_rangeS ⟨[], .map [], 0, -1⟩ [] [4, 18] 1 0 := by
  refine .step 2 .span 0 rfl (by kernel_rfl) ?_
  refine .step 4 .width 4 rfl (by kernel_rfl) ?_
  refine .step 5 .total 18 rfl (by kernel_rfl) ?_
  exact .halt 2 .span rfl (by kernel_rfl) rfl
theorem ok_range : ∀ x ∈ L_rangeS, okC .range x := by
  refine List.forall_mem_cons.2 ⟨?_, List.forall_mem_cons.2 ⟨?_, List.forall_mem_cons.2 ⟨?_, List.forall_mem_cons.2 ⟨?_, (by intro p hp; cases hp)⟩⟩⟩⟩
  · exact ⟨2, 2, false, rfl, by simp [inR], by simp [inR], by simp, by simp⟩
  · exact ⟨4, 0, true, rfl, by simp [inR], by simp [inR], by simp, by simp⟩
  · exact ⟨5, 0, true, rfl, by simp [inR], by simp [inR], by simp, by simp⟩
  · exact ⟨2, 2, false, rfl, by simp [inR], by simp [inR], by simp, by simp⟩
theorem in_range : ∀ x ∈ L_rangeS, inR x.2.1 ∧ inR x.2.2 := fun x hx => by obtain ⟨_, _, _, _, h1, h2, _⟩ := ok_range x hx; exact ⟨h1, h2⟩
end Go.Proofs.Bm
