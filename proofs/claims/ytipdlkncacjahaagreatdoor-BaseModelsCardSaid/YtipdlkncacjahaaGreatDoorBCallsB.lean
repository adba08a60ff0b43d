/- The calls of a class, in base. No condition. -/
import Derived.Test.YtipdlkncacjahaaGreatDoorBKit
import Derived.Test.YtipdlkncacjahaaGreatDoorBSteps
set_option linter.unusedSimpArgs false
set_option linter.unusedVariables false
namespace Go.Proofs.Bm
open Go.RowKit Go.Maps

def clsName : Cls → ByteArray
  | .ints => ⟨#[73, 78, 84, 83]⟩
  | .sorted => ⟨#[83, 79, 82, 84, 69, 68]⟩
  | .stack => ⟨#[83, 84, 65, 67, 75]⟩
  | .queue => ⟨#[81, 85, 69, 85, 69]⟩
  | .table => ⟨#[84, 65, 66, 76, 69]⟩
  | .set => ⟨#[83, 69, 84]⟩
  | .counter => ⟨#[67, 79, 85, 78, 84, 69, 82]⟩
  | .range => ⟨#[82, 65, 78, 71, 69]⟩
  | .arith => ⟨#[65, 82, 73, 84, 72]⟩
/-- Each call: its name, how many arguments, has it a result? -/
def callsT : Cls → List (ByteArray × Nat × Bool)
  | .ints => [(⟨#[99, 111, 117, 110, 116]⟩, 0, true), (⟨#[112, 117, 115, 104]⟩, 1, false), (⟨#[101, 120, 116, 101, 110, 100]⟩, 1, false), (⟨#[104, 97, 115]⟩, 1, true), (⟨#[105, 116, 101, 109]⟩, 1, true), (⟨#[115, 117, 109]⟩, 0, true), (⟨#[114, 101, 109, 111, 118, 101]⟩, 1, false), (⟨#[114, 101, 118, 101, 114, 115, 101]⟩, 0, false), (⟨#[119, 105, 112, 101]⟩, 0, false)]
  | .sorted => [(⟨#[99, 111, 117, 110, 116]⟩, 0, true), (⟨#[112, 117, 115, 104]⟩, 1, false), (⟨#[101, 120, 116, 101, 110, 100]⟩, 1, false), (⟨#[104, 97, 115]⟩, 1, true), (⟨#[105, 116, 101, 109]⟩, 1, true), (⟨#[115, 117, 109]⟩, 0, true), (⟨#[114, 101, 109, 111, 118, 101]⟩, 1, false), (⟨#[114, 101, 118, 101, 114, 115, 101]⟩, 0, false), (⟨#[119, 105, 112, 101]⟩, 0, false)]
  | .stack => [(⟨#[99, 111, 117, 110, 116]⟩, 0, true), (⟨#[112, 117, 115, 104]⟩, 1, false), (⟨#[112, 111, 112]⟩, 0, false), (⟨#[112, 101, 101, 107]⟩, 0, true)]
  | .queue => [(⟨#[99, 111, 117, 110, 116]⟩, 0, true), (⟨#[101, 110, 116, 101, 114]⟩, 1, false), (⟨#[108, 101, 97, 118, 101]⟩, 0, false), (⟨#[102, 114, 111, 110, 116]⟩, 0, true)]
  | .table => [(⟨#[99, 111, 117, 110, 116]⟩, 0, true), (⟨#[102, 111, 114, 99, 101]⟩, 2, false), (⟨#[104, 97, 115]⟩, 1, true), (⟨#[118, 97, 108, 117, 101, 95, 111, 102]⟩, 1, true), (⟨#[114, 101, 109, 111, 118, 101]⟩, 1, false)]
  | .set => [(⟨#[97, 100, 100]⟩, 1, false), (⟨#[100, 114, 111, 112]⟩, 1, false), (⟨#[104, 97, 115]⟩, 1, true), (⟨#[115, 105, 122, 101]⟩, 0, true)]
  | .counter => [(⟨#[99, 111, 117, 110, 116]⟩, 0, true), (⟨#[117, 112]⟩, 0, false), (⟨#[97, 100, 100]⟩, 1, false)]
  | .range => [(⟨#[108, 111, 119]⟩, 0, true), (⟨#[104, 105, 103, 104]⟩, 0, true), (⟨#[115, 112, 97, 110]⟩, 2, false), (⟨#[99, 111, 110, 116, 97, 105, 110, 115]⟩, 1, true), (⟨#[115, 105, 122, 101]⟩, 0, true), (⟨#[115, 117, 109]⟩, 0, true)]
  | .arith => [(⟨#[103, 99, 100]⟩, 2, true), (⟨#[112, 111, 119, 101, 114]⟩, 2, true), (⟨#[102, 97, 99, 116]⟩, 1, true), (⟨#[116, 114, 105, 101, 115]⟩, 1, true)]

def arOf (c : Cls) (k : Nat) : Value := match (callsT c)[k]? with | some p => I p.2.1 | none => undef
def reOf (c : Cls) (k : Nat) : Value := match (callsT c)[k]? with | some p => .bool p.2.2 | none => undef
def namesC (c : Cls) : List ByteArray := (callsT c).map (·.1)
def CallsPost (c : Cls) (w : World) (e : Ending) (w' : World) : Prop := ∃ g : Nat, e = .returned (.slice (some ⟨g, 0, none⟩) (namesC c).length (namesC c).length) ∧ Below w.heap.size w w' ∧
  ∀ k nm, (namesC c)[k]? = some nm → w'.cell? ⟨g, k * 3, none⟩ = some (.string nm) ∧ w'.cell? ⟨g, k * 3 + 1, none⟩ = some (arOf c k) ∧ w'.cell? ⟨g, k * 3 + 2, none⟩ = some (reOf c k)
theorem cells_post (c : Cls) (w : World) (cs : Array Value) (T : TypeId) (h : ∀ k nm, (namesC c)[k]? = some nm → cs[k * 3]? = some (.string nm) ∧ cs[k * 3 + 1]? = some (arOf c k) ∧ cs[k * 3 + 2]? = some (reOf c k)) :
    CallsPost c w (.returned (.slice (some ⟨w.heap.size, 0, none⟩) (namesC c).length (namesC c).length)) (w.alloc (.cells cs T)) := by
  refine ⟨_, rfl, (Below.refl _ w).alloc (Nat.le_refl _) _, fun k nm hk => ?_⟩
  have hc : ∀ j, (w.alloc (.cells cs T)).cell? ⟨w.heap.size, j, none⟩ = cs[j]? := by
    intro j
    unfold World.cell?
    rw [heap_alloc, if_pos rfl]
    rfl
  rw [hc, hc, hc]
  exact h k nm hk

theorem calls_ints (w : World) : Calls Tryz.prog 31 #[.string ⟨#[73, 78, 84, 83]⟩] w (CallsPost .ints w) := by
  go_enter Tryz.func31, Tryz.ntmps31
  go_wp2
  go_ret
  refine cells_post .ints w _ 48 fun k nm hk => ?_
  have hlt : k < 9 := (List.getElem?_eq_some_iff.1 hk).1
  match k, hlt, hk with
  | 0, _, hk => cases hk; exact ⟨rfl, rfl, rfl⟩
  | 1, _, hk => cases hk; exact ⟨rfl, rfl, rfl⟩
  | 2, _, hk => cases hk; exact ⟨rfl, rfl, rfl⟩
  | 3, _, hk => cases hk; exact ⟨rfl, rfl, rfl⟩
  | 4, _, hk => cases hk; exact ⟨rfl, rfl, rfl⟩
  | 5, _, hk => cases hk; exact ⟨rfl, rfl, rfl⟩
  | 6, _, hk => cases hk; exact ⟨rfl, rfl, rfl⟩
  | 7, _, hk => cases hk; exact ⟨rfl, rfl, rfl⟩
  | 8, _, hk => cases hk; exact ⟨rfl, rfl, rfl⟩

theorem calls_sorted (w : World) : Calls Tryz.prog 31 #[.string ⟨#[83, 79, 82, 84, 69, 68]⟩] w (CallsPost .sorted w) := by
  go_enter Tryz.func31, Tryz.ntmps31
  go_wp2
  go_ret
  refine cells_post .sorted w _ 48 fun k nm hk => ?_
  have hlt : k < 9 := (List.getElem?_eq_some_iff.1 hk).1
  match k, hlt, hk with
  | 0, _, hk => cases hk; exact ⟨rfl, rfl, rfl⟩
  | 1, _, hk => cases hk; exact ⟨rfl, rfl, rfl⟩
  | 2, _, hk => cases hk; exact ⟨rfl, rfl, rfl⟩
  | 3, _, hk => cases hk; exact ⟨rfl, rfl, rfl⟩
  | 4, _, hk => cases hk; exact ⟨rfl, rfl, rfl⟩
  | 5, _, hk => cases hk; exact ⟨rfl, rfl, rfl⟩
  | 6, _, hk => cases hk; exact ⟨rfl, rfl, rfl⟩
  | 7, _, hk => cases hk; exact ⟨rfl, rfl, rfl⟩
  | 8, _, hk => cases hk; exact ⟨rfl, rfl, rfl⟩

theorem calls_stack (w : World) : Calls Tryz.prog 31 #[.string ⟨#[83, 84, 65, 67, 75]⟩] w (CallsPost .stack w) := by
  go_enter Tryz.func31, Tryz.ntmps31
  go_wp2
  go_ret
  refine cells_post .stack w _ 48 fun k nm hk => ?_
  have hlt : k < 4 := (List.getElem?_eq_some_iff.1 hk).1
  match k, hlt, hk with
  | 0, _, hk => cases hk; exact ⟨rfl, rfl, rfl⟩
  | 1, _, hk => cases hk; exact ⟨rfl, rfl, rfl⟩
  | 2, _, hk => cases hk; exact ⟨rfl, rfl, rfl⟩
  | 3, _, hk => cases hk; exact ⟨rfl, rfl, rfl⟩

theorem calls_queue (w : World) : Calls Tryz.prog 31 #[.string ⟨#[81, 85, 69, 85, 69]⟩] w (CallsPost .queue w) := by
  go_enter Tryz.func31, Tryz.ntmps31
  go_wp2
  go_ret
  refine cells_post .queue w _ 48 fun k nm hk => ?_
  have hlt : k < 4 := (List.getElem?_eq_some_iff.1 hk).1
  match k, hlt, hk with
  | 0, _, hk => cases hk; exact ⟨rfl, rfl, rfl⟩
  | 1, _, hk => cases hk; exact ⟨rfl, rfl, rfl⟩
  | 2, _, hk => cases hk; exact ⟨rfl, rfl, rfl⟩
  | 3, _, hk => cases hk; exact ⟨rfl, rfl, rfl⟩

theorem calls_table (w : World) : Calls Tryz.prog 31 #[.string ⟨#[84, 65, 66, 76, 69]⟩] w (CallsPost .table w) := by
  go_enter Tryz.func31, Tryz.ntmps31
  go_wp2
  go_ret
  refine cells_post .table w _ 48 fun k nm hk => ?_
  have hlt : k < 5 := (List.getElem?_eq_some_iff.1 hk).1
  match k, hlt, hk with
  | 0, _, hk => cases hk; exact ⟨rfl, rfl, rfl⟩
  | 1, _, hk => cases hk; exact ⟨rfl, rfl, rfl⟩
  | 2, _, hk => cases hk; exact ⟨rfl, rfl, rfl⟩
  | 3, _, hk => cases hk; exact ⟨rfl, rfl, rfl⟩
  | 4, _, hk => cases hk; exact ⟨rfl, rfl, rfl⟩

theorem calls_set (w : World) : Calls Tryz.prog 31 #[.string ⟨#[83, 69, 84]⟩] w (CallsPost .set w) := by
  go_enter Tryz.func31, Tryz.ntmps31
  go_wp2
  go_ret
  refine cells_post .set w _ 48 fun k nm hk => ?_
  have hlt : k < 4 := (List.getElem?_eq_some_iff.1 hk).1
  match k, hlt, hk with
  | 0, _, hk => cases hk; exact ⟨rfl, rfl, rfl⟩
  | 1, _, hk => cases hk; exact ⟨rfl, rfl, rfl⟩
  | 2, _, hk => cases hk; exact ⟨rfl, rfl, rfl⟩
  | 3, _, hk => cases hk; exact ⟨rfl, rfl, rfl⟩

theorem calls_counter (w : World) : Calls Tryz.prog 31 #[.string ⟨#[67, 79, 85, 78, 84, 69, 82]⟩] w (CallsPost .counter w) := by
  go_enter Tryz.func31, Tryz.ntmps31
  go_wp2
  go_ret
  refine cells_post .counter w _ 48 fun k nm hk => ?_
  have hlt : k < 3 := (List.getElem?_eq_some_iff.1 hk).1
  match k, hlt, hk with
  | 0, _, hk => cases hk; exact ⟨rfl, rfl, rfl⟩
  | 1, _, hk => cases hk; exact ⟨rfl, rfl, rfl⟩
  | 2, _, hk => cases hk; exact ⟨rfl, rfl, rfl⟩

theorem calls_range (w : World) : Calls Tryz.prog 31 #[.string ⟨#[82, 65, 78, 71, 69]⟩] w (CallsPost .range w) := by
  go_enter Tryz.func31, Tryz.ntmps31
  go_wp2
  go_ret
  refine cells_post .range w _ 48 fun k nm hk => ?_
  have hlt : k < 6 := (List.getElem?_eq_some_iff.1 hk).1
  match k, hlt, hk with
  | 0, _, hk => cases hk; exact ⟨rfl, rfl, rfl⟩
  | 1, _, hk => cases hk; exact ⟨rfl, rfl, rfl⟩
  | 2, _, hk => cases hk; exact ⟨rfl, rfl, rfl⟩
  | 3, _, hk => cases hk; exact ⟨rfl, rfl, rfl⟩
  | 4, _, hk => cases hk; exact ⟨rfl, rfl, rfl⟩
  | 5, _, hk => cases hk; exact ⟨rfl, rfl, rfl⟩

theorem calls_arith (w : World) : Calls Tryz.prog 31 #[.string ⟨#[65, 82, 73, 84, 72]⟩] w (CallsPost .arith w) := by
  go_enter Tryz.func31, Tryz.ntmps31
  go_wp2
  go_ret
  refine cells_post .arith w _ 48 fun k nm hk => ?_
  have hlt : k < 4 := (List.getElem?_eq_some_iff.1 hk).1
  match k, hlt, hk with
  | 0, _, hk => cases hk; exact ⟨rfl, rfl, rfl⟩
  | 1, _, hk => cases hk; exact ⟨rfl, rfl, rfl⟩
  | 2, _, hk => cases hk; exact ⟨rfl, rfl, rfl⟩
  | 3, _, hk => cases hk; exact ⟨rfl, rfl, rfl⟩
theorem calls_cls (c : Cls) (w : World) : Calls Tryz.prog 31 #[.string (clsName c)] w (CallsPost c w) := by
  cases c
  · exact calls_ints w
  · exact calls_sorted w
  · exact calls_stack w
  · exact calls_queue w
  · exact calls_table w
  · exact calls_set w
  · exact calls_counter w
  · exact calls_range w
  · exact calls_arith w

/-- A class without calls. -/
theorem calls_none (cls : ByteArray) (hcls : ∀ c, cls ≠ clsName c) (w : World) : Calls Tryz.prog 31 #[.string cls] w fun e w' => e = .returned (.slice none 0 0) ∧ w = w' := by
  have hints : (cls.toList == [73, 78, 84, 83]) = false := by have := str_ne (hcls .ints); rwa [Go.ByteArray.toList_eq (clsName .ints)] at this
  have hsorted : (cls.toList == [83, 79, 82, 84, 69, 68]) = false := by have := str_ne (hcls .sorted); rwa [Go.ByteArray.toList_eq (clsName .sorted)] at this
  have hstack : (cls.toList == [83, 84, 65, 67, 75]) = false := by have := str_ne (hcls .stack); rwa [Go.ByteArray.toList_eq (clsName .stack)] at this
  have hqueue : (cls.toList == [81, 85, 69, 85, 69]) = false := by have := str_ne (hcls .queue); rwa [Go.ByteArray.toList_eq (clsName .queue)] at this
  have htable : (cls.toList == [84, 65, 66, 76, 69]) = false := by have := str_ne (hcls .table); rwa [Go.ByteArray.toList_eq (clsName .table)] at this
  have hset : (cls.toList == [83, 69, 84]) = false := by have := str_ne (hcls .set); rwa [Go.ByteArray.toList_eq (clsName .set)] at this
  have hcounter : (cls.toList == [67, 79, 85, 78, 84, 69, 82]) = false := by have := str_ne (hcls .counter); rwa [Go.ByteArray.toList_eq (clsName .counter)] at this
  have hrange : (cls.toList == [82, 65, 78, 71, 69]) = false := by have := str_ne (hcls .range); rwa [Go.ByteArray.toList_eq (clsName .range)] at this
  have harith : (cls.toList == [65, 82, 73, 84, 72]) = false := by have := str_ne (hcls .arith); rwa [Go.ByteArray.toList_eq (clsName .arith)] at this
  go_enter Tryz.func31, Tryz.ntmps31
  go_wp2
  go_ret
  exact ⟨rfl, rfl⟩
end Go.Proofs.Bm

namespace Go.Proofs.Bm
open Go.RowKit Go.Maps

def FoundPost (k : Nat) (cls : ByteArray) (w : World) (e : Ending) (w' : World) : Prop := ∃ (m : Nat) (a : Option Addr) (n : Nat) (t : ByteArray), e = .returned (.tuple #[.agg #[.string cls, .slice a n n, .string t], .bool true]) ∧ Below w.heap.size w w' ∧
  (k = 8 → a = some ⟨m, 0, none⟩ ∧ n = 2 ∧ w.heap.size ≤ m ∧ w'.heap[m]? = some (.cells #[.string ⟨#[76, 73, 78, 75]⟩, .string ⟨#[73, 78, 84, 83]⟩] 9 (0, 0)))
abbrev W27 (w : World) (cls : ByteArray) : World := (w.alloc (.cells #[.string cls] 9)).alloc (.cells #[.string ⟨#[]⟩, .slice none 0 0, .string ⟨#[]⟩] 61)

theorem below2 {w w1 : World} {o1 o2 : Obj} (hb : Below ((w.alloc o1).alloc o2).heap.size ((w.alloc o1).alloc o2) w1) : Below w.heap.size w w1 :=
  (((Below.refl _ w).alloc (Nat.le_refl _) o1).alloc (by simp) o2).trans (hb.mono (by simp; omega))

theorem two_c1 (w : World) (c1 c2 : Array Value) (T1 T2 : TypeId) (j : Nat) : ((w.alloc (.cells c1 T1)).alloc (.cells c2 T2)).cell? ⟨w.heap.size, j, none⟩ = c1[j]? := by
  unfold World.cell?
  rw [heap_alloc, if_neg (by simp), heap_alloc, if_pos rfl]
  rfl
theorem two_c2 (w : World) (c1 c2 : Array Value) (T1 T2 : TypeId) (j : Nat) : ((w.alloc (.cells c1 T1)).alloc (.cells c2 T2)).cell? ⟨w.heap.size + 1, j, none⟩ = c2[j]? := by
  unfold World.cell?
  rw [heap_alloc, if_pos (by simp)]
  rfl
theorem two_f2 (w : World) (c1 c2 : Array Value) (T1 T2 : TypeId) (j : Nat) : ((w.alloc (.cells c1 T1)).alloc (.cells c2 T2)).frozen? ⟨w.heap.size + 1, j, none⟩ = false := by
  unfold World.frozen?
  rw [heap_alloc, if_pos (by simp)]
  simp

set_option maxHeartbeats 1000000 in
theorem found_yes (k : Nat) (cls : ByteArray) (hk : Lib.idxOfS N12 cls = (k : Int)) (hN : N12[k]? = some cls) (w : World) : Calls Tryz.prog 27 #[.string cls] w (FoundPost k cls w) := by
  have hmf : ∀ (fn : Fn) (first cap : Array Value) (w : World), (Instr.makeFunc fn first cap).run Tryz.prog w = .ok (.func fn first cap) w := fun _ _ _ _ => rfl
  have hlt : k < 12 := (List.getElem?_eq_some_iff.1 hN).1
  have hk0 : (0 : Int) ≤ (k : Int) := by omega
  have hkn : ¬ (k : Int) < 0 := by omega
  have hk12 : (k : Int) < 12 := by omega
  replace hk := Lib.hid hk
  replace hN := Lib.hid hN
  go_enter Tryz.func27, Tryz.ntmps27
  go_wp2_with fail
  refine (lib85 _).mono ?_
  rintro e w1 ⟨g, m, A, M, X, rfl, hg, hb, hL, h8, h82, hm, hm8⟩
  have a0 : w1.cell? ⟨w.heap.size, 0, none⟩ = some (.string cls) := (hb.cell (by simp; omega)).trans (two_c1 w _ _ _ _ 0)
  have hsz := hb.size
  simp only [World.size_alloc] at hsz hg hm
  go_wp2_with fail
  refine (ixf86 g w.heap.size N12 (fun k => .slice (A k) (M k) (M k)) (fun k => .string (X k)) cls _ a0 (by decide) hL).mono ?_
  rintro e w2 ⟨rfl, hb2⟩
  rw [hk.out]
  obtain ⟨q0, q1, q2⟩ := hL k cls hN.out
  have p0 := (hb2.cell (World.block_lt_of_cell? w1 _ q0)).trans q0
  have p1 := (hb2.cell (World.block_lt_of_cell? w1 _ q1)).trans q1
  have p2 := (hb2.cell (World.block_lt_of_cell? w1 _ q2)).trans q2
  have hm1 := (hb2.block m (Array.getElem?_eq_some_iff.1 hm8).1).trans hm8
  have hbb := hb.trans (hb2.mono (by simpa using hb.size))
  have b0 : w2.cell? ⟨w.heap.size + 1, 0, none⟩ = some (.string ⟨#[]⟩) := (hbb.cell (by simp)).trans (two_c2 w _ _ _ _ 0)
  have b1 : w2.cell? ⟨w.heap.size + 1, 1, none⟩ = some (.slice none 0 0) := (hbb.cell (by simp)).trans (two_c2 w _ _ _ _ 1)
  have b2 : w2.cell? ⟨w.heap.size + 1, 2, none⟩ = some (.string ⟨#[]⟩) := (hbb.cell (by simp)).trans (two_c2 w _ _ _ _ 2)
  have f0 : ∀ j, w2.frozen? ⟨w.heap.size + 1, j, none⟩ = false := fun j => (hbb.frozen (by simp)).trans (two_f2 w _ _ _ _ j)
  have f1 := f0 0
  have f2 := f0 1
  have f3 := f0 2
  have hB := Lib.hid (below2 hbb)
  clear hL q0 q1 q2 hb hb2 hbb a0 hsz f0 hm8
  go_wp2
  refine bodyPost_ret (v := .tuple #[.agg #[.string cls, .slice (A k) (M k) (M k), .string (X k)], .bool true]) (by simp [results, Tryz.results27, go_sem, b0, b1, b2]) rfl ?_
  refine ⟨m, A k, M k, X k, rfl, ((hB.out.setCell (by simp) _).setCell (by simp) _).setCell (by simp) _, fun e => ?_⟩
  subst e
  refine ⟨h8, h82, by omega, ?_⟩
  rw [heap_setCell _ _ _ _ (by simp; omega), heap_setCell _ _ _ _ (by simp; omega), heap_setCell _ _ _ _ (by simp; omega)]
  exact hm1
set_option maxHeartbeats 1000000 in
theorem found_no (cls : ByteArray) (hk : Lib.idxOfS N12 cls = -1) (w : World) : Calls Tryz.prog 27 #[.string cls] w fun e w' => e = .returned (.tuple #[.agg #[.string ⟨#[]⟩, .slice none 0 0, .string ⟨#[]⟩], .bool false]) ∧ Below w.heap.size w w' := by
  have hmf : ∀ (fn : Fn) (first cap : Array Value) (w : World), (Instr.makeFunc fn first cap).run Tryz.prog w = .ok (.func fn first cap) w := fun _ _ _ _ => rfl
  replace hk := Lib.hid hk
  go_enter Tryz.func27, Tryz.ntmps27
  go_wp2_with fail
  refine (lib85 _).mono ?_
  rintro e w1 ⟨g, m, A, M, X, rfl, hg, hb, hL, h8, h82, hm, hm8⟩
  have a0 : w1.cell? ⟨w.heap.size, 0, none⟩ = some (.string cls) := (hb.cell (by simp; omega)).trans (two_c1 w _ _ _ _ 0)
  have hsz := hb.size
  simp only [World.size_alloc] at hsz hg hm
  go_wp2_with fail
  refine (ixf86 g w.heap.size N12 (fun k => .slice (A k) (M k) (M k)) (fun k => .string (X k)) cls _ a0 (by decide) hL).mono ?_
  rintro e w2 ⟨rfl, hb2⟩
  rw [hk.out]
  have hbb := hb.trans (hb2.mono (by simpa using hb.size))
  have b0 : w2.cell? ⟨w.heap.size + 1, 0, none⟩ = some (.string ⟨#[]⟩) := (hbb.cell (by simp)).trans (two_c2 w _ _ _ _ 0)
  have b1 : w2.cell? ⟨w.heap.size + 1, 1, none⟩ = some (.slice none 0 0) := (hbb.cell (by simp)).trans (two_c2 w _ _ _ _ 1)
  have b2 : w2.cell? ⟨w.heap.size + 1, 2, none⟩ = some (.string ⟨#[]⟩) := (hbb.cell (by simp)).trans (two_c2 w _ _ _ _ 2)
  have f0 : ∀ j, w2.frozen? ⟨w.heap.size + 1, j, none⟩ = false := fun j => (hbb.frozen (by simp)).trans (two_f2 w _ _ _ _ j)
  have f1 := f0 0
  have f2 := f0 1
  have f3 := f0 2
  have hB := Lib.hid (below2 hbb)
  clear hL hb hb2 hbb a0 hsz f0 hm8
  go_wp2
  refine bodyPost_ret (v := .tuple #[.agg #[.string ⟨#[]⟩, .slice none 0 0, .string ⟨#[]⟩], .bool false]) (by simp [results, Tryz.results27, go_sem, b0, b1, b2]) rfl ?_
  exact ⟨rfl, ((hB.out.setCell (by simp) _).setCell (by simp) _).setCell (by simp) _⟩

set_option maxHeartbeats 1000000 in
theorem callOf_yes (c : Cls) (k : Nat) (nm : ByteArray) (ar : Nat) (re : Bool) (hk : Lib.idxOfS (namesC c) nm = (k : Int)) (hN : (callsT c)[k]? = some (nm, ar, re)) (w : World) : Calls Tryz.prog 16 #[.string (clsName c), .string nm] w fun e w' => e = .returned (.tuple #[.agg #[.string nm, I ar, .bool re], .bool true]) ∧ Below w.heap.size w w' := by
  have hmf : ∀ (fn : Fn) (first cap : Array Value) (w : World), (Instr.makeFunc fn first cap).run Tryz.prog w = .ok (.func fn first cap) w := fun _ _ _ _ => rfl
  have hN' : (namesC c)[k]? = some nm := by unfold namesC; rw [List.getElem?_map, hN]; rfl
  have hA : arOf c k = I ar := by unfold arOf; rw [hN]
  have hR : reOf c k = .bool re := by unfold reOf; rw [hN]
  have hlt : k < (namesC c).length := (List.getElem?_eq_some_iff.1 hN').1
  have hk0 : (0 : Int) ≤ (k : Int) := by omega
  have hkn : ¬ (k : Int) < 0 := by omega
  have hk12 : (k : Int) < ((namesC c).length : Int) := by omega
  replace hN := Lib.hid hN
  replace hN' := Lib.hid hN'
  replace hA := Lib.hid hA
  replace hR := Lib.hid hR
  have hlen : (namesC c).length ≤ 1000 := by cases c <;> decide
  replace hk := Lib.hid hk
  go_enter Tryz.func16, Tryz.ntmps16
  go_wp2_with fail
  refine (calls_cls c _).mono ?_
  rintro e w1 ⟨g, rfl, hb, hL⟩
  have a0 : w1.cell? ⟨w.heap.size, 0, none⟩ = some (.string nm) := (hb.cell (by simp; omega)).trans (two_c1 w _ _ _ _ 0)
  have hsz := hb.size
  simp only [World.size_alloc] at hsz
  go_wp2_with fail
  refine (ixf69 g w.heap.size (namesC c) (arOf c) (reOf c) nm _ a0 hlen hL).mono ?_
  rintro e w2 ⟨rfl, hb2⟩
  rw [hk.out]
  obtain ⟨q0, q1, q2⟩ := hL k nm hN'.out
  rw [hA.out] at q1
  rw [hR.out] at q2
  have p0 := (hb2.cell (World.block_lt_of_cell? w1 _ q0)).trans q0
  have p1 := (hb2.cell (World.block_lt_of_cell? w1 _ q1)).trans q1
  have p2 := (hb2.cell (World.block_lt_of_cell? w1 _ q2)).trans q2
  have hbb := hb.trans (hb2.mono (by simpa using hb.size))
  have b0 : w2.cell? ⟨w.heap.size + 1, 0, none⟩ = some (.string ⟨#[]⟩) := (hbb.cell (by simp)).trans (two_c2 w _ _ _ _ 0)
  have b1 : w2.cell? ⟨w.heap.size + 1, 1, none⟩ = some (I 0) := (hbb.cell (by simp)).trans (two_c2 w _ _ _ _ 1)
  have b2 : w2.cell? ⟨w.heap.size + 1, 2, none⟩ = some (.bool false) := (hbb.cell (by simp)).trans (two_c2 w _ _ _ _ 2)
  have f0 : ∀ j, w2.frozen? ⟨w.heap.size + 1, j, none⟩ = false := fun j => (hbb.frozen (by simp)).trans (two_f2 w _ _ _ _ j)
  have f1 := f0 0
  have f2 := f0 1
  have f3 := f0 2
  have hB := Lib.hid (below2 hbb)
  clear hL q0 q1 q2 hb hb2 hbb a0 hsz f0
  go_wp2
  refine bodyPost_ret (v := .tuple #[.agg #[.string nm, I ar, .bool re], .bool true]) (by simp [results, Tryz.results16, go_sem, b0, b1, b2]) rfl ?_
  exact ⟨rfl, ((hB.out.setCell (by simp) _).setCell (by simp) _).setCell (by simp) _⟩

set_option maxHeartbeats 1000000 in
theorem callOf_no (c : Cls) (nm : ByteArray) (hk : Lib.idxOfS (namesC c) nm = -1) (w : World) : Calls Tryz.prog 16 #[.string (clsName c), .string nm] w fun e w' => e = .returned (.tuple #[.agg #[.string ⟨#[]⟩, I 0, .bool false], .bool false]) ∧ Below w.heap.size w w' := by
  have hmf : ∀ (fn : Fn) (first cap : Array Value) (w : World), (Instr.makeFunc fn first cap).run Tryz.prog w = .ok (.func fn first cap) w := fun _ _ _ _ => rfl
  have hlen : (namesC c).length ≤ 1000 := by cases c <;> decide
  replace hk := Lib.hid hk
  go_enter Tryz.func16, Tryz.ntmps16
  go_wp2_with fail
  refine (calls_cls c _).mono ?_
  rintro e w1 ⟨g, rfl, hb, hL⟩
  have a0 : w1.cell? ⟨w.heap.size, 0, none⟩ = some (.string nm) := (hb.cell (by simp; omega)).trans (two_c1 w _ _ _ _ 0)
  have hsz := hb.size
  simp only [World.size_alloc] at hsz
  go_wp2_with fail
  refine (ixf69 g w.heap.size (namesC c) (arOf c) (reOf c) nm _ a0 hlen hL).mono ?_
  rintro e w2 ⟨rfl, hb2⟩
  rw [hk.out]
  have hbb := hb.trans (hb2.mono (by simpa using hb.size))
  have b0 : w2.cell? ⟨w.heap.size + 1, 0, none⟩ = some (.string ⟨#[]⟩) := (hbb.cell (by simp)).trans (two_c2 w _ _ _ _ 0)
  have b1 : w2.cell? ⟨w.heap.size + 1, 1, none⟩ = some (I 0) := (hbb.cell (by simp)).trans (two_c2 w _ _ _ _ 1)
  have b2 : w2.cell? ⟨w.heap.size + 1, 2, none⟩ = some (.bool false) := (hbb.cell (by simp)).trans (two_c2 w _ _ _ _ 2)
  have f0 : ∀ j, w2.frozen? ⟨w.heap.size + 1, j, none⟩ = false := fun j => (hbb.frozen (by simp)).trans (two_f2 w _ _ _ _ j)
  have f1 := f0 0
  have f2 := f0 1
  have f3 := f0 2
  have hB := Lib.hid (below2 hbb)
  clear hL hb hb2 hbb a0 hsz f0
  go_wp2
  refine bodyPost_ret (v := .tuple #[.agg #[.string ⟨#[]⟩, I 0, .bool false], .bool false]) (by simp [results, Tryz.results16, go_sem, b0, b1, b2]) rfl ?_
  exact ⟨rfl, ((hB.out.setCell (by simp) _).setCell (by simp) _).setCell (by simp) _⟩

end Go.Proofs.Bm

namespace Go.Proofs.Bm
open Go.RowKit Go.Maps

/-- A list of calls that reads so. -/
structure LC (w : World) (a : Option Addr) (l : List (ByteArray × Int × Int)) : Prop where
  len : l.length ≤ 9223372036854775807
  cell : ∀ (k : Nat) (nm : ByteArray) (A B : Int), l[k]? = some (nm, A, B) → ∃ b off, a = some ⟨b, off, none⟩ ∧ w.cell? ⟨b, off + k * 3, none⟩ = some (.string nm) ∧ w.cell? ⟨b, off + k * 3 + 1, none⟩ = some (I A) ∧ w.cell? ⟨b, off + k * 3 + 2, none⟩ = some (I B)
  wf : ∀ x ∈ l, (-9223372036854775808 ≤ x.2.1 ∧ x.2.1 ≤ 9223372036854775807) ∧ (-9223372036854775808 ≤ x.2.2 ∧ x.2.2 ≤ 9223372036854775807)
theorem LC.below {w w' : World} {a : Option Addr} {l : List (ByteArray × Int × Int)} (h : LC w a l) (hb : Below w.heap.size w w') : LC w' a l :=
  ⟨h.len, fun k nm A B hk => by
    obtain ⟨b, off, e, h0, h1, h2⟩ := h.cell k nm A B hk
    exact ⟨b, off, e, (hb.cell (World.block_lt_of_cell? w _ h0)).trans h0, (hb.cell (World.block_lt_of_cell? w _ h1)).trans h1, (hb.cell (World.block_lt_of_cell? w _ h2)).trans h2⟩, h.wf⟩

/-- A call that is one of the class, with numbers that it takes. -/
def okC (c : Cls) (x : ByteArray × Int × Int) : Prop := ∃ (k ar : Nat) (re : Bool), (callsT c)[k]? = some (x.1, ar, re) ∧ inR x.2.1 ∧ inR x.2.2 ∧ (ar < 1 → x.2.1 = 0) ∧ (ar < 2 → x.2.2 = 0)
theorem idx_calls (c : Cls) (k : Nat) (p : ByteArray × Nat × Bool) (h : (callsT c)[k]? = some p) : Lib.idxOfS (namesC c) p.1 = (k : Int) ∧ p.2.1 ≤ 2 := by
  have : ∀ c : Cls, (List.range (callsT c).length).all (fun k => decide (Lib.idxOfS (namesC c) ((callsT c).getD k default).1 = (k : Int) ∧ ((callsT c).getD k default).2.1 ≤ 2)) = true := by intro c; cases c <;> decide +kernel
  have h1 := List.all_eq_true.1 (this c) k (List.mem_range.2 (List.getElem?_eq_some_iff.1 h).1)
  simpa [List.getD, h] using h1
theorem idx_none (c : Cls) (nm : ByteArray) (h : ∀ (k ar : Nat) (re : Bool), (callsT c)[k]? ≠ some (nm, ar, re)) : Lib.idxOfS (namesC c) nm = -1 := by
  have hn : nm ∉ namesC c := fun hm => by
    obtain ⟨p, hp, e⟩ := List.mem_map.1 hm
    obtain ⟨k, hk⟩ := List.mem_iff_getElem?.1 hp
    exact h k p.2.1 p.2.2 (by rw [hk, ← e])
  have h0 := Lib.idxOfS_miss (namesC c) (namesC c).length nm (fun j hj e => hn (by rw [← e, List.getD_eq_getElem?_getD, List.getElem?_eq_getElem hj]; exact List.getElem_mem hj))
  rwa [List.take_length] at h0

theorem within_yes (n : Int) (h : inR n) (w : World) : Calls Tryz.prog 32 #[I n] w fun e w' => e = .returned (.bool true) ∧ w = w' := by
  have := within_any n w (by have := h.1; omega) (by have := h.2; omega)
  rwa [show decide (-1099511627776 ≤ n ∧ n ≤ 1099511627776) = true by simpa [inR] using h] at this
theorem within_no (n : Int) (h : ¬ inR n) (h0 : -9223372036854775808 ≤ n) (h1 : n ≤ 9223372036854775807) (w : World) : Calls Tryz.prog 32 #[I n] w fun e w' => e = .returned (.bool false) ∧ w = w' := by
  have := within_any n w h0 h1
  rwa [show decide (-1099511627776 ≤ n ∧ n ≤ 1099511627776) = false by simpa [inR] using h] at this

def ErrPost (x : Int) (w : World) (e : Ending) (w' : World) : Prop := e = .returned (I x) ∧ Below w.heap.size w w'

theorem check_name (cls : ByteArray) (hk : Lib.idxOfS N12 cls = -1) (a : Option Addr) (n cap : Nat) (w : World) : Calls Tryz.prog 14 #[.string cls, .slice a n cap] w (ErrPost 4 w) := by
  go_enter Tryz.func14, Tryz.ntmps14
  go_wp2_with fail
  refine (found_no cls hk _).mono ?_
  rintro e w1 ⟨rfl, hb⟩
  go_wp2
  go_ret
  exact ⟨rfl, hb.alloc hb.size _⟩
theorem check_arg (k : Nat) (cls : ByteArray) (hk : Lib.idxOfS N12 cls = (k : Int)) (hN : N12[k]? = some cls) (hcls : ∀ c, cls ≠ clsName c) (a : Option Addr) (n cap : Nat) (w : World) : Calls Tryz.prog 14 #[.string cls, .slice a n cap] w (ErrPost 1 w) := by
  go_enter Tryz.func14, Tryz.ntmps14
  go_wp2_with fail
  refine (found_yes k cls hk hN _).mono ?_
  rintro e w1 ⟨m, a1, n1, t, rfl, hb, _⟩
  go_wp2_with fail
  refine (calls_none cls hcls _).mono ?_
  rintro e w1 ⟨rfl, rfl⟩
  go_wp2
  go_ret
  exact ⟨rfl, hb.alloc hb.size _⟩
theorem cls_N12 (c : Cls) : ∃ k : Nat, Lib.idxOfS N12 (clsName c) = (k : Int) ∧ N12[k]? = some (clsName c) := by
  cases c
  · exact ⟨1, by decide +kernel, rfl⟩
  · exact ⟨2, by decide +kernel, rfl⟩
  · exact ⟨4, by decide +kernel, rfl⟩
  · exact ⟨5, by decide +kernel, rfl⟩
  · exact ⟨7, by decide +kernel, rfl⟩
  · exact ⟨8, by decide +kernel, rfl⟩
  · exact ⟨9, by decide +kernel, rfl⟩
  · exact ⟨10, by decide +kernel, rfl⟩
  · exact ⟨11, by decide +kernel, rfl⟩
theorem callsC (c : Cls) (w : World) : Calls Tryz.prog 31 #[.string (clsName c)] w fun e w' => ∃ g, e = .returned (.slice (some ⟨g, 0, none⟩) (namesC c).length (namesC c).length) ∧ Below w.heap.size w w' := (calls_cls c w).mono fun _ _ ⟨g, h1, h2, _⟩ => ⟨g, h1, h2⟩
theorem check_limit (c : Cls) (a : Option Addr) (n cap : Nat) (hn : 40 < n) (w : World) : Calls Tryz.prog 14 #[.string (clsName c), .slice a n cap] w (ErrPost 3 w) := by
  obtain ⟨k, hk, hN⟩ := cls_N12 c
  have hlen : (1 : Int) ≤ ((namesC c).length : Int) := by cases c <;> decide
  have hlen0 : (((namesC c).length : Int) == 0) = false := by cases c <;> decide
  have hnz : (40 : Int) < (n : Int) := by omega
  replace hk := Lib.hid hk
  replace hN := Lib.hid hN
  go_enter Tryz.func14, Tryz.ntmps14
  go_wp2_with fail
  refine (found_yes k _ hk.out hN.out _).mono ?_
  rintro e w1 ⟨m, a1, n1, t, rfl, hb, _⟩
  go_wp2_with fail
  refine (callsC c _).mono ?_
  rintro e w2 ⟨g, rfl, hb2⟩
  go_wp2
  go_ret
  exact ⟨rfl, (hb.alloc hb.size _).trans (hb2.mono (by have := hb.size; simp; omega))⟩

theorem okC_iff (c : Cls) (j : Nat) (nm : ByteArray) (ar : Nat) (re : Bool) (hj : (callsT c)[j]? = some (nm, ar, re)) (A B : Int) : okC c (nm, A, B) ↔ inR A ∧ inR B ∧ (ar < 1 → A = 0) ∧ (ar < 2 → B = 0) := by
  constructor
  · rintro ⟨j', ar', re', hj', h1, h2, h3, h4⟩
    have e1 := (idx_calls c j _ hj).1
    have e2 := (idx_calls c j' _ hj').1
    dsimp only at e1 e2
    obtain rfl : j = j' := by have := e1.symm.trans e2; omega
    rw [hj] at hj'
    cases hj'
    exact ⟨h1, h2, h3, h4⟩
  · rintro ⟨h1, h2, h3, h4⟩
    exact ⟨j, ar, re, hj, h1, h2, h3, h4⟩
/-- What is returned of the calls. -/
def Chk (c : Cls) (l : List (ByteArray × Int × Int)) (R : Int) : Prop := (R = 0 ∧ ∀ x ∈ l, okC c x) ∨ (R = 1 ∧ ∃ x ∈ l, ¬ okC c x)
theorem Chk.tail {c : Cls} {x : ByteArray × Int × Int} {l : List (ByteArray × Int × Int)} {R : Int} (h : Chk c (x :: l) R) (hx : okC c x) : Chk c l R := by
  rcases h with ⟨h, h1⟩ | ⟨h, y, hy, h1⟩
  · exact .inl ⟨h, fun y hy => h1 y (List.mem_cons_of_mem _ hy)⟩
  · rcases List.mem_cons.1 hy with rfl | hy
    · exact absurd hx h1
    · exact .inr ⟨h, y, hy, h1⟩
theorem Chk.bad {c : Cls} {x : ByteArray × Int × Int} {l : List (ByteArray × Int × Int)} {R : Int} (h : Chk c (x :: l) R) (hx : ¬ okC c x) : R = 1 := by
  rcases h with ⟨_, h1⟩ | ⟨h, _⟩
  · exact absurd (h1 x (List.mem_cons_self)) hx
  · exact h
theorem Chk.nil {c : Cls} {R : Int} (h : Chk c [] R) : R = 0 := by
  rcases h with ⟨h, _⟩ | ⟨_, y, hy, _⟩
  · exact h
  · cases hy

set_option maxHeartbeats 4000000 in
set_option maxRecDepth 100000 in
theorem check_loop (c : Cls) (a : Option Addr) (cap : Nat) (l : List (ByteArray × Int × Int)) (R : Int) (hR : Chk c l R) (w : World) (hL : LC w a l) (hn : l.length ≤ 40) : Calls Tryz.prog 14 #[.string (clsName c), .slice a l.length cap] w (ErrPost R w) := by
  obtain ⟨k, hk, hN⟩ := cls_N12 c
  have hlen : (1 : Int) ≤ ((namesC c).length : Int) := by cases c <;> decide
  have hlen0 : (((namesC c).length : Int) == 0) = false := by cases c <;> decide
  have hnz : ¬ (40 : Int) < (l.length : Int) := by omega
  replace hk := Lib.hid hk
  replace hN := Lib.hid hN
  replace hL := Lib.hid hL
  replace hR := Lib.hid hR
  go_enter Tryz.func14, Tryz.ntmps14
  go_wp2_with fail
  refine (found_yes k _ hk.out hN.out _).mono ?_
  rintro e w1 ⟨m, a1, n1, t, rfl, hb, _⟩
  go_wp2_with fail
  refine (callsC c _).mono ?_
  rintro e w2 ⟨g, rfl, hb2⟩
  have hB := (hb.alloc hb.size _).trans (hb2.mono (by have := hb.size; simp; omega))
  go_wp2_with fail
  go_loopg [27] l.length (fun gg s27 wr => ∃ kk : Nat, kk ≤ l.length ∧ l.length - kk ≤ gg ∧ s27 = I kk ∧ Below w.heap.size w wr ∧ Hid (Chk c (l.drop kk) R))
  case atStart => exact ⟨0, by omega, by omega, rfl, hB, Lib.hid (by simpa using hR.out)⟩
  case round =>
    obtain ⟨kk, hkk, hg, rfl, hbr, hr⟩ := hrel
    by_cases hlt : kk < l.length
    · have hltz : (kk : Int) < (l.length : Int) := by omega
      have hkz : (0 : Int) ≤ (kk : Int) := by omega
      have hr2 := hr.out
      rw [List.drop_eq_getElem_cons hlt] at hr2
      have hz := List.getElem?_eq_getElem hlt
      generalize l[kk] = x at hz hr2
      obtain ⟨nm, A, B⟩ := x
      obtain ⟨bb, off, rfl, h0, h1, h2⟩ := hL.out.cell kk nm A B hz
      have g0 := (hbr.cell (World.block_lt_of_cell? w _ h0)).trans h0
      have g1 := (hbr.cell (World.block_lt_of_cell? w _ h1)).trans h1
      have g2 := (hbr.cell (World.block_lt_of_cell? w _ h2)).trans h2
      have hwf := hL.out.wf _ (List.mem_of_getElem? hz)
      obtain ⟨⟨wf1, wf2⟩, wf3, wf4⟩ := hwf
      dsimp only at wf1 wf2 wf3 wf4
      clear h0 h1 h2 hz
      by_cases hnm : ∃ (j ar : Nat) (re : Bool), (callsT c)[j]? = some (nm, ar, re)
      · obtain ⟨j, ar, re, hj⟩ := hnm
        have hj1 := (idx_calls c j _ hj).1
        have hiff := okC_iff c j nm ar re hj A B
        replace hiff := Lib.hid hiff
        go_wp2_with fail
        refine (callOf_yes c j nm ar re hj1 hj _).mono ?_
        rintro e w3 ⟨rfl, hb3⟩
        have q1 : w3.cell? ⟨wr.heap.size, 1, none⟩ = some (I A) := (hb3.cell (by simp)).trans (by unfold World.cell?; rw [heap_alloc, if_pos rfl]; rfl)
        have q2 : w3.cell? ⟨wr.heap.size, 2, none⟩ = some (I B) := (hb3.cell (by simp)).trans (by unfold World.cell?; rw [heap_alloc, if_pos rfl]; rfl)
        have hsz3 : wr.heap.size < w3.heap.size := by have := hb3.size; simp at this; omega
        have hb4 : Below w.heap.size w (w3.alloc (.cells #[.string nm, I ar, .bool re] 48)) := ((hbr.alloc hbr.size _).trans (hb3.mono (by have := hbr.size; simp; omega))).alloc (by have := hbr.size; omega) _
        replace hj := Lib.hid hj
        replace hj1 := Lib.hid hj1
        clear hb3 g0 g1 g2
        by_cases hA : inR A
        · by_cases hB : inR B
          · by_cases ha1 : ar < 1
            · have hz1 : (ar : Int) < 1 := by omega
              have hz2 : (ar : Int) < 2 := by omega
              by_cases hA0 : A = 0
              · subst hA0
                by_cases hB0 : B = 0
                · subst hB0
                  have hok : okC c (nm, 0, 0) := hiff.out.2 ⟨hA, hB, fun _ => rfl, fun _ => rfl⟩
                  have hr3 := Lib.hid (hr2.tail hok)
                  clear hr2 hok
                  go_wp2_with fail
                  refine (within_yes 0 hA _).mono ?_
                  rintro e w' ⟨rfl, rfl⟩
                  go_wp2_with fail
                  refine (within_yes 0 hB _).mono ?_
                  rintro e w' ⟨rfl, rfl⟩
                  go_wp2_with fail
                  go_roundg (l.length - (kk + 1))
                  case measure => omega
                  case rel => exact ⟨kk + 1, by omega, by omega, by go_num, hb4, hr3⟩
                · have hBb : (B != 0) = true := by simpa using hB0
                  have hR1 := hr2.bad (fun e => hB0 ((hiff.out.1 e).2.2.2 (by omega)))
                  replace hR1 := Lib.hid hR1
                  clear hr2
                  go_wp2_with fail
                  refine (within_yes 0 hA _).mono ?_
                  rintro e w' ⟨rfl, rfl⟩
                  go_wp2_with fail
                  refine (within_yes B hB _).mono ?_
                  rintro e w' ⟨rfl, rfl⟩
                  go_wp2
                  go_ret
                  rw [hR1.out]
                  exact ⟨rfl, hb4⟩
              · have hAb : (A != 0) = true := by simpa using hA0
                have hR1 := hr2.bad (fun e => hA0 ((hiff.out.1 e).2.2.1 ha1))
                replace hR1 := Lib.hid hR1
                clear hr2
                go_wp2_with fail
                refine (within_yes A hA _).mono ?_
                rintro e w' ⟨rfl, rfl⟩
                go_wp2_with fail
                refine (within_yes B hB _).mono ?_
                rintro e w' ⟨rfl, rfl⟩
                go_wp2
                go_ret
                rw [hR1.out]
                exact ⟨rfl, hb4⟩
            · have hz1 : ¬ (ar : Int) < 1 := by omega
              have hd1 : decide ((ar : Int) < 1) = false := by simpa using hz1
              by_cases ha2 : ar < 2
              · have hz2 : (ar : Int) < 2 := by omega
                by_cases hB0 : B = 0
                · subst hB0
                  have hok : okC c (nm, A, 0) := hiff.out.2 ⟨hA, hB, fun e => absurd e ha1, fun _ => rfl⟩
                  have hr3 := Lib.hid (hr2.tail hok)
                  clear hr2 hok
                  go_wp2_with fail
                  refine (within_yes A hA _).mono ?_
                  rintro e w' ⟨rfl, rfl⟩
                  go_wp2_with fail
                  refine (within_yes 0 hB _).mono ?_
                  rintro e w' ⟨rfl, rfl⟩
                  go_wp2_with fail
                  go_roundg (l.length - (kk + 1))
                  case measure => omega
                  case rel => exact ⟨kk + 1, by omega, by omega, by go_num, hb4, hr3⟩
                · have hBb : (B != 0) = true := by simpa using hB0
                  have hR1 := hr2.bad (fun e => hB0 ((hiff.out.1 e).2.2.2 ha2))
                  replace hR1 := Lib.hid hR1
                  clear hr2
                  go_wp2_with fail
                  refine (within_yes A hA _).mono ?_
                  rintro e w' ⟨rfl, rfl⟩
                  go_wp2_with fail
                  refine (within_yes B hB _).mono ?_
                  rintro e w' ⟨rfl, rfl⟩
                  go_wp2
                  go_ret
                  rw [hR1.out]
                  exact ⟨rfl, hb4⟩
              · have hz2 : ¬ (ar : Int) < 2 := by omega
                have hd2 : decide ((ar : Int) < 2) = false := by simpa using hz2
                have hok : okC c (nm, A, B) := hiff.out.2 ⟨hA, hB, fun e => absurd e ha1, fun e => absurd e ha2⟩
                have hr3 := Lib.hid (hr2.tail hok)
                clear hr2 hok
                go_wp2_with fail
                refine (within_yes A hA _).mono ?_
                rintro e w' ⟨rfl, rfl⟩
                go_wp2_with fail
                refine (within_yes B hB _).mono ?_
                rintro e w' ⟨rfl, rfl⟩
                go_wp2_with fail
                go_roundg (l.length - (kk + 1))
                case measure => omega
                case rel => exact ⟨kk + 1, by omega, by omega, by go_num, hb4, hr3⟩
          · have hR1 := hr2.bad (fun e => hB (hiff.out.1 e).2.1)
            replace hR1 := Lib.hid hR1
            clear hr2
            go_wp2_with fail
            refine (within_yes A hA _).mono ?_
            rintro e w' ⟨rfl, rfl⟩
            go_wp2_with fail
            refine (within_no B hB wf3 wf4 _).mono ?_
            rintro e w' ⟨rfl, rfl⟩
            go_wp2
            go_ret
            rw [hR1.out]
            exact ⟨rfl, hb4⟩
        · have hR1 := hr2.bad (fun e => hA (hiff.out.1 e).1)
          replace hR1 := Lib.hid hR1
          clear hr2
          go_wp2_with fail
          refine (within_no A hA wf1 wf2 _).mono ?_
          rintro e w' ⟨rfl, rfl⟩
          go_wp2
          go_ret
          rw [hR1.out]
          exact ⟨rfl, hb4⟩
      · have hi := idx_none c nm (fun j ar re e => hnm ⟨j, ar, re, e⟩)
        have hR1 := hr2.bad (fun ⟨j, ar, re, e, _⟩ => hnm ⟨j, ar, re, e⟩)
        replace hR1 := Lib.hid hR1
        clear hr2
        go_wp2_with fail
        refine (callOf_no c nm hi _).mono ?_
        rintro e w3 ⟨rfl, hb3⟩
        have hsz3 : wr.heap.size < w3.heap.size := by have := hb3.size; simp at this; omega
        have hb4 : Below w.heap.size w (w3.alloc (.cells #[.string ⟨#[]⟩, I 0, .bool false] 48)) := ((hbr.alloc hbr.size _).trans (hb3.mono (by have := hbr.size; simp; omega))).alloc (by have := hbr.size; omega) _
        go_wp2
        go_ret
        rw [hR1.out]
        exact ⟨rfl, hb4⟩
    · have hltz : ¬ (kk : Int) < (l.length : Int) := by omega
      have hr2 := hr.out
      rw [List.drop_eq_nil_of_le (by omega)] at hr2
      have hR0 := Lib.hid hr2.nil
      clear hr2
      go_wp2
      go_ret
      rw [hR0.out]
      exact ⟨rfl, hbr⟩
end Go.Proofs.Bm
