/- What base.modelOf lays, class by class. No condition. -/
import Derived.Test.YtipdlkncacjahaaGreatDoorBKit
import Derived.Handy
set_option linter.unusedSimpArgs false
set_option linter.unusedVariables false
namespace Go.Proofs.Bm
open Go.RowKit Go.Maps

set_option maxRecDepth 100000 in
set_option maxHeartbeats 4000000 in
/-- base.modelOf at TABLE. -/
theorem modelOf_table (w : World) :
    Calls Tryz.prog 15 #[.string ⟨#[84, 65, 66, 76, 69]⟩] w fun e w' => e = .returned (Value.pointer (some ⟨w.heap.size + 1, 0, none⟩)) ∧
      Lay w w.heap.size w' [(⟨#[99, 111, 117, 110, 116]⟩, Value.func (Fn.func 53) #[Value.pointer (some ⟨w.heap.size + 1, 0, none⟩)] #[]), (⟨#[104, 97, 115]⟩, Value.func (Fn.func 50) #[Value.pointer (some ⟨w.heap.size + 1, 0, none⟩)] #[]), (⟨#[115, 105, 122, 101]⟩, Value.func (Fn.func 33) #[Value.pointer (some ⟨w.heap.size + 1, 0, none⟩)] #[]), (⟨#[115, 117, 109]⟩, Value.func (Fn.func 35) #[Value.pointer (some ⟨w.heap.size + 1, 0, none⟩)] #[]), (⟨#[102, 111, 114, 99, 101]⟩, quietV (w.heap.size + 4 + 0)), (⟨#[118, 97, 108, 117, 101, 95, 111, 102]⟩, Value.func (Fn.func 51) #[Value.pointer (some ⟨w.heap.size + 1, 0, none⟩)] #[]), (⟨#[114, 101, 109, 111, 118, 101]⟩, quietV (w.heap.size + 4 + 1))] [Value.func (Fn.func 49) #[Value.pointer (some ⟨w.heap.size + 1, 0, none⟩)] #[], Value.func (Fn.func 52) #[Value.pointer (some ⟨w.heap.size + 1, 0, none⟩)] #[]] ∧ Mod w.heap.size w' (Value.map (some (w.heap.size + 1 + 1 + 1))) := by
  have hmf : ∀ (fn : Fn) (first cap : Array Value) (w : World), (Instr.makeFunc fn first cap).run Tryz.prog w = .ok (.func fn first cap) w := fun _ _ _ _ => rfl
  have hmm := @run_makeMap Tryz.prog
  have x0 := Lib.hid (And.intro (W4_lay w) (W4_mod w))
  go_enter Tryz.func15, Tryz.ntmps15
  go_wp2_with (first
    | (refine wpList_insert_new rfl rfl rfl rfl rfl Tryz.underlying73 Tryz.underlying9 (by with_reducible exact x0.out.1.D) rfl ?_; intro w1 hD1 hg1 hs1; have x1 : Hid (Lay w w.heap.size w1 [(⟨#[99, 111, 117, 110, 116]⟩, Value.func (Fn.func 33) #[Value.pointer (some ⟨w.heap.size + 1, 0, none⟩)] #[])] [] ∧ Mod w.heap.size w1 (.map none)) := Lib.hid (And.intro (x0.out.1.grow hD1 hg1 hs1) (x0.out.2.grow hg1)); clear x0 hD1 hg1 hs1; have b1 := x1.out.1.cbox; have m1 := x1.out.2.c4)
    | (refine wpList_insert_new rfl rfl rfl rfl rfl Tryz.underlying73 Tryz.underlying9 (by with_reducible exact x1.out.1.D) rfl ?_; intro w2 hD2 hg2 hs2; have x2 : Hid (Lay w w.heap.size w2 [(⟨#[99, 111, 117, 110, 116]⟩, Value.func (Fn.func 33) #[Value.pointer (some ⟨w.heap.size + 1, 0, none⟩)] #[]), (⟨#[104, 97, 115]⟩, Value.func (Fn.func 34) #[Value.pointer (some ⟨w.heap.size + 1, 0, none⟩)] #[])] [] ∧ Mod w.heap.size w2 (.map none)) := Lib.hid (And.intro (x1.out.1.grow hD2 hg2 hs2) (x1.out.2.grow hg2)); clear x1 hD2 hg2 hs2 b1 m1; have b2 := x2.out.1.cbox; have m2 := x2.out.2.c4)
    | (refine wpList_insert_new rfl rfl rfl rfl rfl Tryz.underlying73 Tryz.underlying9 (by with_reducible exact x2.out.1.D) rfl ?_; intro w3 hD3 hg3 hs3; have x3 : Hid (Lay w w.heap.size w3 [(⟨#[99, 111, 117, 110, 116]⟩, Value.func (Fn.func 33) #[Value.pointer (some ⟨w.heap.size + 1, 0, none⟩)] #[]), (⟨#[104, 97, 115]⟩, Value.func (Fn.func 34) #[Value.pointer (some ⟨w.heap.size + 1, 0, none⟩)] #[]), (⟨#[115, 105, 122, 101]⟩, Value.func (Fn.func 33) #[Value.pointer (some ⟨w.heap.size + 1, 0, none⟩)] #[])] [] ∧ Mod w.heap.size w3 (.map none)) := Lib.hid (And.intro (x2.out.1.grow hD3 hg3 hs3) (x2.out.2.grow hg3)); clear x2 hD3 hg3 hs3 b2 m2; have b3 := x3.out.1.cbox; have m3 := x3.out.2.c4)
    | (refine wpList_insert_new rfl rfl rfl rfl rfl Tryz.underlying73 Tryz.underlying9 (by with_reducible exact x3.out.1.D) rfl ?_; intro w4 hD4 hg4 hs4; have x4 : Hid (Lay w w.heap.size w4 [(⟨#[99, 111, 117, 110, 116]⟩, Value.func (Fn.func 33) #[Value.pointer (some ⟨w.heap.size + 1, 0, none⟩)] #[]), (⟨#[104, 97, 115]⟩, Value.func (Fn.func 34) #[Value.pointer (some ⟨w.heap.size + 1, 0, none⟩)] #[]), (⟨#[115, 105, 122, 101]⟩, Value.func (Fn.func 33) #[Value.pointer (some ⟨w.heap.size + 1, 0, none⟩)] #[]), (⟨#[115, 117, 109]⟩, Value.func (Fn.func 35) #[Value.pointer (some ⟨w.heap.size + 1, 0, none⟩)] #[])] [] ∧ Mod w.heap.size w4 (.map none)) := Lib.hid (And.intro (x3.out.1.grow hD4 hg4 hs4) (x3.out.2.grow hg4)); clear x3 hD4 hg4 hs4 b3 m3; have b4 := x4.out.1.cbox; have m4 := x4.out.2.c4; have f4 := x4.out.2.f4))
  obtain ⟨w5, hw5⟩ : ∃ w5, w5 = w4.setCell ⟨w.heap.size + 1, 4, none⟩ (Value.map (some (w.heap.size + 1 + 1 + 1))) := ⟨_, rfl⟩
  have x5 := Lib.hid (And.intro (x4.out.1.setM hw5) (x4.out.2.setM hw5))
  rw [← hw5]
  clear hw5 x4 b4 m4 f4
  have b5 := x5.out.1.cbox
  have m5 := x5.out.2.c4
  have x6 : Hid (Lay w w.heap.size ((w5.alloc (.cells #[Value.func (Fn.func 49) #[Value.pointer (some ⟨w.heap.size + 1, 0, none⟩)] #[]] 78)).alloc (.cells #[Value.func (Fn.func 52) #[Value.pointer (some ⟨w.heap.size + 1, 0, none⟩)] #[]] 78)).drew [(⟨#[99, 111, 117, 110, 116]⟩, Value.func (Fn.func 33) #[Value.pointer (some ⟨w.heap.size + 1, 0, none⟩)] #[]), (⟨#[104, 97, 115]⟩, Value.func (Fn.func 34) #[Value.pointer (some ⟨w.heap.size + 1, 0, none⟩)] #[]), (⟨#[115, 105, 122, 101]⟩, Value.func (Fn.func 33) #[Value.pointer (some ⟨w.heap.size + 1, 0, none⟩)] #[]), (⟨#[115, 117, 109]⟩, Value.func (Fn.func 35) #[Value.pointer (some ⟨w.heap.size + 1, 0, none⟩)] #[])] [Value.func (Fn.func 49) #[Value.pointer (some ⟨w.heap.size + 1, 0, none⟩)] #[], Value.func (Fn.func 52) #[Value.pointer (some ⟨w.heap.size + 1, 0, none⟩)] #[]] ∧ Mod w.heap.size ((w5.alloc (.cells #[Value.func (Fn.func 49) #[Value.pointer (some ⟨w.heap.size + 1, 0, none⟩)] #[]] 78)).alloc (.cells #[Value.func (Fn.func 52) #[Value.pointer (some ⟨w.heap.size + 1, 0, none⟩)] #[]] 78)).drew (Value.map (some (w.heap.size + 1 + 1 + 1)))) := Lib.hid (And.intro ((x5.out.1.alloc (Value.func (Fn.func 49) #[Value.pointer (some ⟨w.heap.size + 1, 0, none⟩)] #[])).alloc (Value.func (Fn.func 52) #[Value.pointer (some ⟨w.heap.size + 1, 0, none⟩)] #[])).drew ((x5.out.2.alloc _).alloc _).drew)
  have hsz6 := x5.out.1.size
  obtain ⟨v7, w7, hr7, hs7, hc7, hl7, hm7⟩ := lay_entry x6.out.1 x6.out.2 ⟨#[102, 111, 114, 99, 101]⟩ (quietV (w.heap.size + 4 + 0)) rfl
  replace hc7 := Lib.hid hc7
  have x7 : Hid (Lay w w.heap.size w7 [(⟨#[99, 111, 117, 110, 116]⟩, Value.func (Fn.func 33) #[Value.pointer (some ⟨w.heap.size + 1, 0, none⟩)] #[]), (⟨#[104, 97, 115]⟩, Value.func (Fn.func 34) #[Value.pointer (some ⟨w.heap.size + 1, 0, none⟩)] #[]), (⟨#[115, 105, 122, 101]⟩, Value.func (Fn.func 33) #[Value.pointer (some ⟨w.heap.size + 1, 0, none⟩)] #[]), (⟨#[115, 117, 109]⟩, Value.func (Fn.func 35) #[Value.pointer (some ⟨w.heap.size + 1, 0, none⟩)] #[]), (⟨#[102, 111, 114, 99, 101]⟩, quietV (w.heap.size + 4 + 0))] [Value.func (Fn.func 49) #[Value.pointer (some ⟨w.heap.size + 1, 0, none⟩)] #[], Value.func (Fn.func 52) #[Value.pointer (some ⟨w.heap.size + 1, 0, none⟩)] #[]] ∧ Mod w.heap.size w7 (Value.map (some (w.heap.size + 1 + 1 + 1)))) := Lib.hid (And.intro hl7 hm7)
  clear hl7 hm7
  simp only [List.length_cons, List.length_nil, Nat.zero_add, Nat.reduceAdd, Int.cast_ofNat_Int] at hr7 hs7
  obtain ⟨w8, hr8, hs8, hl8, hm8⟩ := lay_entry_old x7.out.1 x7.out.2 ⟨#[104, 97, 115]⟩ (Value.func (Fn.func 50) #[Value.pointer (some ⟨w.heap.size + 1, 0, none⟩)] #[]) _ rfl (by decide : 1 < 5)
  have x8 : Hid (Lay w w.heap.size w8 [(⟨#[99, 111, 117, 110, 116]⟩, Value.func (Fn.func 33) #[Value.pointer (some ⟨w.heap.size + 1, 0, none⟩)] #[]), (⟨#[104, 97, 115]⟩, Value.func (Fn.func 50) #[Value.pointer (some ⟨w.heap.size + 1, 0, none⟩)] #[]), (⟨#[115, 105, 122, 101]⟩, Value.func (Fn.func 33) #[Value.pointer (some ⟨w.heap.size + 1, 0, none⟩)] #[]), (⟨#[115, 117, 109]⟩, Value.func (Fn.func 35) #[Value.pointer (some ⟨w.heap.size + 1, 0, none⟩)] #[]), (⟨#[102, 111, 114, 99, 101]⟩, quietV (w.heap.size + 4 + 0))] [Value.func (Fn.func 49) #[Value.pointer (some ⟨w.heap.size + 1, 0, none⟩)] #[], Value.func (Fn.func 52) #[Value.pointer (some ⟨w.heap.size + 1, 0, none⟩)] #[]] ∧ Mod w.heap.size w8 (Value.map (some (w.heap.size + 1 + 1 + 1)))) := Lib.hid (And.intro hl8 hm8)
  clear hl8 hm8
  simp only [List.length_cons, List.length_nil, Nat.zero_add, Nat.reduceAdd, Int.cast_ofNat_Int] at hr8 hs8
  obtain ⟨v9, w9, hr9, hs9, hc9, hl9, hm9⟩ := lay_entry x8.out.1 x8.out.2 ⟨#[118, 97, 108, 117, 101, 95, 111, 102]⟩ (Value.func (Fn.func 51) #[Value.pointer (some ⟨w.heap.size + 1, 0, none⟩)] #[]) rfl
  replace hc9 := Lib.hid hc9
  have x9 : Hid (Lay w w.heap.size w9 [(⟨#[99, 111, 117, 110, 116]⟩, Value.func (Fn.func 33) #[Value.pointer (some ⟨w.heap.size + 1, 0, none⟩)] #[]), (⟨#[104, 97, 115]⟩, Value.func (Fn.func 50) #[Value.pointer (some ⟨w.heap.size + 1, 0, none⟩)] #[]), (⟨#[115, 105, 122, 101]⟩, Value.func (Fn.func 33) #[Value.pointer (some ⟨w.heap.size + 1, 0, none⟩)] #[]), (⟨#[115, 117, 109]⟩, Value.func (Fn.func 35) #[Value.pointer (some ⟨w.heap.size + 1, 0, none⟩)] #[]), (⟨#[102, 111, 114, 99, 101]⟩, quietV (w.heap.size + 4 + 0)), (⟨#[118, 97, 108, 117, 101, 95, 111, 102]⟩, Value.func (Fn.func 51) #[Value.pointer (some ⟨w.heap.size + 1, 0, none⟩)] #[])] [Value.func (Fn.func 49) #[Value.pointer (some ⟨w.heap.size + 1, 0, none⟩)] #[], Value.func (Fn.func 52) #[Value.pointer (some ⟨w.heap.size + 1, 0, none⟩)] #[]] ∧ Mod w.heap.size w9 (Value.map (some (w.heap.size + 1 + 1 + 1)))) := Lib.hid (And.intro hl9 hm9)
  clear hl9 hm9
  simp only [List.length_cons, List.length_nil, Nat.zero_add, Nat.reduceAdd, Int.cast_ofNat_Int] at hr9 hs9
  obtain ⟨v10, w10, hr10, hs10, hc10, hl10, hm10⟩ := lay_entry x9.out.1 x9.out.2 ⟨#[114, 101, 109, 111, 118, 101]⟩ (quietV (w.heap.size + 4 + 1)) rfl
  replace hc10 := Lib.hid hc10
  have x10 : Hid (Lay w w.heap.size w10 [(⟨#[99, 111, 117, 110, 116]⟩, Value.func (Fn.func 33) #[Value.pointer (some ⟨w.heap.size + 1, 0, none⟩)] #[]), (⟨#[104, 97, 115]⟩, Value.func (Fn.func 50) #[Value.pointer (some ⟨w.heap.size + 1, 0, none⟩)] #[]), (⟨#[115, 105, 122, 101]⟩, Value.func (Fn.func 33) #[Value.pointer (some ⟨w.heap.size + 1, 0, none⟩)] #[]), (⟨#[115, 117, 109]⟩, Value.func (Fn.func 35) #[Value.pointer (some ⟨w.heap.size + 1, 0, none⟩)] #[]), (⟨#[102, 111, 114, 99, 101]⟩, quietV (w.heap.size + 4 + 0)), (⟨#[118, 97, 108, 117, 101, 95, 111, 102]⟩, Value.func (Fn.func 51) #[Value.pointer (some ⟨w.heap.size + 1, 0, none⟩)] #[]), (⟨#[114, 101, 109, 111, 118, 101]⟩, quietV (w.heap.size + 4 + 1))] [Value.func (Fn.func 49) #[Value.pointer (some ⟨w.heap.size + 1, 0, none⟩)] #[], Value.func (Fn.func 52) #[Value.pointer (some ⟨w.heap.size + 1, 0, none⟩)] #[]] ∧ Mod w.heap.size w10 (Value.map (some (w.heap.size + 1 + 1 + 1)))) := Lib.hid (And.intro hl10 hm10)
  clear hl10 hm10
  simp only [List.length_cons, List.length_nil, Nat.zero_add, Nat.reduceAdd, Int.cast_ofNat_Int] at hr10 hs10
  obtain ⟨w11, hr11, hs11, hl11, hm11⟩ := lay_entry_old x10.out.1 x10.out.2 ⟨#[99, 111, 117, 110, 116]⟩ (Value.func (Fn.func 53) #[Value.pointer (some ⟨w.heap.size + 1, 0, none⟩)] #[]) _ rfl (by decide : 0 < 7)
  have x11 : Hid (Lay w w.heap.size w11 [(⟨#[99, 111, 117, 110, 116]⟩, Value.func (Fn.func 53) #[Value.pointer (some ⟨w.heap.size + 1, 0, none⟩)] #[]), (⟨#[104, 97, 115]⟩, Value.func (Fn.func 50) #[Value.pointer (some ⟨w.heap.size + 1, 0, none⟩)] #[]), (⟨#[115, 105, 122, 101]⟩, Value.func (Fn.func 33) #[Value.pointer (some ⟨w.heap.size + 1, 0, none⟩)] #[]), (⟨#[115, 117, 109]⟩, Value.func (Fn.func 35) #[Value.pointer (some ⟨w.heap.size + 1, 0, none⟩)] #[]), (⟨#[102, 111, 114, 99, 101]⟩, quietV (w.heap.size + 4 + 0)), (⟨#[118, 97, 108, 117, 101, 95, 111, 102]⟩, Value.func (Fn.func 51) #[Value.pointer (some ⟨w.heap.size + 1, 0, none⟩)] #[]), (⟨#[114, 101, 109, 111, 118, 101]⟩, quietV (w.heap.size + 4 + 1))] [Value.func (Fn.func 49) #[Value.pointer (some ⟨w.heap.size + 1, 0, none⟩)] #[], Value.func (Fn.func 52) #[Value.pointer (some ⟨w.heap.size + 1, 0, none⟩)] #[]] ∧ Mod w.heap.size w11 (Value.map (some (w.heap.size + 1 + 1 + 1)))) := Lib.hid (And.intro hl11 hm11)
  clear hl11 hm11
  simp only [List.length_cons, List.length_nil, Nat.zero_add, Nat.reduceAdd, Int.cast_ofNat_Int] at hr11 hs11
  refine wp_region_held_drew (S := (fun W => W.cell? ⟨w.heap.size + 1 + 1, 0, none⟩ = some (Value.pointer (some ⟨w.heap.size + 1, 0, none⟩)) ∧ W.cell? ⟨w.heap.size + 1, 4, none⟩ = some (Value.map (some (w.heap.size + 1 + 1 + 1))))) (by kernel_rfl) (by (first | exact ⟨b5, m5⟩ | exact ⟨hc7.out.1, hc7.out.2⟩ | exact ⟨x7.out.1.cbox, x7.out.2.c4⟩ | exact ⟨x8.out.1.cbox, x8.out.2.c4⟩ | exact ⟨hc9.out.1, hc9.out.2⟩ | exact ⟨x9.out.1.cbox, x9.out.2.c4⟩ | exact ⟨hc10.out.1, hc10.out.2⟩ | exact ⟨x10.out.1.cbox, x10.out.2.c4⟩ | exact ⟨x11.out.1.cbox, x11.out.2.c4⟩ | go_keep)) (fun hHeld => ?_)
  refine wpAnyH_take (i := 0) (oi := _) (v := ?_) rfl (by kernel_rfl) (by kernel_rfl) (by kernel_rfl) (fun _ _ _ h => h) (Or.inl ⟨by rfl, ?_⟩) (by with_reducible assumption) ?_
  rotate_left
  · (intro w hSw; (try dsimp only at hSw); go_simp); with_reducible rfl
  try simp only [Act.put, List.setIfInBounds_toArray, List.set_cons_zero, List.set_cons_succ]
  refine wpAnyH_take (i := 1) (oi := _) (v := ?_) rfl (by kernel_rfl) (by kernel_rfl) (by kernel_rfl) (fun _ _ _ h => h) (Or.inl ⟨by rfl, ?_⟩) (by with_reducible assumption) ?_
  rotate_left
  · (intro w hSw; (try dsimp only at hSw); go_simp); with_reducible rfl
  try simp only [Act.put, List.setIfInBounds_toArray, List.set_cons_zero, List.set_cons_succ]
  refine wpAnyH_take (i := 2) (oi := _) (v := ?_) rfl (by kernel_rfl) (by kernel_rfl) (by kernel_rfl) (fun _ _ _ h => h) (Or.inl ⟨by rfl, ?_⟩) (by with_reducible assumption) ?_
  rotate_left
  · (intro w hSw; (try dsimp only at hSw); go_simp); with_reducible rfl
  try simp only [Act.put, List.setIfInBounds_toArray, List.set_cons_zero, List.set_cons_succ]
  refine wpAnyH_take (i := 3) (oi := _) (v := ?_) rfl (by kernel_rfl) (by kernel_rfl) (by kernel_rfl) (fun _ _ _ h => h) (Or.inl ⟨by rfl, ?_⟩) (by with_reducible assumption) ?_
  rotate_left
  · (intro w hSw; (try dsimp only at hSw); go_simp); with_reducible rfl
  try simp only [Act.put, List.setIfInBounds_toArray, List.set_cons_zero, List.set_cons_succ]
  refine wpAnyH_take (i := 4) (oi := _) (v := ?_) rfl (by kernel_rfl) (by kernel_rfl) (by kernel_rfl) (fun _ _ _ h => h) (Or.inl ⟨by rfl, ?_⟩) (by with_reducible assumption) ?_
  rotate_left
  · (intro w hSw; (try dsimp only at hSw); go_simp); with_reducible rfl
  try simp only [Act.put, List.setIfInBounds_toArray, List.set_cons_zero, List.set_cons_succ]
  refine wpAnyH_take (i := 5) (oi := _) (v := ?_) rfl (by kernel_rfl) (by kernel_rfl) (by kernel_rfl) (fun _ _ _ h => h) (Or.inl ⟨by rfl, ?_⟩) (by with_reducible assumption) ?_
  rotate_left
  · (intro w hSw; (try dsimp only at hSw); go_simp); with_reducible rfl
  try simp only [Act.put, List.setIfInBounds_toArray, List.set_cons_zero, List.set_cons_succ]
  refine wpAnyH_take (i := 6) (oi := _) (v := ?_) rfl (by kernel_rfl) (by kernel_rfl) (by kernel_rfl) (fun _ _ _ h => h) (Or.inl ⟨by rfl, ?_⟩) (by with_reducible assumption) ?_
  rotate_left
  · (intro w hSw; (try dsimp only at hSw); go_simp); with_reducible rfl
  try simp only [Act.put, List.setIfInBounds_toArray, List.set_cons_zero, List.set_cons_succ]
  refine wpAnyH_take (i := 7) (oi := _) (v := ?_) rfl (by kernel_rfl) (by kernel_rfl) (by kernel_rfl) (fun _ _ _ h => h) (Or.inl ⟨by rfl, ?_⟩) (by with_reducible assumption) ?_
  rotate_left
  · (intro w hSw; (try dsimp only at hSw); go_simp); with_reducible rfl
  try simp only [Act.put, List.setIfInBounds_toArray, List.set_cons_zero, List.set_cons_succ]
  refine wpAnyH_take (i := 8) (oi := _) (v := ?_) rfl (by kernel_rfl) (by kernel_rfl) (by kernel_rfl) (fun _ _ _ h => h) (Or.inl ⟨by rfl, ?_⟩) (by with_reducible assumption) ?_
  rotate_left
  · (intro w hSw; (try dsimp only at hSw); go_simp); with_reducible rfl
  try simp only [Act.put, List.setIfInBounds_toArray, List.set_cons_zero, List.set_cons_succ]
  refine wpAnyH_take (i := 9) (oi := _) (v := ?_) rfl (by kernel_rfl) (by kernel_rfl) (by kernel_rfl) (fun _ _ _ h => h) (Or.inl ⟨by rfl, ?_⟩) (by with_reducible assumption) ?_
  rotate_left
  · (intro w hSw; (try dsimp only at hSw); go_simp); with_reducible rfl
  try simp only [Act.put, List.setIfInBounds_toArray, List.set_cons_zero, List.set_cons_succ]
  refine wpAnyH_take (i := 10) (oi := _) (v := ?_) rfl (by kernel_rfl) (by kernel_rfl) (by kernel_rfl) (fun _ _ _ h => h) (Or.inl ⟨by rfl, ?_⟩) (by with_reducible assumption) ?_
  rotate_left
  · (intro w hSw; (try dsimp only at hSw); go_simp); with_reducible rfl
  try simp only [Act.put, List.setIfInBounds_toArray, List.set_cons_zero, List.set_cons_succ]
  refine wpAnyH_take (i := 11) (oi := _) (v := ?_) rfl (by kernel_rfl) (by kernel_rfl) (by kernel_rfl) (fun _ _ _ h => h) (Or.inl ⟨by rfl, ?_⟩) (by with_reducible assumption) ?_
  rotate_left
  · (intro w hSw; (try dsimp only at hSw); go_simp); with_reducible rfl
  try simp only [Act.put, List.setIfInBounds_toArray, List.set_cons_zero, List.set_cons_succ]
  refine wpAnyH_take (i := 12) (oi := _) (v := ?_) rfl (by kernel_rfl) (by kernel_rfl) (by kernel_rfl) (fun _ _ _ h => h) (Or.inl ⟨by rfl, ?_⟩) (by with_reducible assumption) ?_
  rotate_left
  · (intro w hSw; (try dsimp only at hSw); go_simp); with_reducible rfl
  try simp only [Act.put, List.setIfInBounds_toArray, List.set_cons_zero, List.set_cons_succ]
  refine wpAnyH_take (i := 13) (oi := _) (v := ?_) rfl (by kernel_rfl) (by kernel_rfl) (by kernel_rfl) (fun _ _ _ h => h) (Or.inl ⟨by rfl, ?_⟩) (by with_reducible assumption) ?_
  rotate_left
  · (intro w hSw; (try dsimp only at hSw); go_simp); with_reducible rfl
  try simp only [Act.put, List.setIfInBounds_toArray, List.set_cons_zero, List.set_cons_succ]
  refine wpAnyH_take (i := 14) (oi := _) (v := ?_) rfl (by kernel_rfl) (by kernel_rfl) (by kernel_rfl) (fun _ _ _ h => h) (Or.inl ⟨by rfl, ?_⟩) (by with_reducible assumption) ?_
  rotate_left
  · (intro w hSw; (try dsimp only at hSw); go_simp); with_reducible rfl
  try simp only [Act.put, List.setIfInBounds_toArray, List.set_cons_zero, List.set_cons_succ]
  refine wpAnyH_take (i := 15) (oi := _) (v := ?_) rfl (by kernel_rfl) (by kernel_rfl) (by kernel_rfl) (fun _ _ _ h => h) (Or.inl ⟨by rfl, ?_⟩) (by with_reducible assumption) ?_
  rotate_left
  · (intro w hSw; (try dsimp only at hSw); go_simp); with_reducible rfl
  try simp only [Act.put, List.setIfInBounds_toArray, List.set_cons_zero, List.set_cons_succ]
  refine wpAnyH_take (i := 16) (oi := _) (v := ?_) rfl (by kernel_rfl) (by kernel_rfl) (by kernel_rfl) (fun _ _ _ h => h) (Or.inl ⟨by rfl, ?_⟩) (by with_reducible assumption) ?_
  rotate_left
  · (intro w hSw; (try dsimp only at hSw); go_simp); with_reducible rfl
  try simp only [Act.put, List.setIfInBounds_toArray, List.set_cons_zero, List.set_cons_succ]
  refine wpAnyH_take (i := 17) (oi := _) (v := ?_) rfl (by kernel_rfl) (by kernel_rfl) (by kernel_rfl) (fun _ _ _ h => h) (Or.inl ⟨by rfl, ?_⟩) (by with_reducible assumption) ?_
  rotate_left
  · (intro w hSw; (try dsimp only at hSw); go_simp); with_reducible rfl
  try simp only [Act.put, List.setIfInBounds_toArray, List.set_cons_zero, List.set_cons_succ]
  refine wpAnyH_take (i := 18) (oi := _) (v := ?_) rfl (by kernel_rfl) (by kernel_rfl) (by kernel_rfl) (fun _ _ _ h => h) (Or.inl ⟨by rfl, ?_⟩) (by with_reducible assumption) ?_
  rotate_left
  · (intro w hSw; (try dsimp only at hSw); go_simp); with_reducible rfl
  try simp only [Act.put, List.setIfInBounds_toArray, List.set_cons_zero, List.set_cons_succ]
  refine wpAnyH_take (i := 19) (oi := _) (v := ?_) rfl (by kernel_rfl) (by kernel_rfl) (by kernel_rfl) (fun _ _ _ h => h) (Or.inl ⟨by rfl, ?_⟩) (by with_reducible assumption) ?_
  rotate_left
  · (intro w hSw; (try dsimp only at hSw); go_simp); with_reducible rfl
  try simp only [Act.put, List.setIfInBounds_toArray, List.set_cons_zero, List.set_cons_succ]
  refine wpAnyH_take (i := 20) (oi := _) (v := ?_) rfl (by kernel_rfl) (by kernel_rfl) (by kernel_rfl) (fun _ _ _ h => h) (Or.inl ⟨by rfl, ?_⟩) (by with_reducible assumption) ?_
  rotate_left
  · (intro w hSw; (try dsimp only at hSw); go_simp); with_reducible rfl
  try simp only [Act.put, List.setIfInBounds_toArray, List.set_cons_zero, List.set_cons_succ]
  refine wpAnyH_take (i := 21) (oi := _) (v := ?_) rfl (by kernel_rfl) (by kernel_rfl) (by kernel_rfl) (fun _ _ _ h => h) (Or.inl ⟨by rfl, ?_⟩) (by with_reducible assumption) ?_
  rotate_left
  · (intro w hSw; (try dsimp only at hSw); go_simp); with_reducible rfl
  try simp only [Act.put, List.setIfInBounds_toArray, List.set_cons_zero, List.set_cons_succ]
  refine wpAnyH_take (i := 23) (oi := _) (v := ?_) rfl (by kernel_rfl) (by kernel_rfl) (by kernel_rfl) (fun _ _ _ h => h) (Or.inl ⟨by rfl, ?_⟩) (by with_reducible assumption) ?_
  rotate_left
  · (intro w hSw; (try dsimp only at hSw); go_simp); with_reducible rfl
  try simp only [Act.put, List.setIfInBounds_toArray, List.set_cons_zero, List.set_cons_succ]
  refine wpAnyH_take (i := 24) (oi := _) (v := ?_) rfl (by kernel_rfl) (by kernel_rfl) (by kernel_rfl) (fun _ _ _ h => h) (Or.inl ⟨by rfl, ?_⟩) (by with_reducible assumption) ?_
  rotate_left
  · (intro w hSw; (try dsimp only at hSw); go_simp); with_reducible rfl
  try simp only [Act.put, List.setIfInBounds_toArray, List.set_cons_zero, List.set_cons_succ]
  refine wpAnyH_take (i := 25) (oi := _) (v := ?_) rfl (by kernel_rfl) (by kernel_rfl) (by kernel_rfl) (fun _ _ _ h => h) (Or.inl ⟨by rfl, ?_⟩) (by with_reducible assumption) ?_
  rotate_left
  · (intro w hSw; (try dsimp only at hSw); go_simp); with_reducible rfl
  try simp only [Act.put, List.setIfInBounds_toArray, List.set_cons_zero, List.set_cons_succ]
  refine wpAnyH_take (i := 26) (oi := _) (v := ?_) rfl (by kernel_rfl) (by kernel_rfl) (by kernel_rfl) (fun _ _ _ h => h) (Or.inl ⟨by rfl, ?_⟩) (by with_reducible assumption) ?_
  rotate_left
  · (intro w hSw; (try dsimp only at hSw); go_simp); with_reducible rfl
  try simp only [Act.put, List.setIfInBounds_toArray, List.set_cons_zero, List.set_cons_succ]
  refine wpAnyH_take (i := 27) (oi := _) (v := ?_) rfl (by kernel_rfl) (by kernel_rfl) (by kernel_rfl) (fun _ _ _ h => h) (Or.inl ⟨by rfl, ?_⟩) (by with_reducible assumption) ?_
  rotate_left
  · (intro w hSw; (try dsimp only at hSw); go_simp); with_reducible rfl
  try simp only [Act.put, List.setIfInBounds_toArray, List.set_cons_zero, List.set_cons_succ]
  refine wpAnyH_take (i := 28) (oi := _) (v := ?_) rfl (by kernel_rfl) (by kernel_rfl) (by kernel_rfl) (fun _ _ _ h => h) (Or.inl ⟨by rfl, ?_⟩) (by with_reducible assumption) ?_
  rotate_left
  · (intro w hSw; (try dsimp only at hSw); go_simp); with_reducible rfl
  try simp only [Act.put, List.setIfInBounds_toArray, List.set_cons_zero, List.set_cons_succ]
  refine wpAnyH_take (i := 30) (oi := _) (v := ?_) rfl (by kernel_rfl) (by kernel_rfl) (by kernel_rfl) (fun _ _ _ h => h) (Or.inl ⟨by rfl, ?_⟩) (by with_reducible assumption) ?_
  rotate_left
  · (intro w hSw; (try dsimp only at hSw); go_simp); with_reducible rfl
  try simp only [Act.put, List.setIfInBounds_toArray, List.set_cons_zero, List.set_cons_succ]
  refine wpAnyH_take (i := 31) (oi := _) (v := ?_) rfl (by kernel_rfl) (by kernel_rfl) (by kernel_rfl) (fun _ _ _ h => h) (Or.inl ⟨by rfl, ?_⟩) (by with_reducible assumption) ?_
  rotate_left
  · (intro w hSw; (try dsimp only at hSw); go_simp); with_reducible rfl
  try simp only [Act.put, List.setIfInBounds_toArray, List.set_cons_zero, List.set_cons_succ]
  -- operation 22: call
  refine wpAnyH_ready (rs := [22]) (by kernel_rfl) (by simp) ?_
  refine AllReadyH.cons (o := _) rfl (fun K hK => ?_) AllReadyH.nil
  go_simp
  go_at_call 36; refine (quiet_any _ _ ⟨_, _, _, rfl⟩).mono ?_; rintro e w' ⟨rfl, rfl⟩; go_wp2_with fail
  refine hK.out _ _ (by (first | exact ⟨b5, m5⟩ | exact ⟨hc7.out.1, hc7.out.2⟩ | exact ⟨x7.out.1.cbox, x7.out.2.c4⟩ | exact ⟨x8.out.1.cbox, x8.out.2.c4⟩ | exact ⟨hc9.out.1, hc9.out.2⟩ | exact ⟨x9.out.1.cbox, x9.out.2.c4⟩ | exact ⟨hc10.out.1, hc10.out.2⟩ | exact ⟨x10.out.1.cbox, x10.out.2.c4⟩ | exact ⟨x11.out.1.cbox, x11.out.2.c4⟩ | go_keep)) (fun hHeld => ?_)
  clear hK K
  try simp only [Act.put, List.setIfInBounds_toArray, List.set_cons_zero, List.set_cons_succ]
  -- operation 29: call
  refine wpAnyH_ready (rs := [29]) (by kernel_rfl) (by simp) ?_
  refine AllReadyH.cons (o := _) rfl (fun K hK => ?_) AllReadyH.nil
  go_simp
  go_at_call 36; refine (quiet_any _ _ ⟨_, _, _, rfl⟩).mono ?_; rintro e w' ⟨rfl, rfl⟩; go_wp2_with fail
  refine hK.out _ _ (by (first | exact ⟨b5, m5⟩ | exact ⟨hc7.out.1, hc7.out.2⟩ | exact ⟨x7.out.1.cbox, x7.out.2.c4⟩ | exact ⟨x8.out.1.cbox, x8.out.2.c4⟩ | exact ⟨hc9.out.1, hc9.out.2⟩ | exact ⟨x9.out.1.cbox, x9.out.2.c4⟩ | exact ⟨hc10.out.1, hc10.out.2⟩ | exact ⟨x10.out.1.cbox, x10.out.2.c4⟩ | exact ⟨x11.out.1.cbox, x11.out.2.c4⟩ | go_keep)) (fun hHeld => ?_)
  clear hK K
  try simp only [Act.put, List.setIfInBounds_toArray, List.set_cons_zero, List.set_cons_succ]
  -- operation 32: mapEntry
  refine wpAnyH_ready (rs := [32]) (by kernel_rfl) (by simp) ?_
  refine AllReadyH.cons (o := _) rfl (fun K hK => ?_) AllReadyH.nil
  go_simp
  refine hK.out _ _ (by (first | exact ⟨b5, m5⟩ | exact ⟨hc7.out.1, hc7.out.2⟩ | exact ⟨x7.out.1.cbox, x7.out.2.c4⟩ | exact ⟨x8.out.1.cbox, x8.out.2.c4⟩ | exact ⟨hc9.out.1, hc9.out.2⟩ | exact ⟨x9.out.1.cbox, x9.out.2.c4⟩ | exact ⟨hc10.out.1, hc10.out.2⟩ | exact ⟨x10.out.1.cbox, x10.out.2.c4⟩ | exact ⟨x11.out.1.cbox, x11.out.2.c4⟩ | go_keep)) (fun hHeld => ?_)
  clear hK K
  try simp only [Act.put, List.setIfInBounds_toArray, List.set_cons_zero, List.set_cons_succ]
  refine wpAnyH_take (i := 33) (oi := _) (v := ?_) rfl (by kernel_rfl) (by kernel_rfl) (by kernel_rfl) (fun _ _ _ h => h) (Or.inl ⟨by rfl, ?_⟩) (by with_reducible assumption) ?_
  rotate_left
  · (intro w hSw; (try dsimp only at hSw); go_simp); with_reducible rfl
  try simp only [Act.put, List.setIfInBounds_toArray, List.set_cons_zero, List.set_cons_succ]
  -- operation 34: entryStore
  refine wpAnyH_ready (rs := [34]) (by kernel_rfl) (by simp) ?_
  refine AllReadyH.cons (o := _) rfl (fun K hK => ?_) AllReadyH.nil
  go_simp
  refine hK.out _ _ (by (first | exact ⟨b5, m5⟩ | exact ⟨hc7.out.1, hc7.out.2⟩ | exact ⟨x7.out.1.cbox, x7.out.2.c4⟩ | exact ⟨x8.out.1.cbox, x8.out.2.c4⟩ | exact ⟨hc9.out.1, hc9.out.2⟩ | exact ⟨x9.out.1.cbox, x9.out.2.c4⟩ | exact ⟨hc10.out.1, hc10.out.2⟩ | exact ⟨x10.out.1.cbox, x10.out.2.c4⟩ | exact ⟨x11.out.1.cbox, x11.out.2.c4⟩ | go_keep)) (fun hHeld => ?_)
  clear hK K
  try simp only [Act.put, List.setIfInBounds_toArray, List.set_cons_zero, List.set_cons_succ]
  -- operation 35: mapEntry
  refine wpAnyH_ready (rs := [35]) (by kernel_rfl) (by simp) ?_
  refine AllReadyH.cons (o := _) rfl (fun K hK => ?_) AllReadyH.nil
  go_simp
  refine hK.out _ _ (by (first | exact ⟨b5, m5⟩ | exact ⟨hc7.out.1, hc7.out.2⟩ | exact ⟨x7.out.1.cbox, x7.out.2.c4⟩ | exact ⟨x8.out.1.cbox, x8.out.2.c4⟩ | exact ⟨hc9.out.1, hc9.out.2⟩ | exact ⟨x9.out.1.cbox, x9.out.2.c4⟩ | exact ⟨hc10.out.1, hc10.out.2⟩ | exact ⟨x10.out.1.cbox, x10.out.2.c4⟩ | exact ⟨x11.out.1.cbox, x11.out.2.c4⟩ | go_keep)) (fun hHeld => ?_)
  clear hK K
  try simp only [Act.put, List.setIfInBounds_toArray, List.set_cons_zero, List.set_cons_succ]
  refine wpAnyH_take (i := 36) (oi := _) (v := ?_) rfl (by kernel_rfl) (by kernel_rfl) (by kernel_rfl) (fun _ _ _ h => h) (Or.inl ⟨by rfl, ?_⟩) (by with_reducible assumption) ?_
  rotate_left
  · (intro w hSw; (try dsimp only at hSw); go_simp); with_reducible rfl
  try simp only [Act.put, List.setIfInBounds_toArray, List.set_cons_zero, List.set_cons_succ]
  -- operation 37: entryStore
  refine wpAnyH_ready (rs := [37]) (by kernel_rfl) (by simp) ?_
  refine AllReadyH.cons (o := _) rfl (fun K hK => ?_) AllReadyH.nil
  go_simp
  refine hK.out _ _ (by (first | exact ⟨b5, m5⟩ | exact ⟨hc7.out.1, hc7.out.2⟩ | exact ⟨x7.out.1.cbox, x7.out.2.c4⟩ | exact ⟨x8.out.1.cbox, x8.out.2.c4⟩ | exact ⟨hc9.out.1, hc9.out.2⟩ | exact ⟨x9.out.1.cbox, x9.out.2.c4⟩ | exact ⟨hc10.out.1, hc10.out.2⟩ | exact ⟨x10.out.1.cbox, x10.out.2.c4⟩ | exact ⟨x11.out.1.cbox, x11.out.2.c4⟩ | go_keep)) (fun hHeld => ?_)
  clear hK K
  try simp only [Act.put, List.setIfInBounds_toArray, List.set_cons_zero, List.set_cons_succ]
  -- operation 38: mapEntry
  refine wpAnyH_ready (rs := [38]) (by kernel_rfl) (by simp) ?_
  refine AllReadyH.cons (o := _) rfl (fun K hK => ?_) AllReadyH.nil
  go_simp
  refine hK.out _ _ (by (first | exact ⟨b5, m5⟩ | exact ⟨hc7.out.1, hc7.out.2⟩ | exact ⟨x7.out.1.cbox, x7.out.2.c4⟩ | exact ⟨x8.out.1.cbox, x8.out.2.c4⟩ | exact ⟨hc9.out.1, hc9.out.2⟩ | exact ⟨x9.out.1.cbox, x9.out.2.c4⟩ | exact ⟨hc10.out.1, hc10.out.2⟩ | exact ⟨x10.out.1.cbox, x10.out.2.c4⟩ | exact ⟨x11.out.1.cbox, x11.out.2.c4⟩ | go_keep)) (fun hHeld => ?_)
  clear hK K
  try simp only [Act.put, List.setIfInBounds_toArray, List.set_cons_zero, List.set_cons_succ]
  refine wpAnyH_take (i := 39) (oi := _) (v := ?_) rfl (by kernel_rfl) (by kernel_rfl) (by kernel_rfl) (fun _ _ _ h => h) (Or.inl ⟨by rfl, ?_⟩) (by with_reducible assumption) ?_
  rotate_left
  · (intro w hSw; (try dsimp only at hSw); go_simp); with_reducible rfl
  try simp only [Act.put, List.setIfInBounds_toArray, List.set_cons_zero, List.set_cons_succ]
  -- operation 40: entryStore
  refine wpAnyH_ready (rs := [40]) (by kernel_rfl) (by simp) ?_
  refine AllReadyH.cons (o := _) rfl (fun K hK => ?_) AllReadyH.nil
  go_simp
  refine hK.out _ _ (by (first | exact ⟨b5, m5⟩ | exact ⟨hc7.out.1, hc7.out.2⟩ | exact ⟨x7.out.1.cbox, x7.out.2.c4⟩ | exact ⟨x8.out.1.cbox, x8.out.2.c4⟩ | exact ⟨hc9.out.1, hc9.out.2⟩ | exact ⟨x9.out.1.cbox, x9.out.2.c4⟩ | exact ⟨hc10.out.1, hc10.out.2⟩ | exact ⟨x10.out.1.cbox, x10.out.2.c4⟩ | exact ⟨x11.out.1.cbox, x11.out.2.c4⟩ | go_keep)) (fun hHeld => ?_)
  clear hK K
  try simp only [Act.put, List.setIfInBounds_toArray, List.set_cons_zero, List.set_cons_succ]
  -- operation 41: mapEntry
  refine wpAnyH_ready (rs := [41]) (by kernel_rfl) (by simp) ?_
  refine AllReadyH.cons (o := _) rfl (fun K hK => ?_) AllReadyH.nil
  go_simp
  refine hK.out _ _ (by (first | exact ⟨b5, m5⟩ | exact ⟨hc7.out.1, hc7.out.2⟩ | exact ⟨x7.out.1.cbox, x7.out.2.c4⟩ | exact ⟨x8.out.1.cbox, x8.out.2.c4⟩ | exact ⟨hc9.out.1, hc9.out.2⟩ | exact ⟨x9.out.1.cbox, x9.out.2.c4⟩ | exact ⟨hc10.out.1, hc10.out.2⟩ | exact ⟨x10.out.1.cbox, x10.out.2.c4⟩ | exact ⟨x11.out.1.cbox, x11.out.2.c4⟩ | go_keep)) (fun hHeld => ?_)
  clear hK K
  try simp only [Act.put, List.setIfInBounds_toArray, List.set_cons_zero, List.set_cons_succ]
  refine wpAnyH_take (i := 42) (oi := _) (v := ?_) rfl (by kernel_rfl) (by kernel_rfl) (by kernel_rfl) (fun _ _ _ h => h) (Or.inl ⟨by rfl, ?_⟩) (by with_reducible assumption) ?_
  rotate_left
  · (intro w hSw; (try dsimp only at hSw); go_simp); with_reducible rfl
  try simp only [Act.put, List.setIfInBounds_toArray, List.set_cons_zero, List.set_cons_succ]
  -- operation 43: entryStore
  refine wpAnyH_ready (rs := [43]) (by kernel_rfl) (by simp) ?_
  refine AllReadyH.cons (o := _) rfl (fun K hK => ?_) AllReadyH.nil
  go_simp
  refine hK.out _ _ (by (first | exact ⟨b5, m5⟩ | exact ⟨hc7.out.1, hc7.out.2⟩ | exact ⟨x7.out.1.cbox, x7.out.2.c4⟩ | exact ⟨x8.out.1.cbox, x8.out.2.c4⟩ | exact ⟨hc9.out.1, hc9.out.2⟩ | exact ⟨x9.out.1.cbox, x9.out.2.c4⟩ | exact ⟨hc10.out.1, hc10.out.2⟩ | exact ⟨x10.out.1.cbox, x10.out.2.c4⟩ | exact ⟨x11.out.1.cbox, x11.out.2.c4⟩ | go_keep)) (fun hHeld => ?_)
  clear hK K
  try simp only [Act.put, List.setIfInBounds_toArray, List.set_cons_zero, List.set_cons_succ]
  -- operation 44: mapEntry
  refine wpAnyH_ready (rs := [44]) (by kernel_rfl) (by simp) ?_
  refine AllReadyH.cons (o := _) rfl (fun K hK => ?_) AllReadyH.nil
  go_simp
  refine hK.out _ _ (by (first | exact ⟨b5, m5⟩ | exact ⟨hc7.out.1, hc7.out.2⟩ | exact ⟨x7.out.1.cbox, x7.out.2.c4⟩ | exact ⟨x8.out.1.cbox, x8.out.2.c4⟩ | exact ⟨hc9.out.1, hc9.out.2⟩ | exact ⟨x9.out.1.cbox, x9.out.2.c4⟩ | exact ⟨hc10.out.1, hc10.out.2⟩ | exact ⟨x10.out.1.cbox, x10.out.2.c4⟩ | exact ⟨x11.out.1.cbox, x11.out.2.c4⟩ | go_keep)) (fun hHeld => ?_)
  clear hK K
  try simp only [Act.put, List.setIfInBounds_toArray, List.set_cons_zero, List.set_cons_succ]
  refine wpAnyH_take (i := 45) (oi := _) (v := ?_) rfl (by kernel_rfl) (by kernel_rfl) (by kernel_rfl) (fun _ _ _ h => h) (Or.inl ⟨by rfl, ?_⟩) (by with_reducible assumption) ?_
  rotate_left
  · (intro w hSw; (try dsimp only at hSw); go_simp); with_reducible rfl
  try simp only [Act.put, List.setIfInBounds_toArray, List.set_cons_zero, List.set_cons_succ]
  -- operation 46: entryStore
  refine wpAnyH_ready (rs := [46]) (by kernel_rfl) (by simp) ?_
  refine AllReadyH.cons (o := _) rfl (fun K hK => ?_) AllReadyH.nil
  go_simp
  refine hK.out _ _ (by (first | exact ⟨b5, m5⟩ | exact ⟨hc7.out.1, hc7.out.2⟩ | exact ⟨x7.out.1.cbox, x7.out.2.c4⟩ | exact ⟨x8.out.1.cbox, x8.out.2.c4⟩ | exact ⟨hc9.out.1, hc9.out.2⟩ | exact ⟨x9.out.1.cbox, x9.out.2.c4⟩ | exact ⟨hc10.out.1, hc10.out.2⟩ | exact ⟨x10.out.1.cbox, x10.out.2.c4⟩ | exact ⟨x11.out.1.cbox, x11.out.2.c4⟩ | go_keep)) (fun hHeld => ?_)
  clear hK K
  try simp only [Act.put, List.setIfInBounds_toArray, List.set_cons_zero, List.set_cons_succ]
  refine wpAnyH_done (by kernel_rfl) ?_ _
  have b11 := x11.out.1.cbox
  go_wp2
  go_ret
  exact ⟨rfl, x11.out.1, x11.out.2⟩
end Go.Proofs.Bm
