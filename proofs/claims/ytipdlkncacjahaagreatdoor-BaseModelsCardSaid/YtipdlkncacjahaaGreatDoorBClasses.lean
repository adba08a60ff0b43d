/- The nine classes: what a new object is, and what its calls do. No condition. -/
import Derived.Test.YtipdlkncacjahaaGreatDoorBOps
import Derived.Test.YtipdlkncacjahaaGreatDoorBMints
import Derived.Test.YtipdlkncacjahaaGreatDoorBMsorted
import Derived.Test.YtipdlkncacjahaaGreatDoorBMstack
import Derived.Test.YtipdlkncacjahaaGreatDoorBMqueue
import Derived.Test.YtipdlkncacjahaaGreatDoorBMtable
import Derived.Test.YtipdlkncacjahaaGreatDoorBMset
import Derived.Test.YtipdlkncacjahaaGreatDoorBMcounter
import Derived.Test.YtipdlkncacjahaaGreatDoorBMrange
import Derived.Test.YtipdlkncacjahaaGreatDoorBMarith
import Derived.Test.YtipdlkncacjahaaGreatDoorBRChk
import Derived.BigQuiet
import Derived.Outline
import Derived.WalkMore
set_option linter.unusedSimpArgs false
set_option linter.unusedVariables false
namespace Go.Proofs.Bm
open Go.RowKit Go.Maps

abbrev L_ints (n : Nat) : List (ByteArray × Value) := [(⟨#[99, 111, 117, 110, 116]⟩, Value.func (Fn.func 33) #[Value.pointer (some ⟨n + 1, 0, none⟩)] #[]), (⟨#[104, 97, 115]⟩, Value.func (Fn.func 34) #[Value.pointer (some ⟨n + 1, 0, none⟩)] #[]), (⟨#[115, 105, 122, 101]⟩, Value.func (Fn.func 33) #[Value.pointer (some ⟨n + 1, 0, none⟩)] #[]), (⟨#[115, 117, 109]⟩, Value.func (Fn.func 35) #[Value.pointer (some ⟨n + 1, 0, none⟩)] #[]), (⟨#[112, 117, 115, 104]⟩, quietV (n + 4 + 0)), (⟨#[101, 120, 116, 101, 110, 100]⟩, quietV (n + 4 + 1)), (⟨#[114, 101, 118, 101, 114, 115, 101]⟩, quietV (n + 4 + 2)), (⟨#[105, 116, 101, 109]⟩, Value.func (Fn.func 40) #[Value.pointer (some ⟨n + 1, 0, none⟩)] #[]), (⟨#[114, 101, 109, 111, 118, 101]⟩, quietV (n + 4 + 3)), (⟨#[119, 105, 112, 101]⟩, quietV (n + 4 + 4))]
abbrev Q_ints (n : Nat) : List Value := [Value.func (Fn.func 37) #[Value.pointer (some ⟨n + 1, 0, none⟩)] #[], Value.func (Fn.func 38) #[Value.pointer (some ⟨n + 1, 0, none⟩)] #[], Value.func (Fn.func 39) #[Value.pointer (some ⟨n + 1, 0, none⟩)] #[], Value.func (Fn.func 41) #[Value.pointer (some ⟨n + 1, 0, none⟩)] #[], Value.func (Fn.func 42) #[Value.pointer (some ⟨n + 1, 0, none⟩)] #[]]
abbrev T_ints : List (ByteArray × Op) := [(⟨#[99, 111, 117, 110, 116]⟩, .count), (⟨#[112, 117, 115, 104]⟩, .push), (⟨#[101, 120, 116, 101, 110, 100]⟩, .extend), (⟨#[104, 97, 115]⟩, .has), (⟨#[105, 116, 101, 109]⟩, .item), (⟨#[115, 117, 109]⟩, .sum), (⟨#[114, 101, 109, 111, 118, 101]⟩, .remove), (⟨#[114, 101, 118, 101, 114, 115, 101]⟩, .reverse), (⟨#[119, 105, 112, 101]⟩, .wipe)]
theorem new_ints (w : World) : Calls Tryz.prog 15 #[.string ⟨#[73, 78, 84, 83]⟩] w fun e w' => e = .returned (P1 w.heap.size) ∧ MS w.heap.size (L_ints w.heap.size) (Q_ints w.heap.size) ⟨[], .map [], 0, -1⟩ 0 none w' ∧ Below w.heap.size w w' :=
  (modelOf_ints w).mono fun _ _ ⟨h1, h2, h3⟩ => ⟨h1, MS.of_lay h2 h3, h2.below⟩
theorem ops_ints (n : Nat) : ∀ p ∈ T_ints, HasOp n (L_ints n) (Q_ints n) p.1 p.2 := by
  exact List.forall_mem_cons.2 ⟨has_count rfl, (List.forall_mem_cons.2 ⟨has_push (j := 0) rfl rfl, (List.forall_mem_cons.2 ⟨has_extend (j := 1) rfl rfl, (List.forall_mem_cons.2 ⟨has_has rfl, (List.forall_mem_cons.2 ⟨has_item rfl, (List.forall_mem_cons.2 ⟨has_sum rfl, (List.forall_mem_cons.2 ⟨has_remove (j := 3) rfl rfl, (List.forall_mem_cons.2 ⟨has_reverse (j := 2) rfl rfl, (List.forall_mem_cons.2 ⟨has_wipe (j := 4) rfl rfl, (by intro p hp; cases hp)⟩)⟩)⟩)⟩)⟩)⟩)⟩)⟩)⟩

abbrev L_sorted (n : Nat) : List (ByteArray × Value) := [(⟨#[99, 111, 117, 110, 116]⟩, Value.func (Fn.func 33) #[Value.pointer (some ⟨n + 1, 0, none⟩)] #[]), (⟨#[104, 97, 115]⟩, Value.func (Fn.func 34) #[Value.pointer (some ⟨n + 1, 0, none⟩)] #[]), (⟨#[115, 105, 122, 101]⟩, Value.func (Fn.func 33) #[Value.pointer (some ⟨n + 1, 0, none⟩)] #[]), (⟨#[115, 117, 109]⟩, Value.func (Fn.func 35) #[Value.pointer (some ⟨n + 1, 0, none⟩)] #[]), (⟨#[112, 117, 115, 104]⟩, quietV (n + 4 + 5)), (⟨#[101, 120, 116, 101, 110, 100]⟩, quietV (n + 4 + 6)), (⟨#[114, 101, 118, 101, 114, 115, 101]⟩, quietV (n + 4 + 7)), (⟨#[105, 116, 101, 109]⟩, Value.func (Fn.func 40) #[Value.pointer (some ⟨n + 1, 0, none⟩)] #[]), (⟨#[114, 101, 109, 111, 118, 101]⟩, quietV (n + 4 + 3)), (⟨#[119, 105, 112, 101]⟩, quietV (n + 4 + 4))]
abbrev Q_sorted (n : Nat) : List Value := [Value.func (Fn.func 37) #[Value.pointer (some ⟨n + 1, 0, none⟩)] #[], Value.func (Fn.func 38) #[Value.pointer (some ⟨n + 1, 0, none⟩)] #[], Value.func (Fn.func 39) #[Value.pointer (some ⟨n + 1, 0, none⟩)] #[], Value.func (Fn.func 41) #[Value.pointer (some ⟨n + 1, 0, none⟩)] #[], Value.func (Fn.func 42) #[Value.pointer (some ⟨n + 1, 0, none⟩)] #[], Value.func (Fn.func 43) #[Value.pointer (some ⟨n + 1, 0, none⟩)] #[], Value.func (Fn.func 43) #[Value.pointer (some ⟨n + 1, 0, none⟩)] #[], Value.func (Fn.func 44) #[] #[]]
abbrev T_sorted : List (ByteArray × Op) := [(⟨#[99, 111, 117, 110, 116]⟩, .count), (⟨#[112, 117, 115, 104]⟩, .ins), (⟨#[101, 120, 116, 101, 110, 100]⟩, .ins), (⟨#[104, 97, 115]⟩, .has), (⟨#[105, 116, 101, 109]⟩, .item), (⟨#[115, 117, 109]⟩, .sum), (⟨#[114, 101, 109, 111, 118, 101]⟩, .remove), (⟨#[114, 101, 118, 101, 114, 115, 101]⟩, .nothing), (⟨#[119, 105, 112, 101]⟩, .wipe)]
theorem new_sorted (w : World) : Calls Tryz.prog 15 #[.string ⟨#[83, 79, 82, 84, 69, 68]⟩] w fun e w' => e = .returned (P1 w.heap.size) ∧ MS w.heap.size (L_sorted w.heap.size) (Q_sorted w.heap.size) ⟨[], .map [], 0, -1⟩ 0 none w' ∧ Below w.heap.size w w' :=
  (modelOf_sorted w).mono fun _ _ ⟨h1, h2, h3⟩ => ⟨h1, MS.of_lay h2 h3, h2.below⟩
theorem ops_sorted (n : Nat) : ∀ p ∈ T_sorted, HasOp n (L_sorted n) (Q_sorted n) p.1 p.2 := by
  exact List.forall_mem_cons.2 ⟨has_count rfl, (List.forall_mem_cons.2 ⟨has_ins (j := 5) rfl rfl, (List.forall_mem_cons.2 ⟨has_ins (j := 6) rfl rfl, (List.forall_mem_cons.2 ⟨has_has rfl, (List.forall_mem_cons.2 ⟨has_item rfl, (List.forall_mem_cons.2 ⟨has_sum rfl, (List.forall_mem_cons.2 ⟨has_remove (j := 3) rfl rfl, (List.forall_mem_cons.2 ⟨has_nothing (j := 7) rfl rfl, (List.forall_mem_cons.2 ⟨has_wipe (j := 4) rfl rfl, (by intro p hp; cases hp)⟩)⟩)⟩)⟩)⟩)⟩)⟩)⟩)⟩

abbrev L_stack (n : Nat) : List (ByteArray × Value) := [(⟨#[99, 111, 117, 110, 116]⟩, Value.func (Fn.func 33) #[Value.pointer (some ⟨n + 1, 0, none⟩)] #[]), (⟨#[104, 97, 115]⟩, Value.func (Fn.func 34) #[Value.pointer (some ⟨n + 1, 0, none⟩)] #[]), (⟨#[115, 105, 122, 101]⟩, Value.func (Fn.func 33) #[Value.pointer (some ⟨n + 1, 0, none⟩)] #[]), (⟨#[115, 117, 109]⟩, Value.func (Fn.func 35) #[Value.pointer (some ⟨n + 1, 0, none⟩)] #[]), (⟨#[112, 117, 115, 104]⟩, quietV (n + 4 + 0)), (⟨#[112, 111, 112]⟩, quietV (n + 4 + 1)), (⟨#[112, 101, 101, 107]⟩, Value.func (Fn.func 47) #[Value.pointer (some ⟨n + 1, 0, none⟩)] #[])]
abbrev Q_stack (n : Nat) : List Value := [Value.func (Fn.func 45) #[Value.pointer (some ⟨n + 1, 0, none⟩)] #[], Value.func (Fn.func 46) #[Value.pointer (some ⟨n + 1, 0, none⟩)] #[]]
abbrev T_stack : List (ByteArray × Op) := [(⟨#[99, 111, 117, 110, 116]⟩, .count), (⟨#[112, 117, 115, 104]⟩, .lay), (⟨#[112, 111, 112]⟩, .leave), (⟨#[112, 101, 101, 107]⟩, .peek)]
theorem new_stack (w : World) : Calls Tryz.prog 15 #[.string ⟨#[83, 84, 65, 67, 75]⟩] w fun e w' => e = .returned (P1 w.heap.size) ∧ MS w.heap.size (L_stack w.heap.size) (Q_stack w.heap.size) ⟨[], .map [], 0, -1⟩ 0 none w' ∧ Below w.heap.size w w' :=
  (modelOf_stack w).mono fun _ _ ⟨h1, h2, h3⟩ => ⟨h1, MS.of_lay h2 h3, h2.below⟩
theorem ops_stack (n : Nat) : ∀ p ∈ T_stack, HasOp n (L_stack n) (Q_stack n) p.1 p.2 := by
  exact List.forall_mem_cons.2 ⟨has_count rfl, (List.forall_mem_cons.2 ⟨has_lay (j := 0) rfl rfl, (List.forall_mem_cons.2 ⟨has_leave (j := 1) rfl rfl, (List.forall_mem_cons.2 ⟨has_peek rfl, (by intro p hp; cases hp)⟩)⟩)⟩)⟩

abbrev L_queue (n : Nat) : List (ByteArray × Value) := [(⟨#[99, 111, 117, 110, 116]⟩, Value.func (Fn.func 33) #[Value.pointer (some ⟨n + 1, 0, none⟩)] #[]), (⟨#[104, 97, 115]⟩, Value.func (Fn.func 34) #[Value.pointer (some ⟨n + 1, 0, none⟩)] #[]), (⟨#[115, 105, 122, 101]⟩, Value.func (Fn.func 33) #[Value.pointer (some ⟨n + 1, 0, none⟩)] #[]), (⟨#[115, 117, 109]⟩, Value.func (Fn.func 35) #[Value.pointer (some ⟨n + 1, 0, none⟩)] #[]), (⟨#[101, 110, 116, 101, 114]⟩, quietV (n + 4 + 0)), (⟨#[108, 101, 97, 118, 101]⟩, quietV (n + 4 + 1)), (⟨#[102, 114, 111, 110, 116]⟩, Value.func (Fn.func 48) #[Value.pointer (some ⟨n + 1, 0, none⟩)] #[])]
abbrev Q_queue (n : Nat) : List Value := [Value.func (Fn.func 38) #[Value.pointer (some ⟨n + 1, 0, none⟩)] #[], Value.func (Fn.func 46) #[Value.pointer (some ⟨n + 1, 0, none⟩)] #[]]
abbrev T_queue : List (ByteArray × Op) := [(⟨#[99, 111, 117, 110, 116]⟩, .count), (⟨#[101, 110, 116, 101, 114]⟩, .extend), (⟨#[108, 101, 97, 118, 101]⟩, .leave), (⟨#[102, 114, 111, 110, 116]⟩, .front)]
theorem new_queue (w : World) : Calls Tryz.prog 15 #[.string ⟨#[81, 85, 69, 85, 69]⟩] w fun e w' => e = .returned (P1 w.heap.size) ∧ MS w.heap.size (L_queue w.heap.size) (Q_queue w.heap.size) ⟨[], .map [], 0, -1⟩ 0 none w' ∧ Below w.heap.size w w' :=
  (modelOf_queue w).mono fun _ _ ⟨h1, h2, h3⟩ => ⟨h1, MS.of_lay h2 h3, h2.below⟩
theorem ops_queue (n : Nat) : ∀ p ∈ T_queue, HasOp n (L_queue n) (Q_queue n) p.1 p.2 := by
  exact List.forall_mem_cons.2 ⟨has_count rfl, (List.forall_mem_cons.2 ⟨has_extend (j := 0) rfl rfl, (List.forall_mem_cons.2 ⟨has_leave (j := 1) rfl rfl, (List.forall_mem_cons.2 ⟨has_front rfl, (by intro p hp; cases hp)⟩)⟩)⟩)⟩

abbrev L_table (n : Nat) : List (ByteArray × Value) := [(⟨#[99, 111, 117, 110, 116]⟩, Value.func (Fn.func 53) #[Value.pointer (some ⟨n + 1, 0, none⟩)] #[]), (⟨#[104, 97, 115]⟩, Value.func (Fn.func 50) #[Value.pointer (some ⟨n + 1, 0, none⟩)] #[]), (⟨#[115, 105, 122, 101]⟩, Value.func (Fn.func 33) #[Value.pointer (some ⟨n + 1, 0, none⟩)] #[]), (⟨#[115, 117, 109]⟩, Value.func (Fn.func 35) #[Value.pointer (some ⟨n + 1, 0, none⟩)] #[]), (⟨#[102, 111, 114, 99, 101]⟩, quietV (n + 4 + 0)), (⟨#[118, 97, 108, 117, 101, 95, 111, 102]⟩, Value.func (Fn.func 51) #[Value.pointer (some ⟨n + 1, 0, none⟩)] #[]), (⟨#[114, 101, 109, 111, 118, 101]⟩, quietV (n + 4 + 1))]
abbrev Q_table (n : Nat) : List Value := [Value.func (Fn.func 49) #[Value.pointer (some ⟨n + 1, 0, none⟩)] #[], Value.func (Fn.func 52) #[Value.pointer (some ⟨n + 1, 0, none⟩)] #[]]
abbrev T_table : List (ByteArray × Op) := [(⟨#[99, 111, 117, 110, 116]⟩, .many), (⟨#[102, 111, 114, 99, 101]⟩, .force), (⟨#[104, 97, 115]⟩, .known), (⟨#[118, 97, 108, 117, 101, 95, 111, 102]⟩, .value), (⟨#[114, 101, 109, 111, 118, 101]⟩, .lose)]
theorem new_table (w : World) : Calls Tryz.prog 15 #[.string ⟨#[84, 65, 66, 76, 69]⟩] w fun e w' => e = .returned (P1 w.heap.size) ∧ MS w.heap.size (L_table w.heap.size) (Q_table w.heap.size) ⟨[], .map [], 0, -1⟩ 0 none w' ∧ Below w.heap.size w w' :=
  (modelOf_table w).mono fun _ _ ⟨h1, h2, h3⟩ => ⟨h1, MS.of_lay h2 h3, h2.below⟩
theorem ops_table (n : Nat) : ∀ p ∈ T_table, HasOp n (L_table n) (Q_table n) p.1 p.2 := by
  exact List.forall_mem_cons.2 ⟨has_many rfl, (List.forall_mem_cons.2 ⟨has_force (j := 0) rfl rfl, (List.forall_mem_cons.2 ⟨has_known rfl, (List.forall_mem_cons.2 ⟨has_value rfl, (List.forall_mem_cons.2 ⟨has_lose (j := 1) rfl rfl, (by intro p hp; cases hp)⟩)⟩)⟩)⟩)⟩

abbrev L_set (n : Nat) : List (ByteArray × Value) := [(⟨#[99, 111, 117, 110, 116]⟩, Value.func (Fn.func 33) #[Value.pointer (some ⟨n + 1, 0, none⟩)] #[]), (⟨#[104, 97, 115]⟩, Value.func (Fn.func 34) #[Value.pointer (some ⟨n + 1, 0, none⟩)] #[]), (⟨#[115, 105, 122, 101]⟩, Value.func (Fn.func 33) #[Value.pointer (some ⟨n + 1, 0, none⟩)] #[]), (⟨#[115, 117, 109]⟩, Value.func (Fn.func 35) #[Value.pointer (some ⟨n + 1, 0, none⟩)] #[]), (⟨#[97, 100, 100]⟩, quietV (n + 4 + 0)), (⟨#[100, 114, 111, 112]⟩, quietV (n + 4 + 1))]
abbrev Q_set (n : Nat) : List Value := [Value.func (Fn.func 54) #[Value.pointer (some ⟨n + 1, 0, none⟩)] #[], Value.func (Fn.func 41) #[Value.pointer (some ⟨n + 1, 0, none⟩)] #[]]
abbrev T_set : List (ByteArray × Op) := [(⟨#[97, 100, 100]⟩, .join), (⟨#[100, 114, 111, 112]⟩, .remove), (⟨#[104, 97, 115]⟩, .has), (⟨#[115, 105, 122, 101]⟩, .count)]
theorem new_set (w : World) : Calls Tryz.prog 15 #[.string ⟨#[83, 69, 84]⟩] w fun e w' => e = .returned (P1 w.heap.size) ∧ MS w.heap.size (L_set w.heap.size) (Q_set w.heap.size) ⟨[], .map [], 0, -1⟩ 0 none w' ∧ Below w.heap.size w w' :=
  (modelOf_set w).mono fun _ _ ⟨h1, h2, h3⟩ => ⟨h1, MS.of_lay h2 h3, h2.below⟩
theorem ops_set (n : Nat) : ∀ p ∈ T_set, HasOp n (L_set n) (Q_set n) p.1 p.2 := by
  exact List.forall_mem_cons.2 ⟨has_join (j := 0) rfl rfl, (List.forall_mem_cons.2 ⟨has_remove (j := 1) rfl rfl, (List.forall_mem_cons.2 ⟨has_has rfl, (List.forall_mem_cons.2 ⟨has_count rfl, (by intro p hp; cases hp)⟩)⟩)⟩)⟩

abbrev L_counter (n : Nat) : List (ByteArray × Value) := [(⟨#[99, 111, 117, 110, 116]⟩, Value.func (Fn.func 55) #[Value.pointer (some ⟨n + 1, 0, none⟩)] #[]), (⟨#[104, 97, 115]⟩, Value.func (Fn.func 34) #[Value.pointer (some ⟨n + 1, 0, none⟩)] #[]), (⟨#[115, 105, 122, 101]⟩, Value.func (Fn.func 33) #[Value.pointer (some ⟨n + 1, 0, none⟩)] #[]), (⟨#[115, 117, 109]⟩, Value.func (Fn.func 35) #[Value.pointer (some ⟨n + 1, 0, none⟩)] #[]), (⟨#[117, 112]⟩, quietV (n + 4 + 0)), (⟨#[97, 100, 100]⟩, quietV (n + 4 + 1))]
abbrev Q_counter (n : Nat) : List Value := [Value.func (Fn.func 56) #[] #[Value.pointer (some ⟨n + 1 + 1, 0, none⟩)], Value.func (Fn.func 58) #[] #[Value.pointer (some ⟨n + 1 + 1, 0, none⟩)]]
abbrev T_counter : List (ByteArray × Op) := [(⟨#[99, 111, 117, 110, 116]⟩, .lows), (⟨#[117, 112]⟩, .up), (⟨#[97, 100, 100]⟩, .add)]
theorem new_counter (w : World) : Calls Tryz.prog 15 #[.string ⟨#[67, 79, 85, 78, 84, 69, 82]⟩] w fun e w' => e = .returned (P1 w.heap.size) ∧ MS w.heap.size (L_counter w.heap.size) (Q_counter w.heap.size) ⟨[], .map [], 0, -1⟩ 0 none w' ∧ Below w.heap.size w w' :=
  (modelOf_counter w).mono fun _ _ ⟨h1, h2, h3⟩ => ⟨h1, MS.of_lay h2 h3, h2.below⟩
theorem ops_counter (n : Nat) : ∀ p ∈ T_counter, HasOp n (L_counter n) (Q_counter n) p.1 p.2 := by
  exact List.forall_mem_cons.2 ⟨has_lows rfl, (List.forall_mem_cons.2 ⟨has_up (j := 0) rfl rfl, (List.forall_mem_cons.2 ⟨has_add (j := 1) rfl rfl, (by intro p hp; cases hp)⟩)⟩)⟩

abbrev L_range (n : Nat) : List (ByteArray × Value) := [(⟨#[99, 111, 117, 110, 116]⟩, Value.func (Fn.func 33) #[Value.pointer (some ⟨n + 1, 0, none⟩)] #[]), (⟨#[104, 97, 115]⟩, Value.func (Fn.func 34) #[Value.pointer (some ⟨n + 1, 0, none⟩)] #[]), (⟨#[115, 105, 122, 101]⟩, Value.func (Fn.func 63) #[Value.pointer (some ⟨n + 1, 0, none⟩)] #[]), (⟨#[115, 117, 109]⟩, Value.func (Fn.func 64) #[Value.pointer (some ⟨n + 1, 0, none⟩)] #[]), (⟨#[108, 111, 119]⟩, Value.func (Fn.func 55) #[Value.pointer (some ⟨n + 1, 0, none⟩)] #[]), (⟨#[104, 105, 103, 104]⟩, Value.func (Fn.func 60) #[Value.pointer (some ⟨n + 1, 0, none⟩)] #[]), (⟨#[115, 112, 97, 110]⟩, quietV (n + 4 + 0)), (⟨#[99, 111, 110, 116, 97, 105, 110, 115]⟩, Value.func (Fn.func 62) #[Value.pointer (some ⟨n + 1, 0, none⟩)] #[])]
abbrev Q_range (n : Nat) : List Value := [Value.func (Fn.func 61) #[Value.pointer (some ⟨n + 1, 0, none⟩)] #[]]
abbrev T_range : List (ByteArray × Op) := [(⟨#[108, 111, 119]⟩, .lows), (⟨#[104, 105, 103, 104]⟩, .highs), (⟨#[115, 112, 97, 110]⟩, .span), (⟨#[99, 111, 110, 116, 97, 105, 110, 115]⟩, .contains), (⟨#[115, 105, 122, 101]⟩, .width), (⟨#[115, 117, 109]⟩, .total)]
theorem new_range (w : World) : Calls Tryz.prog 15 #[.string ⟨#[82, 65, 78, 71, 69]⟩] w fun e w' => e = .returned (P1 w.heap.size) ∧ MS w.heap.size (L_range w.heap.size) (Q_range w.heap.size) ⟨[], .map [], 0, -1⟩ 0 none w' ∧ Below w.heap.size w w' :=
  (modelOf_range w).mono fun _ _ ⟨h1, h2, h3⟩ => ⟨h1, MS.of_lay h2 h3, h2.below⟩
theorem ops_range (n : Nat) : ∀ p ∈ T_range, HasOp n (L_range n) (Q_range n) p.1 p.2 := by
  exact List.forall_mem_cons.2 ⟨has_lows rfl, (List.forall_mem_cons.2 ⟨has_highs rfl, (List.forall_mem_cons.2 ⟨has_span (j := 0) rfl rfl, (List.forall_mem_cons.2 ⟨has_contains rfl, (List.forall_mem_cons.2 ⟨has_width rfl, (List.forall_mem_cons.2 ⟨has_total rfl, (by intro p hp; cases hp)⟩)⟩)⟩)⟩)⟩)⟩

abbrev L_arith (n : Nat) : List (ByteArray × Value) := [(⟨#[99, 111, 117, 110, 116]⟩, Value.func (Fn.func 33) #[Value.pointer (some ⟨n + 1, 0, none⟩)] #[]), (⟨#[104, 97, 115]⟩, Value.func (Fn.func 34) #[Value.pointer (some ⟨n + 1, 0, none⟩)] #[]), (⟨#[115, 105, 122, 101]⟩, Value.func (Fn.func 33) #[Value.pointer (some ⟨n + 1, 0, none⟩)] #[]), (⟨#[115, 117, 109]⟩, Value.func (Fn.func 35) #[Value.pointer (some ⟨n + 1, 0, none⟩)] #[]), (⟨#[103, 99, 100]⟩, Value.func (Fn.func 65) #[] #[]), (⟨#[112, 111, 119, 101, 114]⟩, Value.func (Fn.func 66) #[] #[]), (⟨#[102, 97, 99, 116]⟩, Value.func (Fn.func 67) #[] #[]), (⟨#[116, 114, 105, 101, 115]⟩, Value.func (Fn.func 68) #[] #[])]
abbrev Q_arith (n : Nat) : List Value := []
abbrev T_arith : List (ByteArray × Op) := [(⟨#[103, 99, 100]⟩, .gcd), (⟨#[112, 111, 119, 101, 114]⟩, .power), (⟨#[102, 97, 99, 116]⟩, .fact), (⟨#[116, 114, 105, 101, 115]⟩, .tries)]
theorem new_arith (w : World) : Calls Tryz.prog 15 #[.string ⟨#[65, 82, 73, 84, 72]⟩] w fun e w' => e = .returned (P1 w.heap.size) ∧ MS w.heap.size (L_arith w.heap.size) (Q_arith w.heap.size) ⟨[], .map [], 0, -1⟩ 0 none w' ∧ Below w.heap.size w w' :=
  (modelOf_arith w).mono fun _ _ ⟨h1, h2, h3⟩ => ⟨h1, MS.of_lay h2 h3, h2.below⟩
theorem ops_arith (n : Nat) : ∀ p ∈ T_arith, HasOp n (L_arith n) (Q_arith n) p.1 p.2 := by
  exact List.forall_mem_cons.2 ⟨has_gcd rfl, (List.forall_mem_cons.2 ⟨has_power rfl, (List.forall_mem_cons.2 ⟨has_fact rfl, (List.forall_mem_cons.2 ⟨has_tries rfl, (by intro p hp; cases hp)⟩)⟩)⟩)⟩
end Go.Proofs.Bm

namespace Go.Proofs.Bm
open Go.RowKit Go.Maps

def T_cls : Cls → List (ByteArray × Op)
  | .ints => T_ints | .sorted => T_sorted | .stack => T_stack | .queue => T_queue | .table => T_table | .set => T_set | .counter => T_counter | .range => T_range | .arith => T_arith
theorem T_calls (c : Cls) : (T_cls c).map (fun p => (p.1, argO p.2, resO p.2)) = callsT c := by cases c <;> rfl
theorem T_of {c : Cls} {k ar : Nat} {re : Bool} {nm : ByteArray} (h : (callsT c)[k]? = some (nm, ar, re)) : ∃ op, (nm, op) ∈ T_cls c ∧ argO op = ar ∧ resO op = re := by
  rw [← T_calls, List.getElem?_map] at h
  cases hp : (T_cls c)[k]? with
  | none => simp [hp] at h
  | some p =>
    simp [hp] at h
    obtain ⟨h1, h2, h3⟩ := h
    exact ⟨p.2, by rw [← h1]; exact List.mem_of_getElem? hp, h2, h3⟩
theorem T_mem {c : Cls} {nm : ByteArray} {op : Op} (h : (nm, op) ∈ T_cls c) : ∃ k : Nat, (callsT c)[k]? = some (nm, argO op, resO op) := by
  obtain ⟨k, hk⟩ := List.mem_iff_getElem?.1 h
  exact ⟨k, by rw [← T_calls, List.getElem?_map, hk]; rfl⟩

/-- What a script puts out, its exception, and its error. -/
def Plays (c : Cls) : List (ByteArray × Int × Int) → St → List Int → List Int → Int → Int → Prop
  | [], _, out, o', f, e => o' = out ∧ f = 0 ∧ e = 0
  | x :: r, s, out, o', f, e => ∃ op, (x.1, op) ∈ T_cls c ∧ match act op s x.2.1 x.2.2 with
    | (s', .ret v) => Plays c r s' (out ++ (if resO op then [v] else [])) o' f e
    | (_, .stop fa er) => if er = 0 then (o' = out ∧ f = fa ∧ e = 0) else (o' = [] ∧ f = 0 ∧ e = er)
theorem Plays.exists (c : Cls) : ∀ (l : List (ByteArray × Int × Int)) (s : St) (out : List Int), (∀ x ∈ l, okC c x) → ∃ o' f e, Plays c l s out o' f e
  | [], s, out, _ => ⟨out, 0, 0, rfl, rfl, rfl⟩
  | x :: r, s, out, h => by
    obtain ⟨k, ar, re, hk, _⟩ := h x (List.mem_cons_self)
    obtain ⟨op, hop, _, _⟩ := T_of hk
    cases ha : act op s x.2.1 x.2.2 with
    | mk s' o =>
      cases o with
      | ret v =>
        obtain ⟨o', f, e, hp⟩ := Plays.exists c r s' (out ++ (if resO op then [v] else [])) (fun y hy => h y (List.mem_cons_of_mem _ hy))
        exact ⟨o', f, e, op, hop, by rw [ha]; exact hp⟩
      | stop fa er =>
        by_cases e0 : er = 0
        · exact ⟨out, fa, 0, op, hop, by rw [ha]; dsimp only; rw [if_pos e0]; exact ⟨rfl, rfl, rfl⟩⟩
        · exact ⟨[], 0, er, op, hop, by rw [ha]; dsimp only; rw [if_neg e0]; exact ⟨rfl, rfl, rfl⟩⟩
/-- A deed that stops has an exception or an error. -/
def Stops : Out → Prop
  | .ret _ => True
  | .stop f e => (e = 0 ∧ f ≠ 0) ∨ e = 3

theorem sumO_stops : ∀ (l : List Int) (m : Int), Stops (sumO m l)
  | [], _ => trivial
  | x :: r, m => by
    rw [sumO]; split
    · exact sumO_stops r _
    · exact .inl ⟨rfl, by decide⟩
theorem powO_stops (a b : Int) : ∀ (f : Nat) (k n : Int), Stops (powO a b f k n)
  | 0, _, _ => trivial
  | f + 1, k, n => by
    rw [powO]; repeat' split
    · exact .inr rfl
    · exact powO_stops a b f _ _
    · exact .inl ⟨rfl, by decide⟩
    · trivial
theorem facO_stops (a : Int) : ∀ (f : Nat) (k n : Int), Stops (facO a f k n)
  | 0, _, _ => trivial
  | f + 1, k, n => by
    rw [facO]; repeat' split
    · exact facO_stops a f _ _
    · exact .inl ⟨rfl, by decide⟩
    · trivial
theorem totO_stops (a b : Int) : ∀ (f : Nat) (k n : Int), Stops (totO a b f k n)
  | 0, _, _ => trivial
  | f + 1, k, n => by
    rw [totO]; repeat' split
    · exact .inr rfl
    · exact totO_stops a b f _ _
    · exact .inl ⟨rfl, by decide⟩
    · trivial
theorem act_stops (op : Op) (s : St) (A B : Int) : Stops (act op s A B).2 := by
  cases op
  case sum => exact sumO_stops _ _
  all_goals (unfold act; dsimp only)
  all_goals (repeat' split)
  all_goals (first | trivial | exact .inl ⟨rfl, by decide⟩ | exact powO_stops _ _ _ _ _ | exact facO_stops _ _ _ _ | exact totO_stops _ _ _ _ _)

theorem new_cls (c : Cls) (w : World) : ∃ L Q, (Calls Tryz.prog 15 #[.string (clsName c)] w fun e w' => e = .returned (P1 w.heap.size) ∧ MS w.heap.size L Q ⟨[], .map [], 0, -1⟩ 0 none w' ∧ Below w.heap.size w w') ∧ ∀ p ∈ T_cls c, HasOp w.heap.size L Q p.1 p.2 := by
  cases c
  · exact ⟨_, _, new_ints w, ops_ints _⟩
  · exact ⟨_, _, new_sorted w, ops_sorted _⟩
  · exact ⟨_, _, new_stack w, ops_stack _⟩
  · exact ⟨_, _, new_queue w, ops_queue _⟩
  · exact ⟨_, _, new_table w, ops_table _⟩
  · exact ⟨_, _, new_set w, ops_set _⟩
  · exact ⟨_, _, new_counter w, ops_counter _⟩
  · exact ⟨_, _, new_range w, ops_range _⟩
  · exact ⟨_, _, new_arith w, ops_arith _⟩

theorem MS.of_below {n q : Nat} {L : List (ByteArray × Value)} {Q : List Value} {s : St} {lk : Option Nat} {W w' : World} (h : MS n L Q s q lk W) (hb : Below W.heap.size W w') : MS n L Q s q lk w' :=
  h.kept (G := fun _ => False) (Kept.of_below' hb) (fun _ _ _ e => e) (fun _ _ e => e)
theorem OwnI.of_below {w w' : World} {v : Value} {k : Option Nat} {xs : List Int} (h : OwnI w v k xs) (hb : Below w.heap.size w w') : OwnI w' v k xs :=
  h.keep fun b e => hb.block b (h.lt b e)
theorem MS.notF {n q : Nat} {L : List (ByteArray × Value)} {Q : List Value} {s : St} {lk : Option Nat} {W : World} (h : MS n L Q s q lk W) {b : Nat} (hb : W.heap.size ≤ b) : ¬ F n lk b := by
  have hs := h.size
  rintro (e | e | e)
  · omega
  · omega
  · have := h.lt b e; omega
end Go.Proofs.Bm

namespace Go.Proofs.Bm
open Go.RowKit Go.Maps

theorem model_err (cls : ByteArray) (a : Option Addr) (n cap : Nat) (x : Int) (hx : (x != 0) = true) (w : World) (h : Calls Tryz.prog 14 #[.string cls, .slice a n cap] w (ErrPost x w)) :
    Calls Tryz.prog 6 #[.string cls, .slice a n cap] w fun e w' => e = .returned (.tuple #[.slice none 0 0, I 0, I x]) ∧ Below w.heap.size w w' := by
  go_enter Tryz.func6, Tryz.ntmps6
  go_wp2_with fail
  go_step3
  go_wp2_with fail
  refine h.mono ?_
  rintro e w1 ⟨rfl, hb⟩
  go_wp2
  rw [Exit.noGoto_ret]
  go_ret3
  exact ⟨rfl, hb⟩

theorem below_drewN {B : Nat} {w w' : World} (h : Below B w w') (k : Nat) : Below B w (w'.drewN k) := ⟨h.os, h.tape, h.output, h.size, h.block⟩
/-- What Model hands back. -/
def ModPost (o' : List Int) (f e0 : Int) (w : World) (e : Ending) (w' : World) : Prop := ∃ v k, e = .returned (.tuple #[v, I f, I e0]) ∧ OwnI w' v k o' ∧ Below w.heap.size w w' ∧ (∀ b, k = some b → w.heap.size ≤ b)

set_option maxHeartbeats 4000000 in
set_option maxRecDepth 100000 in
theorem model_ok (c : Cls) (a : Option Addr) (cap : Nat) (l : List (ByteArray × Int × Int)) (o' : List Int) (f e0 : Int) (w : World) (hL : LC w a l) (hn : l.length ≤ 40) (hok : ∀ x ∈ l, okC c x) (hP : Plays c l ⟨[], .map [], 0, -1⟩ [] o' f e0) :
    Calls Tryz.prog 6 #[.string (clsName c), .slice a l.length cap] w (ModPost o' f e0 w) := by
  have hc := check_loop c a cap l 0 (.inl ⟨rfl, hok⟩) w hL hn
  replace hL := Lib.hid hL
  replace hP := Lib.hid hP
  replace hok := Lib.hid hok
  go_enter Tryz.func6, Tryz.ntmps6
  go_wp2_with fail
  go_step3
  go_wp2_with fail
  refine hc.mono ?_
  rintro e w1 ⟨rfl, hb1⟩
  obtain ⟨L, Q, hnew, hops⟩ := new_cls c w1
  go_wp2_with fail
  refine hnew.mono ?_
  rintro e w2 ⟨rfl, hM, hb2⟩
  obtain ⟨n, hnn⟩ : ∃ n, n = w1.heap.size := ⟨_, rfl⟩
  rw [← hnn] at hM hops ⊢
  have hnw : w.heap.size ≤ n := by rw [hnn]; exact hb1.size
  have hB := hb1.trans (hb2.mono hb1.size)
  replace hnn := Lib.hid hnn
  clear hnew hb1 hb2 hc
  go_wp2_with fail
  go_step3
  go_wp2_with fail
  go_loopg [9, 10, 27] l.length (fun gg s9 s10 s27 wr => ∃ (kk : Nat) (s : St) (lk k9 : Option Nat) (out : List Int), kk ≤ l.length ∧ l.length - kk ≤ gg ∧ s27 = I kk ∧ s10 = I 0 ∧ OwnI wr s9 k9 out ∧ MS n L Q s kk lk wr ∧ Good s kk ∧ (∀ b, k9 = some b → n + 4 + Q.length ≤ b ∧ lk ≠ some b) ∧ Below w.heap.size w wr ∧ out.length ≤ kk ∧ Hid (Plays c (l.drop kk) s out o' f e0))
  case atStart => exact ⟨0, _, none, none, [], by omega, by omega, rfl, rfl, OwnI.nil _, hM, Good.start, (fun _ e => (by cases e)), hB, by simp, Lib.hid (by simpa using hP.out)⟩
  case round =>
    obtain ⟨kk, s, lk, k9, out, hkk, hg, rfl, rfl, ho9, hMr, hG, hk9, hbr, hol, hp⟩ := hrel
    obtain ⟨a9, c9, rfl, _⟩ := ho9.form
    by_cases hlt : kk < l.length
    · have hltz : (kk : Int) < (l.length : Int) := by omega
      have hkz : (0 : Int) ≤ (kk : Int) := by omega
      have hp2 := hp.out
      rw [List.drop_eq_getElem_cons hlt] at hp2
      have hz := List.getElem?_eq_getElem hlt
      generalize l[kk] = x at hz hp2
      obtain ⟨nm, A, B⟩ := x
      obtain ⟨j, ar, re, hj, hA, hBr, _, _⟩ := hok.out _ (List.mem_of_getElem? hz)
      dsimp only at hj hA hBr
      have hj1 := (idx_calls c j _ hj).1
      dsimp only at hj1
      obtain ⟨bb, off, rfl, h0, h1, h2⟩ := (hL.out.below hbr).cell kk nm A B hz
      clear hz
      obtain ⟨op, hop, hact⟩ := hp2
      obtain ⟨j', hj'⟩ := T_mem hop
      have e1 := (idx_calls c j' _ hj').1
      dsimp only at e1
      obtain rfl : j = j' := by have := hj1.symm.trans e1; omega
      rw [hj] at hj'
      obtain ⟨rfl, rfl⟩ : ar = argO op ∧ re = resO op := by cases hj'; exact ⟨rfl, rfl⟩
      clear e1 hj'
      have hdo := hops _ hop
      have hM1 := hMr.alloc (.cells #[.string nm, I A, I B] 40)
      have ho1 := ho9.alloc (.cells #[.string nm, I A, I B] 40)
      go_wp2_with fail
      refine (callOf_yes c j nm (argO op) (resO op) hj1 hj _).mono ?_
      rintro e w3 ⟨rfl, hb3⟩
      have q0 : w3.cell? ⟨wr.heap.size, 0, none⟩ = some (.string nm) := (hb3.cell (by simp)).trans (by unfold World.cell?; rw [heap_alloc, if_pos rfl]; rfl)
      have q1 : w3.cell? ⟨wr.heap.size, 1, none⟩ = some (I A) := (hb3.cell (by simp)).trans (by unfold World.cell?; rw [heap_alloc, if_pos rfl]; rfl)
      have q2 : w3.cell? ⟨wr.heap.size, 2, none⟩ = some (I B) := (hb3.cell (by simp)).trans (by unfold World.cell?; rw [heap_alloc, if_pos rfl]; rfl)
      have hsz3 : wr.heap.size < w3.heap.size := by have := hb3.size; simp at this; omega
      have hM3 := (hM1.of_below hb3).alloc (.cells #[.string nm, I (argO op), .bool (resO op)] 48)
      have ho3 := (ho1.of_below hb3).alloc (.cells #[.string nm, I (argO op), .bool (resO op)] 48)
      have hb4 : Below w.heap.size w (w3.alloc (.cells #[.string nm, I (argO op), .bool (resO op)] 48)) := ((hbr.alloc hbr.size _).trans (hb3.mono (by have := hbr.size; simp; omega))).alloc (by have := hbr.size; omega) _
      have hd := hdo s kk lk _ A B hM3 hG hA hBr
      have hG' := good_act op s kk A B hG (by omega) hA hBr
      have hnF := (hM1.of_below hb3).notF (b := w3.heap.size) (Nat.le_refl _)
      have hkF : ∀ b, k9 = some b → ¬ F n lk b := fun b e => by
        obtain ⟨x1, x2⟩ := hk9 b e
        rintro (y | y | y)
        · omega
        · omega
        · exact x2 y
      have hqr : (w3.alloc (.cells #[.string nm, I (argO op), .bool (resO op)] 48)).cell? ⟨w3.heap.size, 2, none⟩ = some (.bool (resO op)) := by unfold World.cell?; rw [heap_alloc, if_pos rfl]; rfl
      have hnlow : ∀ k, F n lk k → w.heap.size ≤ k := by
        rintro k (y | y | y)
        · omega
        · omega
        · have := hM3.far k y; omega
      obtain ⟨s', oo, hao⟩ : ∃ s' oo, act op s A B = (s', oo) := ⟨_, _, rfl⟩
      rw [hao] at hact hd hG'
      replace hao := Lib.hid hao
      replace hkF := Lib.hid hkF
      replace hnlow := Lib.hid hnlow
      clear hb3 hM1 ho1
      replace hj := Lib.hid hj
      replace hj1 := Lib.hid hj1
      cases oo with
      | ret v =>
        go_wp2_with fail
        refine hd.mono ?_
        rintro e w4 ⟨hk4, rfl, lk', hM4, hr4⟩
        have hb5 := hb4.trans ((hk4.below hb4.size hnlow.out).mono (Nat.le_refl _))
        have ho4 := ho3.kept hk4 hkF.out
        have hqr4 := hk4.cell_some hqr hnF
        have hsz4 : w3.heap.size < w4.heap.size := by have := hk4.size; simp at this; omega
        have hk9' : ∀ b, k9 = some b → n + 4 + Q.length ≤ b ∧ lk' ≠ some b := fun b e => ⟨(hk9 b e).1, fun e' => by
          rcases hr4 with rfl | hr4
          · exact (hk9 b e).2 e'
          · have h1 := hr4 b e'
            have h2 := ho3.lt b e
            omega⟩
        replace hk9' := Lib.hid hk9'
        have hM5 := hM4.alloc (.cells #[I 0, I 0] 52)
        have ho5 := ho4.alloc (.cells #[I 0, I 0] 52)
        have hb6 := hb5.alloc (o := .cells #[I 0, I 0] 52) hb5.size
        clear hk4 hnF hqr hk9 hb4 hM3 ho3 q0 q1 q2 hM4 ho4 hd hdo hb5
        try dsimp only at hact
        cases hres : resO op with
        | true =>
          rw [hres] at hqr4 hact
          replace hres := Lib.hid hres
          go_wp2_with (at_builtin; refine wpList_append_I rfl _ _ rfl rfl v (w4.heap.size + 1) 1 rfl (ho5.alloc (.cells #[I v] 3)) (by omega) (by rw [show w4.heap.size + 1 = (w4.alloc (.cells #[I 0, I 0] 52)).heap.size by simp]; exact cell_new1 _ _ _) ?_; intro v' k' w5 ho6 hk6 hr6; obtain ⟨a', c', rfl, _⟩ := ho6.form)
          go_roundg (l.length - (kk + 1))
          case measure => omega
          case rel =>
            have hfar : ∀ j, j < n + 4 + Q.length → n ≤ j → ¬ k9 = some j := fun j h1 _ e => by have := (hk9'.out j e).1; omega
            have hM6 := (hM5.alloc (.cells #[I v] 3)).kept hk6 hfar (fun b e e' => (hk9'.out b e').2 e)
            refine ⟨kk + 1, s', lk', k', out ++ [v], by omega, by omega, by go_num, rfl, by simpa using ho6, hM6, hG', fun b e => ?_, ?_, by simp; omega, Lib.hid (by simpa using hact)⟩
            · rcases hr6 with rfl | hr6
              · exact hk9'.out b e
              · have h1 : ((w4.alloc (.cells #[I 0, I 0] 52)).alloc (.cells #[I v] 3)).heap.size ≤ b := hr6 b e
                have h2 := (hM5.alloc (.cells #[I v] 3)).size
                exact ⟨by omega, fun e' => by have := (hM5.alloc (.cells #[I v] 3)).lt b e'; omega⟩
            · have hb7 := hb6.alloc (o := .cells #[I v] 3) hb6.size
              exact hb7.trans ((hk6.below hb7.size (fun k e => by have := (hk9'.out k e).1; omega)).mono (Nat.le_refl _))
        | false =>
          rw [hres] at hqr4 hact
          replace hres := Lib.hid hres
          go_wp2_with fail
          go_roundg (l.length - (kk + 1))
          case measure => omega
          case rel => exact ⟨kk + 1, s', lk', k9, out, by omega, by omega, by go_num, rfl, ho5, hM5, hG', hk9'.out, hb6, by omega, Lib.hid (by simpa using hact)⟩
      | stop fa er =>
        have hst := act_stops op s A B
        rw [hao.out] at hst
        by_cases he : er = 0
        · subst he
          have hfa : (fa != 0) = true := by rcases hst with h | h; simpa using h.2; cases h
          have hact2 : o' = out ∧ f = fa ∧ e0 = 0 := by simpa using hact
          obtain ⟨rfl, rfl, rfl⟩ := hact2
          clear hst hact
          go_wp2_with fail
          refine hd.mono ?_
          rintro e w4 ⟨hk4, rfl⟩
          have hb5 := hb4.trans ((hk4.below hb4.size hnlow.out).mono (Nat.le_refl _))
          have ho4 := ho3.kept hk4 hkF.out
          have ho5 := ho4.alloc (.cells #[I f, I 0] 52)
          have hb6 := hb5.alloc (o := .cells #[I f, I 0] 52) hb5.size
          replace hk9 := Lib.hid hk9
          clear hk4 hnF hqr hb4 hM3 ho3 q0 q1 q2 ho4 hd hdo hb5
          go_wp2
          go_ret3
          exact ⟨_, k9, rfl, ho5, hb6, fun b e => by have := hk9.out b e; omega⟩
        · have heb : (er != 0) = true := by simpa using he
          have hact2 : o' = [] ∧ f = 0 ∧ e0 = er := by simpa [he] using hact
          obtain ⟨rfl, rfl, rfl⟩ := hact2
          clear hst he hact
          go_wp2_with fail
          refine hd.mono ?_
          rintro e w4 ⟨hk4, rfl⟩
          have hb5 := hb4.trans ((hk4.below hb4.size hnlow.out).mono (Nat.le_refl _))
          have hb6 := hb5.alloc (o := .cells #[I fa, I e0] 52) hb5.size
          clear hk4 hnF hqr hk9 hb4 hM3 ho3 q0 q1 q2 hd hdo hb5
          go_wp2_with fail
          go_quiet (fail)
          go_wp2
          go_ret3
          exact ⟨_, none, rfl, OwnI.nil _, below_drewN hb6 _, fun _ e => (by cases e)⟩
    · have hltz : ¬ (kk : Int) < (l.length : Int) := by omega
      have hp2 := hp.out
      rw [List.drop_eq_nil_of_le (by omega)] at hp2
      obtain ⟨rfl, rfl, rfl⟩ := hp2
      go_wp2
      go_ret3
      exact ⟨_, k9, rfl, ho9, hbr, fun b e => by have := hk9 b e; omega⟩
end Go.Proofs.Bm
