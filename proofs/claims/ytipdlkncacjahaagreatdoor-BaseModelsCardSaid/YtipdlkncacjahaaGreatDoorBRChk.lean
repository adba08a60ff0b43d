/- CheckCalls of the reference. No condition but that the list reads. -/
import Derived.Test.YtipdlkncacjahaaGreatDoorBCallsB
set_option linter.unusedSimpArgs false
set_option linter.unusedVariables false
namespace Go.Proofs.Bm
open Go.RowKit Go.Maps

/-- A slice of strings that stands in a block. -/
def StrAt (w : World) (g : Nat) (l : List ByteArray) : Prop := ∀ (k : Nat) (nm : ByteArray), l[k]? = some nm → w.cell? ⟨g, k, none⟩ = some (.string nm)
theorem StrAt.below {w w' : World} {g : Nat} {l : List ByteArray} (h : StrAt w g l) (hb : Below w.heap.size w w') : StrAt w' g l :=
  fun k nm hk => (hb.cell (World.block_lt_of_cell? w _ (h k nm hk))).trans (h k nm hk)
theorem StrAt.new (w : World) (l : List ByteArray) (T : TypeId) : StrAt (w.alloc (.cells (l.map Value.string).toArray T)) w.heap.size l := by
  intro k nm hk
  unfold World.cell?
  rw [heap_alloc, if_pos rfl]
  simp [hk]

set_option maxHeartbeats 1000000 in
theorem r_has (g : Nat) (l : List ByteArray) (cap : Nat) (x : ByteArray) (w : World) (hn : l.length ≤ 1000) (hC : StrAt w g l) :
    Calls Tryz.prog 75 #[.slice (some ⟨g, 0, none⟩) l.length cap, .string x] w fun e w' => e = .returned (.bool (decide (x ∈ l))) ∧ w = w' := by
  obtain ⟨R, hR⟩ : ∃ R, R = decide (x ∈ l) := ⟨_, rfl⟩
  rw [← hR]
  replace hR := Lib.hid hR
  have hC' := Lib.hid hC
  clear hC
  go_enter Tryz.func75, Tryz.ntmps75
  go_wp2
  go_loopg [5] l.length (fun gg s5 wr => ∃ kk : Nat, kk ≤ l.length ∧ l.length - kk ≤ gg ∧ s5 = .int .i64 kk ∧ wr = w ∧ Hid (R = decide (x ∈ l.drop kk)))
  case atStart => exact ⟨0, Nat.zero_le _, Nat.le_refl _, rfl, rfl, Lib.hid (by rw [hR.out]; simp)⟩
  case round =>
    obtain ⟨kk, hkk, hg, rfl, rfl, A⟩ := hrel
    by_cases hlt : kk < l.length
    · have hltz : (kk : Int) < (l.length : Int) := by omega
      have hkz : (0 : Int) ≤ (kk : Int) := by omega
      have hr2 := A.out
      rw [List.drop_eq_getElem_cons hlt] at hr2
      have hz := List.getElem?_eq_getElem hlt
      generalize l[kk] = nm at hz hr2
      have h0 := hC'.out kk nm hz
      clear hz
      by_cases hq : nm = x
      · subst hq
        have hr3 : R = true := by rw [hr2]; simp
        replace hr3 := Lib.hid hr3
        clear hr2
        go_wp2
        go_ret
        rw [hr3.out]
        exact ⟨rfl, rfl⟩
      · have hs := str_ne hq
        have hr3 : R = decide (x ∈ l.drop (kk + 1)) := by rw [hr2]; simp [Ne.symm hq]
        replace hr3 := Lib.hid hr3
        clear hr2
        go_wp2
        go_roundg (l.length - (kk + 1))
        case measure => omega
        case rel => exact ⟨kk + 1, by omega, by omega, by go_num, rfl, hr3⟩
    · have hltz : ¬ (kk : Int) < (l.length : Int) := by omega
      have hr3 : R = false := by rw [A.out, List.drop_eq_nil_of_le (by omega)]; simp
      replace hr3 := Lib.hid hr3
      go_wp2
      go_ret
      rw [hr3.out]
      exact ⟨rfl, rfl⟩

def A2 : List ByteArray := [⟨#[102, 111, 114, 99, 101]⟩, ⟨#[115, 112, 97, 110]⟩, ⟨#[103, 99, 100]⟩, ⟨#[112, 111, 119, 101, 114]⟩]
def A0 : List ByteArray := [⟨#[99, 111, 117, 110, 116]⟩, ⟨#[115, 117, 109]⟩, ⟨#[114, 101, 118, 101, 114, 115, 101]⟩, ⟨#[119, 105, 112, 101]⟩, ⟨#[112, 111, 112]⟩, ⟨#[112, 101, 101, 107]⟩, ⟨#[108, 101, 97, 118, 101]⟩, ⟨#[102, 114, 111, 110, 116]⟩, ⟨#[115, 105, 122, 101]⟩, ⟨#[108, 111, 119]⟩, ⟨#[104, 105, 103, 104]⟩, ⟨#[117, 112]⟩]
/-- How many arguments a name has. -/
def argF (nm : ByteArray) : Nat := if nm ∈ A2 then 2 else if nm ∈ A0 then 0 else 1
theorem argF_of (c : Cls) (j : Nat) (nm : ByteArray) (ar : Nat) (re : Bool) (hj : (callsT c)[j]? = some (nm, ar, re)) : argF nm = ar := by
  have : ∀ c : Cls, (List.range (callsT c).length).all (fun k => decide (argF ((callsT c).getD k default).1 = ((callsT c).getD k default).2.1)) = true := by intro c; cases c <;> decide +kernel
  have h1 := List.all_eq_true.1 (this c) j (List.mem_range.2 (List.getElem?_eq_some_iff.1 hj).1)
  simpa [List.getD, hj] using h1
theorem r_args (nm : ByteArray) (w : World) : Calls Tryz.prog 74 #[.string nm] w fun e w' => e = .returned (I (argF nm)) ∧ Below w.heap.size w w' := by
  have s1 := StrAt.new w A2 9
  have b1 : Below w.heap.size w (w.alloc (.cells (A2.map Value.string).toArray 9)) := (Below.refl _ w).alloc (Nat.le_refl _) _
  have s2 := StrAt.new (w.alloc (.cells (A2.map Value.string).toArray 9)) A0 9
  have b2 := b1.alloc (o := .cells (A0.map Value.string).toArray 9) b1.size
  have c1 := r_has w.heap.size A2 4 nm _ (by decide) s1
  have c2 := r_has (w.alloc (.cells (A2.map Value.string).toArray 9)).heap.size A0 12 nm _ (by decide) s2
  simp only [World.size_alloc] at c2
  by_cases h1 : nm ∈ A2
  · rw [show argF nm = 2 by simp [argF, h1]]
    rw [show decide (nm ∈ A2) = true by simpa using h1] at c1
    replace c1 := Lib.hid c1
    replace c2 := Lib.hid c2
    replace b1 := Lib.hid b1
    clear h1 s1 s2 b2
    go_enter Tryz.func74, Tryz.ntmps74
    go_wp2_with fail
    refine c1.out.mono ?_
    rintro e w' ⟨rfl, rfl⟩
    go_wp2
    go_ret
    exact ⟨rfl, b1.out⟩
  · rw [show decide (nm ∈ A2) = false by simpa using h1] at c1
    by_cases h2 : nm ∈ A0
    · rw [show argF nm = 0 by simp [argF, h1, h2]]
      rw [show decide (nm ∈ A0) = true by simpa using h2] at c2
      replace c1 := Lib.hid c1
      replace c2 := Lib.hid c2
      replace b2 := Lib.hid b2
      clear h1 h2 s1 s2 b1
      go_enter Tryz.func74, Tryz.ntmps74
      go_wp2_with fail
      refine c1.out.mono ?_
      rintro e w' ⟨rfl, rfl⟩
      go_wp2_with fail
      refine c2.out.mono ?_
      rintro e w' ⟨rfl, rfl⟩
      go_wp2
      go_ret
      exact ⟨rfl, b2.out⟩
    · rw [show argF nm = 1 by simp [argF, h1, h2]]
      rw [show decide (nm ∈ A0) = false by simpa using h2] at c2
      replace c1 := Lib.hid c1
      replace c2 := Lib.hid c2
      replace b2 := Lib.hid b2
      clear h1 h2 s1 s2 b1
      go_enter Tryz.func74, Tryz.ntmps74
      go_wp2_with fail
      refine c1.out.mono ?_
      rintro e w' ⟨rfl, rfl⟩
      go_wp2_with fail
      refine c2.out.mono ?_
      rintro e w' ⟨rfl, rfl⟩
      go_wp2
      go_ret
      exact ⟨rfl, b2.out⟩

/-- calls, at a class. -/
def RCPost (c : Cls) (w : World) (e : Ending) (w' : World) : Prop := ∃ g : Nat, e = .returned (.slice (some ⟨g, 0, none⟩) (namesC c).length (namesC c).length) ∧ Below w.heap.size w w' ∧ StrAt w' g (namesC c)
theorem rcalls_ints (w : World) : Calls Tryz.prog 73 #[.string ⟨#[73, 78, 84, 83]⟩] w (RCPost .ints w) := by
  go_enter Tryz.func73, Tryz.ntmps73
  go_wp2
  go_ret
  exact ⟨w.heap.size, rfl, (Below.refl _ w).alloc (Nat.le_refl _) _, StrAt.new w (namesC .ints) 9⟩
theorem rcalls_sorted (w : World) : Calls Tryz.prog 73 #[.string ⟨#[83, 79, 82, 84, 69, 68]⟩] w (RCPost .sorted w) := by
  go_enter Tryz.func73, Tryz.ntmps73
  go_wp2
  go_ret
  exact ⟨w.heap.size, rfl, (Below.refl _ w).alloc (Nat.le_refl _) _, StrAt.new w (namesC .sorted) 9⟩
theorem rcalls_stack (w : World) : Calls Tryz.prog 73 #[.string ⟨#[83, 84, 65, 67, 75]⟩] w (RCPost .stack w) := by
  go_enter Tryz.func73, Tryz.ntmps73
  go_wp2
  go_ret
  exact ⟨w.heap.size, rfl, (Below.refl _ w).alloc (Nat.le_refl _) _, StrAt.new w (namesC .stack) 9⟩
theorem rcalls_queue (w : World) : Calls Tryz.prog 73 #[.string ⟨#[81, 85, 69, 85, 69]⟩] w (RCPost .queue w) := by
  go_enter Tryz.func73, Tryz.ntmps73
  go_wp2
  go_ret
  exact ⟨w.heap.size, rfl, (Below.refl _ w).alloc (Nat.le_refl _) _, StrAt.new w (namesC .queue) 9⟩
theorem rcalls_table (w : World) : Calls Tryz.prog 73 #[.string ⟨#[84, 65, 66, 76, 69]⟩] w (RCPost .table w) := by
  go_enter Tryz.func73, Tryz.ntmps73
  go_wp2
  go_ret
  exact ⟨w.heap.size, rfl, (Below.refl _ w).alloc (Nat.le_refl _) _, StrAt.new w (namesC .table) 9⟩
theorem rcalls_set (w : World) : Calls Tryz.prog 73 #[.string ⟨#[83, 69, 84]⟩] w (RCPost .set w) := by
  go_enter Tryz.func73, Tryz.ntmps73
  go_wp2
  go_ret
  exact ⟨w.heap.size, rfl, (Below.refl _ w).alloc (Nat.le_refl _) _, StrAt.new w (namesC .set) 9⟩
theorem rcalls_counter (w : World) : Calls Tryz.prog 73 #[.string ⟨#[67, 79, 85, 78, 84, 69, 82]⟩] w (RCPost .counter w) := by
  go_enter Tryz.func73, Tryz.ntmps73
  go_wp2
  go_ret
  exact ⟨w.heap.size, rfl, (Below.refl _ w).alloc (Nat.le_refl _) _, StrAt.new w (namesC .counter) 9⟩
theorem rcalls_range (w : World) : Calls Tryz.prog 73 #[.string ⟨#[82, 65, 78, 71, 69]⟩] w (RCPost .range w) := by
  go_enter Tryz.func73, Tryz.ntmps73
  go_wp2
  go_ret
  exact ⟨w.heap.size, rfl, (Below.refl _ w).alloc (Nat.le_refl _) _, StrAt.new w (namesC .range) 9⟩
theorem rcalls_arith (w : World) : Calls Tryz.prog 73 #[.string ⟨#[65, 82, 73, 84, 72]⟩] w (RCPost .arith w) := by
  go_enter Tryz.func73, Tryz.ntmps73
  go_wp2
  go_ret
  exact ⟨w.heap.size, rfl, (Below.refl _ w).alloc (Nat.le_refl _) _, StrAt.new w (namesC .arith) 9⟩
theorem rcalls_cls (c : Cls) (w : World) : Calls Tryz.prog 73 #[.string (clsName c)] w (RCPost c w) := by
  cases c
  · exact rcalls_ints w
  · exact rcalls_sorted w
  · exact rcalls_stack w
  · exact rcalls_queue w
  · exact rcalls_table w
  · exact rcalls_set w
  · exact rcalls_counter w
  · exact rcalls_range w
  · exact rcalls_arith w
theorem rcalls_none (cls : ByteArray) (hcls : ∀ c, cls ≠ clsName c) (w : World) : Calls Tryz.prog 73 #[.string cls] w fun e w' => e = .returned (.slice none 0 0) ∧ w = w' := by
  have hints : (cls.toList == [73, 78, 84, 83]) = false := by have := str_ne (hcls .ints); rwa [Go.ByteArray.toList_eq (clsName .ints)] at this
  have hsorted : (cls.toList == [83, 79, 82, 84, 69, 68]) = false := by have := str_ne (hcls .sorted); rwa [Go.ByteArray.toList_eq (clsName .sorted)] at this
  have hstack : (cls.toList == [83, 84, 65, 67, 75]) = false := by have := str_ne (hcls .stack); rwa [Go.ByteArray.toList_eq (clsName .stack)] at this
  have hqueue : (cls.toList == [81, 85, 69, 85, 69]) = false := by have := str_ne (hcls .queue); rwa [Go.ByteArray.toList_eq (clsName .queue)] at this
  have htable : (cls.toList == [84, 65, 66, 76, 69]) = false := by have := str_ne (hcls .table); rwa [Go.ByteArray.toList_eq (clsName .table)] at this
  have hset : (cls.toList == [83, 69, 84]) = false := by have := str_ne (hcls .set); rwa [Go.ByteArray.toList_eq (clsName .set)] at this
  have hcounter : (cls.toList == [67, 79, 85, 78, 84, 69, 82]) = false := by have := str_ne (hcls .counter); rwa [Go.ByteArray.toList_eq (clsName .counter)] at this
  have hrange : (cls.toList == [82, 65, 78, 71, 69]) = false := by have := str_ne (hcls .range); rwa [Go.ByteArray.toList_eq (clsName .range)] at this
  have harith : (cls.toList == [65, 82, 73, 84, 72]) = false := by have := str_ne (hcls .arith); rwa [Go.ByteArray.toList_eq (clsName .arith)] at this
  go_enter Tryz.func73, Tryz.ntmps73
  go_wp2
  go_ret
  exact ⟨rfl, rfl⟩

/-- text: is it empty? -/
def TxPost (b : Bool) (w : World) (e : Ending) (w' : World) : Prop := ∃ t : ByteArray, e = .returned (.string t) ∧ t.toList.isEmpty = b ∧ w = w'
set_option maxRecDepth 100000 in
set_option maxHeartbeats 1000000 in
theorem text_LINK (w : World) : Calls Tryz.prog 72 #[.string ⟨#[76, 73, 78, 75]⟩] w (TxPost false w) := by
  go_enter Tryz.func72, Tryz.ntmps72
  go_wp2
  go_ret
  exact ⟨_, rfl, by rw [Go.ByteArray.toList_eq]; rfl, rfl⟩
set_option maxRecDepth 100000 in
set_option maxHeartbeats 1000000 in
theorem text_INTS (w : World) : Calls Tryz.prog 72 #[.string ⟨#[73, 78, 84, 83]⟩] w (TxPost false w) := by
  go_enter Tryz.func72, Tryz.ntmps72
  go_wp2
  go_ret
  exact ⟨_, rfl, by rw [Go.ByteArray.toList_eq]; rfl, rfl⟩
set_option maxRecDepth 100000 in
set_option maxHeartbeats 1000000 in
theorem text_SORTED (w : World) : Calls Tryz.prog 72 #[.string ⟨#[83, 79, 82, 84, 69, 68]⟩] w (TxPost false w) := by
  go_enter Tryz.func72, Tryz.ntmps72
  go_wp2
  go_ret
  exact ⟨_, rfl, by rw [Go.ByteArray.toList_eq]; rfl, rfl⟩
set_option maxRecDepth 100000 in
set_option maxHeartbeats 1000000 in
theorem text_NODE (w : World) : Calls Tryz.prog 72 #[.string ⟨#[78, 79, 68, 69]⟩] w (TxPost false w) := by
  go_enter Tryz.func72, Tryz.ntmps72
  go_wp2
  go_ret
  exact ⟨_, rfl, by rw [Go.ByteArray.toList_eq]; rfl, rfl⟩
set_option maxRecDepth 100000 in
set_option maxHeartbeats 1000000 in
theorem text_STACK (w : World) : Calls Tryz.prog 72 #[.string ⟨#[83, 84, 65, 67, 75]⟩] w (TxPost false w) := by
  go_enter Tryz.func72, Tryz.ntmps72
  go_wp2
  go_ret
  exact ⟨_, rfl, by rw [Go.ByteArray.toList_eq]; rfl, rfl⟩
set_option maxRecDepth 100000 in
set_option maxHeartbeats 1000000 in
theorem text_QUEUE (w : World) : Calls Tryz.prog 72 #[.string ⟨#[81, 85, 69, 85, 69]⟩] w (TxPost false w) := by
  go_enter Tryz.func72, Tryz.ntmps72
  go_wp2
  go_ret
  exact ⟨_, rfl, by rw [Go.ByteArray.toList_eq]; rfl, rfl⟩
set_option maxRecDepth 100000 in
set_option maxHeartbeats 1000000 in
theorem text_ENTRY (w : World) : Calls Tryz.prog 72 #[.string ⟨#[69, 78, 84, 82, 89]⟩] w (TxPost false w) := by
  go_enter Tryz.func72, Tryz.ntmps72
  go_wp2
  go_ret
  exact ⟨_, rfl, by rw [Go.ByteArray.toList_eq]; rfl, rfl⟩
set_option maxRecDepth 100000 in
set_option maxHeartbeats 1000000 in
theorem text_TABLE (w : World) : Calls Tryz.prog 72 #[.string ⟨#[84, 65, 66, 76, 69]⟩] w (TxPost false w) := by
  go_enter Tryz.func72, Tryz.ntmps72
  go_wp2
  go_ret
  exact ⟨_, rfl, by rw [Go.ByteArray.toList_eq]; rfl, rfl⟩
set_option maxRecDepth 100000 in
set_option maxHeartbeats 1000000 in
theorem text_SET (w : World) : Calls Tryz.prog 72 #[.string ⟨#[83, 69, 84]⟩] w (TxPost false w) := by
  go_enter Tryz.func72, Tryz.ntmps72
  go_wp2
  go_ret
  exact ⟨_, rfl, by rw [Go.ByteArray.toList_eq]; rfl, rfl⟩
set_option maxRecDepth 100000 in
set_option maxHeartbeats 1000000 in
theorem text_COUNTER (w : World) : Calls Tryz.prog 72 #[.string ⟨#[67, 79, 85, 78, 84, 69, 82]⟩] w (TxPost false w) := by
  go_enter Tryz.func72, Tryz.ntmps72
  go_wp2
  go_ret
  exact ⟨_, rfl, by rw [Go.ByteArray.toList_eq]; rfl, rfl⟩
set_option maxRecDepth 100000 in
set_option maxHeartbeats 1000000 in
theorem text_RANGE (w : World) : Calls Tryz.prog 72 #[.string ⟨#[82, 65, 78, 71, 69]⟩] w (TxPost false w) := by
  go_enter Tryz.func72, Tryz.ntmps72
  go_wp2
  go_ret
  exact ⟨_, rfl, by rw [Go.ByteArray.toList_eq]; rfl, rfl⟩
set_option maxRecDepth 100000 in
set_option maxHeartbeats 1000000 in
theorem text_ARITH (w : World) : Calls Tryz.prog 72 #[.string ⟨#[65, 82, 73, 84, 72]⟩] w (TxPost false w) := by
  go_enter Tryz.func72, Tryz.ntmps72
  go_wp2
  go_ret
  exact ⟨_, rfl, by rw [Go.ByteArray.toList_eq]; rfl, rfl⟩
theorem text_some (k : Nat) (cls : ByteArray) (hN : N12[k]? = some cls) (w : World) : Calls Tryz.prog 72 #[.string cls] w (TxPost false w) := by
  have hlt : k < 12 := (List.getElem?_eq_some_iff.1 hN).1
  match k, hlt, hN with
  | 0, _, hk => cases hk; exact text_LINK w
  | 1, _, hk => cases hk; exact text_INTS w
  | 2, _, hk => cases hk; exact text_SORTED w
  | 3, _, hk => cases hk; exact text_NODE w
  | 4, _, hk => cases hk; exact text_STACK w
  | 5, _, hk => cases hk; exact text_QUEUE w
  | 6, _, hk => cases hk; exact text_ENTRY w
  | 7, _, hk => cases hk; exact text_TABLE w
  | 8, _, hk => cases hk; exact text_SET w
  | 9, _, hk => cases hk; exact text_COUNTER w
  | 10, _, hk => cases hk; exact text_RANGE w
  | 11, _, hk => cases hk; exact text_ARITH w
theorem text_none (cls : ByteArray) (h : cls ∉ N12) (w : World) : Calls Tryz.prog 72 #[.string cls] w (TxPost true w) := by
  have hne : ∀ (k : Nat) (nm : ByteArray), N12[k]? = some nm → (cls.toList == nm.data.toList) = false := fun k nm hk => by
    have := str_ne (a := cls) (b := nm) (fun e => h (e ▸ List.mem_of_getElem? hk))
    rwa [Go.ByteArray.toList_eq nm] at this
  have h0 : (cls.toList == [76, 73, 78, 75]) = false := hne 0 _ rfl
  have h1 : (cls.toList == [73, 78, 84, 83]) = false := hne 1 _ rfl
  have h2 : (cls.toList == [83, 79, 82, 84, 69, 68]) = false := hne 2 _ rfl
  have h3 : (cls.toList == [78, 79, 68, 69]) = false := hne 3 _ rfl
  have h4 : (cls.toList == [83, 84, 65, 67, 75]) = false := hne 4 _ rfl
  have h5 : (cls.toList == [81, 85, 69, 85, 69]) = false := hne 5 _ rfl
  have h6 : (cls.toList == [69, 78, 84, 82, 89]) = false := hne 6 _ rfl
  have h7 : (cls.toList == [84, 65, 66, 76, 69]) = false := hne 7 _ rfl
  have h8 : (cls.toList == [83, 69, 84]) = false := hne 8 _ rfl
  have h9 : (cls.toList == [67, 79, 85, 78, 84, 69, 82]) = false := hne 9 _ rfl
  have h10 : (cls.toList == [82, 65, 78, 71, 69]) = false := hne 10 _ rfl
  have h11 : (cls.toList == [65, 82, 73, 84, 72]) = false := hne 11 _ rfl
  clear hne h
  go_enter Tryz.func72, Tryz.ntmps72
  go_wp2
  go_ret
  exact ⟨_, rfl, by rw [Go.ByteArray.toList_eq]; rfl, rfl⟩
end Go.Proofs.Bm

namespace Go.Proofs.Bm
open Go.RowKit Go.Maps

theorem rin_yes (n : Int) (h : inR n) (w : World) : Calls Tryz.prog 76 #[I n, I (-1099511627776), I 1099511627776] w fun e w' => e = .returned (.bool true) ∧ w = w' := by
  have := r_in n (-1099511627776) 1099511627776 w
  rwa [show decide (-1099511627776 ≤ n ∧ n ≤ 1099511627776) = true by simpa [inR] using h] at this
theorem rin_no (n : Int) (h : ¬ inR n) (w : World) : Calls Tryz.prog 76 #[I n, I (-1099511627776), I 1099511627776] w fun e w' => e = .returned (.bool false) ∧ w = w' := by
  have := r_in n (-1099511627776) 1099511627776 w
  rwa [show decide (-1099511627776 ≤ n ∧ n ≤ 1099511627776) = false by simpa [inR] using h] at this
theorem rcheck_name (cls : ByteArray) (h : cls ∉ N12) (a : Option Addr) (n cap : Nat) (w : World) : Calls Tryz.prog 18 #[.string cls, .slice a n cap] w (ErrPost 4 w) := by
  go_enter Tryz.func18, Tryz.ntmps18
  go_wp2_with fail
  refine (text_none cls h _).mono ?_
  rintro e w1 ⟨t, rfl, ht, rfl⟩
  go_wp2
  go_ret
  exact ⟨rfl, Below.refl _ _⟩
theorem rcheck_arg (k : Nat) (cls : ByteArray) (hN : N12[k]? = some cls) (hcls : ∀ c, cls ≠ clsName c) (a : Option Addr) (n cap : Nat) (w : World) : Calls Tryz.prog 18 #[.string cls, .slice a n cap] w (ErrPost 1 w) := by
  go_enter Tryz.func18, Tryz.ntmps18
  go_wp2_with fail
  refine (text_some k cls hN _).mono ?_
  rintro e w1 ⟨t, rfl, ht, rfl⟩
  go_wp2_with fail
  refine (rcalls_none cls hcls _).mono ?_
  rintro e w1 ⟨rfl, rfl⟩
  go_wp2
  go_ret
  exact ⟨rfl, Below.refl _ _⟩
theorem rcheck_limit (c : Cls) (a : Option Addr) (n cap : Nat) (hn : 40 < n) (w : World) : Calls Tryz.prog 18 #[.string (clsName c), .slice a n cap] w (ErrPost 3 w) := by
  obtain ⟨k, hk, hN⟩ := cls_N12 c
  have hlen : (1 : Int) ≤ ((namesC c).length : Int) := by cases c <;> decide
  have hlen0 : (((namesC c).length : Int) == 0) = false := by cases c <;> decide
  have hnz : (40 : Int) < (n : Int) := by omega
  replace hk := Lib.hid hk
  replace hN := Lib.hid hN
  go_enter Tryz.func18, Tryz.ntmps18
  go_wp2_with fail
  refine (text_some k _ hN.out _).mono ?_
  rintro e w1 ⟨t, rfl, ht, rfl⟩
  go_wp2_with fail
  refine (rcalls_cls c _).mono ?_
  rintro e w2 ⟨g, rfl, hb2, _⟩
  go_wp2
  go_ret
  exact ⟨rfl, hb2⟩

set_option maxHeartbeats 4000000 in
set_option maxRecDepth 100000 in
theorem rcheck_loop (c : Cls) (a : Option Addr) (cap : Nat) (l : List (ByteArray × Int × Int)) (R : Int) (hR : Chk c l R) (w : World) (hL : LC w a l) (hn : l.length ≤ 40) : Calls Tryz.prog 18 #[.string (clsName c), .slice a l.length cap] w (ErrPost R w) := by
  obtain ⟨k, hk, hN⟩ := cls_N12 c
  have hlen : (1 : Int) ≤ ((namesC c).length : Int) := by cases c <;> decide
  have hlen0 : (((namesC c).length : Int) == 0) = false := by cases c <;> decide
  have hnn : (namesC c).length ≤ 1000 := by cases c <;> decide
  have hnz : ¬ (40 : Int) < (l.length : Int) := by omega
  replace hk := Lib.hid hk
  replace hN := Lib.hid hN
  replace hL := Lib.hid hL
  replace hR := Lib.hid hR
  go_enter Tryz.func18, Tryz.ntmps18
  go_wp2_with fail
  refine (text_some k _ hN.out _).mono ?_
  rintro e w1 ⟨t, rfl, ht, rfl⟩
  go_wp2_with fail
  refine (rcalls_cls c _).mono ?_
  rintro e w2 ⟨g, rfl, hB, hS⟩
  have hS' := Lib.hid hS
  clear hS
  go_wp2_with fail
  go_loopg [6] l.length (fun gg s6 wr => ∃ kk : Nat, kk ≤ l.length ∧ l.length - kk ≤ gg ∧ s6 = I kk ∧ Below w2.heap.size w2 wr ∧ Hid (Chk c (l.drop kk) R))
  case atStart => exact ⟨0, by omega, by omega, rfl, Below.refl _ _, Lib.hid (by simpa using hR.out)⟩
  case round =>
    obtain ⟨kk, hkk, hg, rfl, hbr, hr⟩ := hrel
    by_cases hlt : kk < l.length
    · have hltz : (kk : Int) < (l.length : Int) := by omega
      have hkz : (0 : Int) ≤ (kk : Int) := by omega
      have hr2 := hr.out
      rw [List.drop_eq_getElem_cons hlt] at hr2
      have hz := List.getElem?_eq_getElem hlt
      generalize l[kk] = x at hz hr2
      obtain ⟨nm, A, B⟩ := x
      obtain ⟨bb, off, rfl, h0, h1, h2⟩ := ((hL.out.below hB).below hbr).cell kk nm A B hz
      clear hz
      go_wp2_with fail
      refine (r_args nm _).mono ?_
      rintro e w3 ⟨rfl, hb3⟩
      have q0 : w3.cell? ⟨wr.heap.size, 0, none⟩ = some (.string nm) := (hb3.cell (by simp)).trans (by unfold World.cell?; rw [heap_alloc, if_pos rfl]; rfl)
      have q1 : w3.cell? ⟨wr.heap.size, 1, none⟩ = some (I A) := (hb3.cell (by simp)).trans (by unfold World.cell?; rw [heap_alloc, if_pos rfl]; rfl)
      have q2 : w3.cell? ⟨wr.heap.size, 2, none⟩ = some (I B) := (hb3.cell (by simp)).trans (by unfold World.cell?; rw [heap_alloc, if_pos rfl]; rfl)
      have hb4 : Below w2.heap.size w2 w3 := (hbr.alloc hbr.size _).trans (hb3.mono (by have := hbr.size; simp; omega))
      have hh := r_has g (namesC c) (namesC c).length nm w3 hnn (hS'.out.below hb4)
      clear hb3 h0 h1 h2
      by_cases hnm : ∃ (j ar : Nat) (re : Bool), (callsT c)[j]? = some (nm, ar, re)
      · obtain ⟨j, ar, re, hj⟩ := hnm
        have hiff := okC_iff c j nm ar re hj A B
        replace hiff := Lib.hid hiff
        rw [argF_of c j nm ar re hj]
        rw [show decide (nm ∈ namesC c) = true by simp only [decide_eq_true_eq]; exact List.mem_map.2 ⟨_, List.mem_of_getElem? hj, rfl⟩] at hh
        replace hj := Lib.hid hj
        go_wp2_with fail
        refine hh.mono ?_
        rintro e w' ⟨rfl, rfl⟩
        by_cases hA : inR A
        · by_cases hB' : inR B
          · have hBR := hB'
            by_cases ha1 : ar < 1
            · have hz1 : (ar : Int) < 1 := by omega
              have hz2 : (ar : Int) < 2 := by omega
              by_cases hB0 : B = 0
              · subst hB0
                by_cases hA0 : A = 0
                · subst hA0
                  have hok : okC c (nm, 0, 0) := hiff.out.2 ⟨hA, hBR, fun _ => rfl, fun _ => rfl⟩
                  have hr3 := Lib.hid (hr2.tail hok)
                  clear hr2 hok
                  go_wp2_with fail
                  refine (rin_yes 0 hA _).mono ?_
                  rintro e w' ⟨rfl, rfl⟩
                  go_wp2_with fail
                  refine (rin_yes 0 hBR _).mono ?_
                  rintro e w' ⟨rfl, rfl⟩
                  go_wp2_with fail
                  go_roundg (l.length - (kk + 1))
                  case measure => omega
                  case rel => exact ⟨kk + 1, by omega, by omega, by go_num, hb4, hr3⟩
                · have hAb : (A != 0) = true := by simpa using hA0
                  have hR1 := hr2.bad (fun e => hA0 ((hiff.out.1 e).2.2.1 ha1))
                  replace hR1 := Lib.hid hR1
                  clear hr2
                  go_wp2_with fail
                  refine (rin_yes A hA _).mono ?_
                  rintro e w' ⟨rfl, rfl⟩
                  go_wp2_with fail
                  refine (rin_yes 0 hBR _).mono ?_
                  rintro e w' ⟨rfl, rfl⟩
                  go_wp2
                  go_ret
                  rw [hR1.out]
                  exact ⟨rfl, hB.trans (hb4.mono hB.size)⟩
              · have hBb : (B != 0) = true := by simpa using hB0
                have hR1 := hr2.bad (fun e => hB0 ((hiff.out.1 e).2.2.2 (by omega)))
                replace hR1 := Lib.hid hR1
                clear hr2
                go_wp2_with fail
                refine (rin_yes A hA _).mono ?_
                rintro e w' ⟨rfl, rfl⟩
                go_wp2_with fail
                refine (rin_yes B hBR _).mono ?_
                rintro e w' ⟨rfl, rfl⟩
                go_wp2
                go_ret
                rw [hR1.out]
                exact ⟨rfl, hB.trans (hb4.mono hB.size)⟩
            · have hz1 : ¬ (ar : Int) < 1 := by omega
              have hd1 : decide ((ar : Int) < 1) = false := by simpa using hz1
              by_cases ha2 : ar < 2
              · have hz2 : (ar : Int) < 2 := by omega
                by_cases hB0 : B = 0
                · subst hB0
                  have hok : okC c (nm, A, 0) := hiff.out.2 ⟨hA, hBR, fun e => absurd e ha1, fun _ => rfl⟩
                  have hr3 := Lib.hid (hr2.tail hok)
                  clear hr2 hok
                  go_wp2_with fail
                  refine (rin_yes A hA _).mono ?_
                  rintro e w' ⟨rfl, rfl⟩
                  go_wp2_with fail
                  refine (rin_yes 0 hBR _).mono ?_
                  rintro e w' ⟨rfl, rfl⟩
                  go_wp2_with fail
                  go_roundg (l.length - (kk + 1))
                  case measure => omega
                  case rel => exact ⟨kk + 1, by omega, by omega, by go_num, hb4, hr3⟩
                · have hBb : (B != 0) = true := by simpa using hB0
                  have hR1 := hr2.bad (fun e => hB0 ((hiff.out.1 e).2.2.2 ha2))
                  replace hR1 := Lib.hid hR1
                  clear hr2
                  go_wp2_with fail
                  refine (rin_yes A hA _).mono ?_
                  rintro e w' ⟨rfl, rfl⟩
                  go_wp2_with fail
                  refine (rin_yes B hBR _).mono ?_
                  rintro e w' ⟨rfl, rfl⟩
                  go_wp2
                  go_ret
                  rw [hR1.out]
                  exact ⟨rfl, hB.trans (hb4.mono hB.size)⟩
              · have hz2 : ¬ (ar : Int) < 2 := by omega
                have hd2 : decide ((ar : Int) < 2) = false := by simpa using hz2
                have hok : okC c (nm, A, B) := hiff.out.2 ⟨hA, hBR, fun e => absurd e ha1, fun e => absurd e ha2⟩
                have hr3 := Lib.hid (hr2.tail hok)
                clear hr2 hok
                go_wp2_with fail
                refine (rin_yes A hA _).mono ?_
                rintro e w' ⟨rfl, rfl⟩
                go_wp2_with fail
                refine (rin_yes B hBR _).mono ?_
                rintro e w' ⟨rfl, rfl⟩
                go_wp2_with fail
                go_roundg (l.length - (kk + 1))
                case measure => omega
                case rel => exact ⟨kk + 1, by omega, by omega, by go_num, hb4, hr3⟩
          · have hR1 := hr2.bad (fun e => hB' (hiff.out.1 e).2.1)
            replace hR1 := Lib.hid hR1
            clear hr2
            go_wp2_with fail
            refine (rin_yes A hA _).mono ?_
            rintro e w' ⟨rfl, rfl⟩
            go_wp2_with fail
            refine (rin_no B hB' _).mono ?_
            rintro e w' ⟨rfl, rfl⟩
            go_wp2
            go_ret
            rw [hR1.out]
            exact ⟨rfl, hB.trans (hb4.mono hB.size)⟩
        · have hR1 := hr2.bad (fun e => hA (hiff.out.1 e).1)
          replace hR1 := Lib.hid hR1
          clear hr2
          go_wp2_with fail
          refine (rin_no A hA _).mono ?_
          rintro e w' ⟨rfl, rfl⟩
          go_wp2
          go_ret
          rw [hR1.out]
          exact ⟨rfl, hB.trans (hb4.mono hB.size)⟩
      · have hR1 := hr2.bad (fun ⟨j, ar, re, e, _⟩ => hnm ⟨j, ar, re, e⟩)
        replace hR1 := Lib.hid hR1
        rw [show decide (nm ∈ namesC c) = false by
          simp only [decide_eq_false_iff_not]
          intro hm
          obtain ⟨p, hp, e⟩ := List.mem_map.1 hm
          obtain ⟨j, hj⟩ := List.mem_iff_getElem?.1 hp
          exact hnm ⟨j, p.2.1, p.2.2, by rw [hj, ← e]⟩] at hh
        clear hr2
        go_wp2_with fail
        refine hh.mono ?_
        rintro e w' ⟨rfl, rfl⟩
        go_wp2
        go_ret
        rw [hR1.out]
        exact ⟨rfl, hB.trans (hb4.mono hB.size)⟩
    · have hltz : ¬ (kk : Int) < (l.length : Int) := by omega
      have hr2 := hr.out
      rw [List.drop_eq_nil_of_le (by omega)] at hr2
      have hR0 := Lib.hid hr2.nil
      clear hr2
      go_wp2
      go_ret
      rw [hR0.out]
      exact ⟨rfl, hB.trans (hbr.mono hB.size)⟩
end Go.Proofs.Bm
