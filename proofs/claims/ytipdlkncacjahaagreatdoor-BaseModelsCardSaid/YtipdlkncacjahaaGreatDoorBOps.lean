/- What each deed does, said in plain Lean, and done over a model that has it. No condition but the model's. -/
import Derived.Test.YtipdlkncacjahaaGreatDoorBDQ
import Derived.Test.YtipdlkncacjahaaGreatDoorBD7
import Derived.Test.YtipdlkncacjahaaGreatDoorBD9
set_option linter.unusedSimpArgs false
set_option linter.unusedVariables false
namespace Go.Proofs.Bm
open Go.RowKit Go.Maps

/-- The deeds, by what they do. -/
inductive Op where
  | count | has | sum | push | extend | reverse | item | remove | wipe | ins | nothing
  | lay | leave | peek | front | force | known | value | lose | many | join
  | lows | highs | up | add | span | contains | width | total | gcd | power | fact | tries

/-- What a key reads as. -/
def valD (D : DataW Unit) (x : Int) : Int := match D.atKey (K1 x) (.lit (K1 0)) with
  | .lit (.int _ c) => c
  | _ => 0

/-- What a deed does. -/
def act : Op → St → Int → Int → St × Out
  | .count, s, _, _ => (s, .ret s.l.length)
  | .has, s, a, _ => (s, .ret (bi (decide (a ∈ s.l))))
  | .sum, s, _, _ => (s, sumO 0 s.l)
  | .push, s, a, _ => ({ s with l := a :: s.l }, .ret 0)
  | .extend, s, a, _ => ({ s with l := s.l ++ [a] }, .ret 0)
  | .reverse, s, _, _ => ({ s with l := s.l.reverse }, .ret 0)
  | .item, s, a, _ => (s, match if 1 ≤ a then s.l[(a - 1).toNat]? else none with | some z => .ret z | none => .stop 1 0)
  | .remove, s, a, _ => ({ s with l := s.l.erase a }, .ret 0)
  | .wipe, s, _, _ => ({ s with l := [] }, .ret 0)
  | .ins, s, a, _ => ({ s with l := insL a s.l }, .ret 0)
  | .nothing, s, _, _ => (s, .ret 0)
  | .lay, s, a, _ => if 0 ≤ a then ({ s with l := a :: s.l }, .ret 0) else (s, .stop 1 0)
  | .leave, s, _, _ => match s.l with | [] => (s, .stop 1 0) | _ :: r => ({ s with l := r }, .ret 0)
  | .peek, s, _, _ => (s, match s.l with | [] => .ret 0 | z :: _ => .ret z)
  | .front, s, _, _ => (s, match s.l with | [] => .stop 1 0 | z :: _ => .ret z)
  | .force, s, a, b => ({ s with D := s.D.put (K1 a) (.lit (K1 b)) }, .ret 0)
  | .known, s, a, _ => (s, .ret (bi (Maps.has s.D (K1 a))))
  | .value, s, a, _ => (s, .ret (valD s.D a))
  | .lose, s, a, _ => ({ s with D := s.D.del (K1 a) }, .ret 0)
  | .many, s, _, _ => (s, .ret (Maps.size s.D))
  | .join, s, a, _ => ({ s with l := if a ∈ s.l then s.l else a :: s.l }, .ret 0)
  | .lows, s, _, _ => (s, .ret s.low)
  | .highs, s, _, _ => (s, .ret s.high)
  | .up, s, _, _ => if inR (s.low + 1) then ({ s with low := s.low + 1 }, .ret 0) else (s, .stop 7 0)
  | .add, s, a, _ => if 0 ≤ a then (if inR (s.low + a) then ({ s with low := s.low + a }, .ret 0) else (s, .stop 7 0)) else (s, .stop 1 0)
  | .span, s, a, b => if inR (b + 1) then (if a ≤ b + 1 then ({ s with low := a, high := b }, .ret 0) else (s, .stop 1 0)) else (s, .stop 7 0)
  | .contains, s, a, _ => (s, .ret (bi (decide (s.low ≤ a ∧ a ≤ s.high))))
  | .width, s, _, _ => (s, if inR (s.high - s.low) ∧ inR (s.high - s.low + 1) then .ret (s.high - s.low + 1) else .stop 7 0)
  | .total, s, _, _ => (s, if inR (s.high - s.low) ∧ inR (s.high - s.low + 1) then totO s.low s.high ((s.high - s.low).toNat + 2) s.low 0 else .stop 7 0)
  | .gcd, s, a, b => (s, if 0 ≤ a ∧ 0 ≤ b then .ret (Nat.gcd a.toNat b.toNat) else .stop 1 0)
  | .power, s, a, b => (s, if 0 ≤ b then powO a b (b.toNat + 1) 0 1 else .stop 1 0)
  | .fact, s, a, _ => (s, if 0 ≤ a then (if a < 64 then facO a 64 2 1 else .stop 9 0) else .stop 1 0)
  | .tries, s, a, _ => (s, if a ≤ 20 then .ret (max 0 a) else .stop 107 0)

/-- What holds of a model's state after q calls. -/
structure Good (s : St) (q : Nat) : Prop where
  cap : q ≤ 100
  len : s.l.length ≤ q
  l : ∀ z ∈ s.l, inR z
  low : inR s.low
  high : inR s.high
  map : IsMap s.D
  D : ∀ x, ∃ c, inR c ∧ s.D.atKey (K1 x) (.lit (K1 0)) = .lit (K1 c)

theorem valD_eq {D : DataW Unit} {x c : Int} (h : D.atKey (K1 x) (.lit (K1 0)) = .lit (K1 c)) : valD D x = c := by
  unfold valD; rw [h]

/-- done, at a name, does this. -/
def HasOp (n : Nat) (L : List (ByteArray × Value)) (Q : List Value) (nm : ByteArray) (op : Op) : Prop :=
  ∀ (s : St) (q : Nat) (lk : Option Nat) (w : World) (A B : Int), MS n L Q s q lk w → Good s q → inR A → inR B →
    Calls Tryz.prog 17 #[P1 n, .agg #[.string nm, I A, I B]] w fun e w' => Done n L Q (act op s A B).1 (q + 1) lk w (act op s A B).2 e w'

theorem Ends.more {n q : Nat} {L : List (ByteArray × Value)} {Q : List Value} {s : St} {lk : Option Nat} {W : World} {o : Out} {val : Int → Value} {e : Ending} {w' : World} (h : Ends n L Q s q lk W o val e w') : Ends n L Q s (q + 1) lk W o val e w' := by
  obtain ⟨h1, h2⟩ := h
  refine ⟨h1, ?_⟩
  cases o with
  | ret r => obtain ⟨h2, lk', h3, h4⟩ := h2; exact ⟨h2, lk', h3.more (Nat.le_succ _), h4⟩
  | stop f e0 => exact h2
theorem Ends.any {n q : Nat} {L : List (ByteArray × Value)} {Q : List Value} {s s' : St} {lk : Option Nat} {W : World} {f e0 : Int} {val : Int → Value} {e : Ending} {w' : World} (h : Ends n L Q s q lk W (.stop f e0) val e w') : Ends n L Q s' q lk W (.stop f e0) val e w' := h

variable {n i j : Nat} {L : List (ByteArray × Value)} {Q : List Value} {nm : ByteArray}

/-- What a quiet deed returns. -/
def Zero : Out → Prop
  | .ret r => r = 0
  | .stop _ _ => True

/-- From a deed's contract, the deed being a method of the model (or a function alone). -/
theorem has_of {op : Op} {g : Nat} {first cap : Array Value} (hat : at? nm L 0 = some (i, .func (.func g) first cap)) (hent : ∀ (args : Array Value) (w : World), (callFunc g args).run Tryz.prog w = .ok (.enter g args) w)
    (h : ∀ (s : St) (q : Nat) (lk : Option Nat) (W : World) (A B : Int), MS n L Q s q lk W → Good s q → inR A → inR B → Calls Tryz.prog g (first ++ (#[I A, I B] ++ cap)) W fun e w' => Ends n L Q (act op s A B).1 q lk W (act op s A B).2 I e w') : HasOp n L Q nm op :=
  fun s q lk w A B hM hG hA hB => done_deed hM hat hent fun W hMW => (h s q lk W A B hMW hG hA hB).mono fun _ _ he => he.more
theorem has_quiet {op : Op} {g : Nat} {first cap : Array Value} (hat : at? nm L 0 = some (i, quietV (n + 4 + j))) (hj : Q[j]? = some (.func (.func g) first cap)) (hent : ∀ (args : Array Value) (w : World), (callFunc g args).run Tryz.prog w = .ok (.enter g args) w)
    (ho : ∀ s A B, Zero (act op s A B).2)
    (h : ∀ (s : St) (q : Nat) (lk : Option Nat) (W : World) (A B : Int), MS n L Q s q lk W → Good s q → inR A → inR B → Calls Tryz.prog g (first ++ (#[I A, I B] ++ cap)) W fun e w' => Ends n L Q (act op s A B).1 (q + 1) lk W (act op s A B).2 N0 e w') : HasOp n L Q nm op :=
  fun s q lk w A B hM hG hA hB => done_quiet hM hat hj hent (by have := ho s A B; revert this; cases (act op s A B).2 <;> exact id) fun W hMW => h s q lk W A B hMW hG hA hB

abbrev mv (g n : Nat) : Value := .func (.func g) #[P1 n] #[]

theorem has_count (hat : at? nm L 0 = some (i, mv 33 n)) : HasOp n L Q nm .count := has_of hat Tryz.call33 fun s q lk W A B hM hG hA hB => d_count hM A B
theorem has_has (hat : at? nm L 0 = some (i, mv 34 n)) : HasOp n L Q nm .has := has_of hat Tryz.call34 fun s q lk W A B hM hG hA hB => d_has hM A B
theorem has_sum (hat : at? nm L 0 = some (i, mv 35 n)) : HasOp n L Q nm .sum := has_of hat Tryz.call35 fun s q lk W A B hM hG hA hB => d_sum hM hG.l A B
theorem has_push (hat : at? nm L 0 = some (i, quietV (n + 4 + j))) (hj : Q[j]? = some (mv 37 n)) : HasOp n L Q nm .push := has_quiet hat hj Tryz.call37 (fun _ _ _ => rfl) fun s q lk W A B hM hG hA hB => (d_push hM (by have := hG.len; have := hG.cap; omega) A B).mono fun _ _ he => he.more
theorem has_extend (hat : at? nm L 0 = some (i, quietV (n + 4 + j))) (hj : Q[j]? = some (mv 38 n)) : HasOp n L Q nm .extend := has_quiet hat hj Tryz.call38 (fun _ _ _ => rfl) fun s q lk W A B hM hG hA hB => (d_extend hM (by have := hG.len; have := hG.cap; omega) A B).mono fun _ _ he => he.more
theorem has_reverse (hat : at? nm L 0 = some (i, quietV (n + 4 + j))) (hj : Q[j]? = some (mv 39 n)) : HasOp n L Q nm .reverse := has_quiet hat hj Tryz.call39 (fun _ _ _ => rfl) fun s q lk W A B hM hG hA hB => (d_reverse hM A B).mono fun _ _ he => he.more
theorem has_item (hat : at? nm L 0 = some (i, mv 40 n)) : HasOp n L Q nm .item := has_of hat Tryz.call40 fun s q lk W A B hM hG hA hB => by
  show Calls _ _ #[P1 n, I A, I B] _ _
  unfold act
  dsimp only
  by_cases h1 : 1 ≤ A
  · obtain ⟨k, rfl⟩ : ∃ k : Nat, A = (k : Int) + 1 := ⟨(A - 1).toNat, by omega⟩
    rw [if_pos h1, show ((k : Int) + 1 - 1).toNat = k by omega]
    cases hz : s.l[k]? with
    | some z => exact d_item_in hM k z B hz
    | none => exact d_item_out hM _ B (.inr (by have := List.getElem?_eq_none_iff.1 hz; omega))
  · rw [if_neg h1]
    exact d_item_out hM A B (.inl (by omega))
theorem has_remove (hat : at? nm L 0 = some (i, quietV (n + 4 + j))) (hj : Q[j]? = some (mv 41 n)) : HasOp n L Q nm .remove := has_quiet hat hj Tryz.call41 (fun _ _ _ => rfl) fun s q lk W A B hM hG hA hB => (d_remove hM (by have := hG.len; have := hG.cap; omega) A B).mono fun _ _ he => he.more
theorem has_wipe (hat : at? nm L 0 = some (i, quietV (n + 4 + j))) (hj : Q[j]? = some (mv 42 n)) : HasOp n L Q nm .wipe := has_quiet hat hj Tryz.call42 (fun _ _ _ => rfl) fun s q lk W A B hM hG hA hB => (d_wipe hM A B).mono fun _ _ he => he.more
theorem has_ins (hat : at? nm L 0 = some (i, quietV (n + 4 + j))) (hj : Q[j]? = some (mv 43 n)) : HasOp n L Q nm .ins := has_quiet hat hj Tryz.call43 (fun _ _ _ => rfl) fun s q lk W A B hM hG hA hB => by
  obtain ⟨k, h1, h2, h3⟩ := ins_place A s.l
  have := d_insert_at hM (by have := hG.len; have := hG.cap; omega) A B k h1 h2
  rw [← h3] at this
  exact this.mono fun _ _ he => he.more
theorem has_nothing (hat : at? nm L 0 = some (i, quietV (n + 4 + j))) (hj : Q[j]? = some (.func (.func 44) #[] #[])) : HasOp n L Q nm .nothing := has_quiet hat hj Tryz.call44 (fun _ _ _ => rfl) fun s q lk W A B hM hG hA hB => (d_nothing hM A B).mono fun _ _ he => he.more
theorem has_lay (hat : at? nm L 0 = some (i, quietV (n + 4 + j))) (hj : Q[j]? = some (mv 45 n)) : HasOp n L Q nm .lay := has_quiet hat hj Tryz.call45 (fun s A B => by by_cases h : 0 ≤ A <;> simp [act, h, Zero]) fun s q lk W A B hM hG hA hB => by
  show Calls _ _ #[P1 n, I A, I B] _ _
  unfold act
  dsimp only
  by_cases h : 0 ≤ A
  · rw [if_pos h]; exact (d_lay_in hM (by have := hG.len; have := hG.cap; omega) A B h).mono fun _ _ he => he.more
  · rw [if_neg h]; exact (d_lay_out hM A B h s).mono fun _ _ he => he.more
theorem has_leave (hat : at? nm L 0 = some (i, quietV (n + 4 + j))) (hj : Q[j]? = some (mv 46 n)) : HasOp n L Q nm .leave := has_quiet hat hj Tryz.call46 (fun s A B => by cases h : s.l <;> simp [act, h, Zero]) fun s q lk W A B hM hG hA hB => by
  show Calls _ _ #[P1 n, I A, I B] _ _
  unfold act
  dsimp only
  cases h : s.l with
  | nil => exact (d_leave_out hM A B h s).mono fun _ _ he => he.more
  | cons z r => exact (d_leave hM A B z r h).mono fun _ _ he => he.more
theorem has_peek (hat : at? nm L 0 = some (i, mv 47 n)) : HasOp n L Q nm .peek := has_of hat Tryz.call47 fun s q lk W A B hM hG hA hB => by
  show Calls _ _ #[P1 n, I A, I B] _ _
  unfold act
  dsimp only
  cases h : s.l with
  | nil => exact d_peek_nil hM A B h
  | cons z r => exact d_peek hM A B z r h
theorem has_front (hat : at? nm L 0 = some (i, mv 48 n)) : HasOp n L Q nm .front := has_of hat Tryz.call48 fun s q lk W A B hM hG hA hB => by
  show Calls _ _ #[P1 n, I A, I B] _ _
  unfold act
  dsimp only
  cases h : s.l with
  | nil => exact d_front_out hM A B h s
  | cons z r => exact d_front hM A B z r h
theorem has_force (hat : at? nm L 0 = some (i, quietV (n + 4 + j))) (hj : Q[j]? = some (mv 49 n)) : HasOp n L Q nm .force := has_quiet hat hj Tryz.call49 (fun _ _ _ => rfl) fun s q lk W A B hM hG hA hB => d_force hM A B hA hB (by have := hG.cap; omega)
theorem has_known (hat : at? nm L 0 = some (i, mv 50 n)) : HasOp n L Q nm .known := has_of hat Tryz.call50 fun s q lk W A B hM hG hA hB => d_known hM A B hA
theorem has_value (hat : at? nm L 0 = some (i, mv 51 n)) : HasOp n L Q nm .value := has_of hat Tryz.call51 fun s q lk W A B hM hG hA hB => by
  obtain ⟨c, _, h⟩ := hG.D A
  have := d_value hM A B c hA h
  rwa [← valD_eq h] at this
theorem has_lose (hat : at? nm L 0 = some (i, quietV (n + 4 + j))) (hj : Q[j]? = some (mv 52 n)) : HasOp n L Q nm .lose := has_quiet hat hj Tryz.call52 (fun _ _ _ => rfl) fun s q lk W A B hM hG hA hB => (d_lose hM A B hA).mono fun _ _ he => he.more
theorem has_many (hat : at? nm L 0 = some (i, mv 53 n)) : HasOp n L Q nm .many := has_of hat Tryz.call53 fun s q lk W A B hM hG hA hB => d_many hM A B
theorem has_join (hat : at? nm L 0 = some (i, quietV (n + 4 + j))) (hj : Q[j]? = some (mv 54 n)) : HasOp n L Q nm .join := has_quiet hat hj Tryz.call54 (fun _ _ _ => rfl) fun s q lk W A B hM hG hA hB => (d_join hM (by have := hG.len; have := hG.cap; omega) A B).mono fun _ _ he => he.more
theorem has_lows (hat : at? nm L 0 = some (i, mv 55 n)) : HasOp n L Q nm .lows := has_of hat Tryz.call55 fun s q lk W A B hM hG hA hB => d_lows hM A B
theorem has_highs (hat : at? nm L 0 = some (i, mv 60 n)) : HasOp n L Q nm .highs := has_of hat Tryz.call60 fun s q lk W A B hM hG hA hB => d_highs hM A B
abbrev cv (g n : Nat) : Value := .func (.func g) #[] #[.pointer (some ⟨n + 1 + 1, 0, none⟩)]
theorem has_up (hat : at? nm L 0 = some (i, quietV (n + 4 + j))) (hj : Q[j]? = some (cv 56 n)) : HasOp n L Q nm .up := has_quiet hat hj Tryz.call56 (fun s A B => by by_cases h : inR (s.low + 1) <;> simp [act, h, Zero]) fun s q lk W A B hM hG hA hB => by
  show Calls _ _ #[I A, I B, _] _ _
  unfold act
  dsimp only
  by_cases h : inR (s.low + 1)
  · rw [if_pos h]; exact (d_up_in hM A B hG.low h).mono fun _ _ he => he.more
  · rw [if_neg h]; exact (d_up_out hM A B hG.low h s).mono fun _ _ he => he.more
theorem has_add (hat : at? nm L 0 = some (i, quietV (n + 4 + j))) (hj : Q[j]? = some (cv 58 n)) : HasOp n L Q nm .add := has_quiet hat hj Tryz.call58 (fun s A B => by by_cases h : 0 ≤ A <;> by_cases h2 : inR (s.low + A) <;> simp [act, h, h2, Zero]) fun s q lk W A B hM hG hA hB => by
  show Calls _ _ #[I A, I B, _] _ _
  unfold act
  dsimp only
  by_cases h0 : 0 ≤ A
  · rw [if_pos h0]
    by_cases h : inR (s.low + A)
    · rw [if_pos h]; exact (d_add_in hM A B h0 hA hG.low h).mono fun _ _ he => he.more
    · rw [if_neg h]; exact (d_add_out hM A B h0 hA hG.low h s).mono fun _ _ he => he.more
  · rw [if_neg h0]; exact (d_add_neg hM A B h0 s).mono fun _ _ he => he.more
theorem has_span (hat : at? nm L 0 = some (i, quietV (n + 4 + j))) (hj : Q[j]? = some (mv 61 n)) : HasOp n L Q nm .span := has_quiet hat hj Tryz.call61 (fun s A B => by by_cases h : inR (B + 1) <;> by_cases h2 : A ≤ B + 1 <;> simp [act, h, h2, Zero]) fun s q lk W A B hM hG hA hB => by
  show Calls _ _ #[P1 n, I A, I B] _ _
  unfold act
  dsimp only
  by_cases h1 : inR (B + 1)
  · rw [if_pos h1]
    by_cases h2 : A ≤ B + 1
    · rw [if_pos h2]; exact (d_span_in hM A B hB h1 h2).mono fun _ _ he => he.more
    · rw [if_neg h2]; exact (d_span_pre hM A B hB h1 h2 s).mono fun _ _ he => he.more
  · rw [if_neg h1]; exact (d_span_over hM A B hB h1 s).mono fun _ _ he => he.more
theorem has_contains (hat : at? nm L 0 = some (i, mv 62 n)) : HasOp n L Q nm .contains := has_of hat Tryz.call62 fun s q lk W A B hM hG hA hB => d_contains hM A B
theorem has_width (hat : at? nm L 0 = some (i, mv 63 n)) : HasOp n L Q nm .width := has_of hat Tryz.call63 fun s q lk W A B hM hG hA hB => by
  show Calls _ _ #[P1 n, I A, I B] _ _
  unfold act
  dsimp only
  by_cases h1 : inR (s.high - s.low)
  · by_cases h2 : inR (s.high - s.low + 1)
    · rw [if_pos ⟨h1, h2⟩]; exact d_width_in hM A B hG.low hG.high h1 h2
    · rw [if_neg (fun h => h2 h.2)]; exact d_width_out2 hM A B hG.low hG.high h1 h2
  · rw [if_neg (fun h => h1 h.1)]; exact d_width_out1 hM A B hG.low hG.high h1
theorem has_total (hat : at? nm L 0 = some (i, mv 64 n)) : HasOp n L Q nm .total := has_of hat Tryz.call64 fun s q lk W A B hM hG hA hB => by
  show Calls _ _ #[P1 n, I A, I B] _ _
  unfold act
  dsimp only
  by_cases h1 : inR (s.high - s.low)
  · by_cases h2 : inR (s.high - s.low + 1)
    · rw [if_pos ⟨h1, h2⟩]; exact d_total_in hM A B hG.low hG.high h1 h2
    · rw [if_neg (fun h => h2 h.2)]; exact d_total_out2 hM A B hG.low hG.high h1 h2
  · rw [if_neg (fun h => h1 h.1)]; exact d_total_out1 hM A B hG.low hG.high h1
abbrev fv (g : Nat) : Value := .func (.func g) #[] #[]
theorem has_gcd (hat : at? nm L 0 = some (i, fv 65)) : HasOp n L Q nm .gcd := has_of hat Tryz.call65 fun s q lk W A B hM hG hA hB => by
  show Calls _ _ #[I A, I B] _ _
  unfold act
  dsimp only
  by_cases h : 0 ≤ A ∧ 0 ≤ B
  · rw [if_pos h]
    obtain ⟨a, rfl⟩ := Int.eq_ofNat_of_zero_le h.1
    obtain ⟨b, rfl⟩ := Int.eq_ofNat_of_zero_le h.2
    exact d_gcd_in hM a b hA hB
  · rw [if_neg h]; exact d_gcd_out hM A B h
theorem has_power (hat : at? nm L 0 = some (i, fv 66)) : HasOp n L Q nm .power := has_of hat Tryz.call66 fun s q lk W A B hM hG hA hB => by
  show Calls _ _ #[I A, I B] _ _
  unfold act
  dsimp only
  by_cases h : 0 ≤ B
  · rw [if_pos h]
    obtain ⟨b, rfl⟩ := Int.eq_ofNat_of_zero_le h
    exact d_power_in hM A b hA hB
  · rw [if_neg h]; exact d_power_out hM A B h
theorem has_fact (hat : at? nm L 0 = some (i, fv 67)) : HasOp n L Q nm .fact := has_of hat Tryz.call67 fun s q lk W A B hM hG hA hB => by
  show Calls _ _ #[I A, I B] _ _
  unfold act
  dsimp only
  by_cases h : 0 ≤ A
  · rw [if_pos h]
    by_cases h2 : A < 64
    · rw [if_pos h2]
      obtain ⟨a, rfl⟩ := Int.eq_ofNat_of_zero_le h
      exact d_fact_in hM a B (by omega)
    · rw [if_neg h2]; exact d_fact_deep hM A B h h2
  · rw [if_neg h]; exact d_fact_neg hM A B h
theorem has_tries (hat : at? nm L 0 = some (i, fv 68)) : HasOp n L Q nm .tries := has_of hat Tryz.call68 fun s q lk W A B hM hG hA hB => by
  show Calls _ _ #[I A, I B] _ _
  unfold act
  dsimp only
  by_cases h : A ≤ 20
  · rw [if_pos h]; exact d_tries_in hM A B h
  · rw [if_neg h]; exact d_tries_out hM A B h
end Go.Proofs.Bm

namespace Go.Proofs.Bm
open Go.RowKit Go.Maps

theorem Good.start : Good ⟨[], .map [], 0, -1⟩ 0 :=
  ⟨by omega, by simp, by simp, by simp [inR], by simp [inR], isMap_empty, fun x => ⟨0, by simp [inR], rfl⟩⟩

theorem Good.set_l {s : St} {q : Nat} (h : Good s q) (hq : q < 100) (l' : List Int) (h1 : l'.length ≤ q + 1) (h2 : ∀ z ∈ l', inR z) : Good { s with l := l' } (q + 1) :=
  ⟨by omega, h1, h2, h.low, h.high, h.map, h.D⟩
theorem Good.up {s : St} {q : Nat} (h : Good s q) (hq : q < 100) : Good s (q + 1) := ⟨by omega, by have := h.len; omega, h.l, h.low, h.high, h.map, h.D⟩

theorem insL_length (a : Int) (xs : List Int) : (insL a xs).length = xs.length + 1 := by
  obtain ⟨i, h1, _, h3⟩ := ins_place a xs
  rw [h3]; simp; omega
theorem insL_mem {a : Int} {xs : List Int} {z : Int} (h : z ∈ insL a xs) : z = a ∨ z ∈ xs := by
  obtain ⟨i, h1, _, h3⟩ := ins_place a xs
  rw [h3] at h
  simp only [List.mem_append, List.mem_cons] at h
  rcases h with h | h | h
  · exact .inr (List.mem_of_mem_take h)
  · exact .inl h
  · exact .inr (List.mem_of_mem_drop h)

theorem key1 (x : Int) : WideAt.IsKeyLit (K1 x) := trivial

theorem good_act (op : Op) (s : St) (q : Nat) (a b : Int) (h : Good s q) (hq : q < 100) (ha : inR a) (hb : inR b) : Good (act op s a b).1 (q + 1) := by
  have hl := h.len
  cases op
  case push => exact h.set_l hq _ (by simp; omega) (by simpa using ⟨ha, h.l⟩)
  case extend => exact h.set_l hq _ (by simp; omega) (by intro z hz; simp at hz; rcases hz with hz | rfl; exact h.l z hz; exact ha)
  case reverse => exact h.set_l hq _ (by simp; omega) (by intro z hz; simp at hz; exact h.l z hz)
  case remove => exact h.set_l hq _ (by have := List.length_erase_le (a := a) (l := s.l); omega) (fun z hz => h.l z (List.mem_of_mem_erase hz))
  case wipe => exact h.set_l hq _ (by simp) (by simp)
  case ins => exact h.set_l hq _ (by rw [insL_length]; omega) (fun z hz => by rcases insL_mem hz with rfl | hz; exact ha; exact h.l z hz)
  case lay =>
    by_cases h0 : 0 ≤ a
    · simp only [act, h0, if_true]; exact h.set_l hq _ (by simp; omega) (by simpa using ⟨ha, h.l⟩)
    · simp only [act, h0, if_false]; exact h.up hq
  case leave =>
    simp only [act]
    cases hs : s.l with
    | nil => exact h.up hq
    | cons z r => exact h.set_l hq _ (by rw [hs] at hl; simp at hl; omega) (fun y hy => h.l y (by rw [hs]; simp [hy]))
  case join =>
    simp only [act]
    by_cases hm : a ∈ s.l
    · rw [if_pos hm]; exact h.set_l hq _ (by omega) h.l
    · rw [if_neg hm]; exact h.set_l hq _ (by simp; omega) (by simpa using ⟨ha, h.l⟩)
  case force =>
    refine ⟨by omega, by show s.l.length ≤ q + 1; omega, h.l, h.low, h.high, h.map.put _ _, fun x => ?_⟩
    by_cases e : x = a
    · subst e
      exact ⟨b, hb, atKey_put_same h.map (key1 x) _ _⟩
    · obtain ⟨c, h1, h2⟩ := h.D x
      exact ⟨c, h1, by simp only [act]; rw [atKey_put_other (fun e' => e (by cases e'; rfl))]; exact h2⟩
  case lose =>
    refine ⟨by omega, by show s.l.length ≤ q + 1; omega, h.l, h.low, h.high, h.map.del _, fun x => ?_⟩
    by_cases e : x = a
    · subst e
      exact ⟨0, by simp [inR], atKey_del_same _⟩
    · obtain ⟨c, h1, h2⟩ := h.D x
      exact ⟨c, h1, by simp only [act]; rw [atKey_del_other (fun e' => e (by cases e'; rfl))]; exact h2⟩
  case up =>
    simp only [act]
    by_cases h0 : inR (s.low + 1)
    · rw [if_pos h0]; exact ⟨by omega, by show s.l.length ≤ q + 1; omega, h.l, h0, h.high, h.map, h.D⟩
    · rw [if_neg h0]; exact h.up hq
  case add =>
    simp only [act]
    by_cases h1 : 0 ≤ a
    · rw [if_pos h1]
      by_cases h0 : inR (s.low + a)
      · rw [if_pos h0]; exact ⟨by omega, by show s.l.length ≤ q + 1; omega, h.l, h0, h.high, h.map, h.D⟩
      · rw [if_neg h0]; exact h.up hq
    · rw [if_neg h1]; exact h.up hq
  case span =>
    simp only [act]
    by_cases h1 : inR (b + 1)
    · rw [if_pos h1]
      by_cases h0 : a ≤ b + 1
      · rw [if_pos h0]; exact ⟨by omega, by show s.l.length ≤ q + 1; omega, h.l, ha, hb, h.map, h.D⟩
      · rw [if_neg h0]; exact h.up hq
    · rw [if_neg h1]; exact h.up hq
  all_goals exact h.up hq
end Go.Proofs.Bm
