/- What the reference's functions do, call by call, beside what the model's deeds do. No condition but the states'. -/
import Derived.Test.YtipdlkncacjahaaGreatDoorBRIp
import Derived.Test.YtipdlkncacjahaaGreatDoorBRRc
import Derived.Test.YtipdlkncacjahaaGreatDoorBOps
set_option linter.unusedSimpArgs false
set_option linter.unusedVariables false
namespace Go.Proofs.Bm
open Go.RowKit Go.Maps

inductive Cls where
  | ints | sorted | stack | queue | table | set | counter | range | arith

/-- The reference's keys and values, and the model's map. -/
structure RelT (D : DataW Unit) (K L : List Int) : Prop where
  tidy : Tidy D
  nodup : K.Nodup
  len : L.length = K.length
  has : ∀ x, Maps.has D (K1 x) = decide (x ∈ K)
  size : Maps.size D = K.length
  val : ∀ (i : Nat) (x v : Int), K[i]? = some x → L[i]? = some v → ∀ z, D.atKey (K1 x) z = .lit (K1 v)

/-- q: how many calls there were. -/
def Rel : Cls → Nat → St → RSt → Prop
  | .ints, _, s, r => r.L = s.l
  | .sorted, _, s, r => r.L = s.l
  | .stack, _, s, r => r.L = s.l.reverse
  | .queue, _, s, r => r.L = s.l
  | .table, q, s, r => RelT s.D r.K r.L ∧ r.K.length ≤ q
  | .set, _, s, r => r.L.Perm s.l
  | .counter, _, s, r => r.low = s.low
  | .range, _, s, r => r.low = s.low ∧ r.high = s.high
  | .arith, _, _, _ => True

/-- Does a deed's call put something out? -/
def resO : Op → Bool
  | .push | .extend | .reverse | .remove | .wipe | .ins | .nothing | .lay | .leave | .force | .lose | .join | .up | .add | .span => false
  | _ => true
/-- How many arguments has its call? -/
def argO : Op → Nat
  | .count | .sum | .reverse | .nothing | .wipe | .leave | .peek | .front | .many | .lows | .highs | .up | .width | .total => 0
  | .force | .span | .gcd | .power => 2
  | _ => 1

/-- The reference's state behind a call that did this. -/
def After (c : Cls) (op : Op) (q : Nat) (p : St × Out) (r r' : RSt) : Prop := match p.2 with
  | .ret v => Rel c q p.1 r' ∧ r'.out = r.out ++ (if resO op then [v] else []) ∧ r'.fault = r.fault ∧ r'.long = r.long
  | .stop f e => if e = 0 then r'.fault = f ∧ r'.out = r.out ∧ r'.long = r.long else r'.long = true

def fnR : Cls → Nat
  | .ints => 19 | .sorted => 19 | .stack => 20 | .queue => 21 | .table => 22 | .set => 23 | .counter => 24 | .range => 25 | .arith => 26
def arR (c : Cls) (b : Nat) (nm : ByteArray) (A B : Int) : Array Value := match c with
  | .ints => #[PB b, CL nm A B, .bool false]
  | .sorted => #[PB b, CL nm A B, .bool true]
  | _ => #[PB b, CL nm A B]

/-- The reference, at a class and a name, does what this deed does. -/
def HasR (c : Cls) (nm : ByteArray) (op : Op) : Prop :=
  ∀ (b : Nat) (s : St) (q : Nat) (r : RSt) (lL lK lO : Option Nat) (W : World) (A B : Int), Good s q → Rel c q s r → r.out.length ≤ 1000 → inR A → inR B → (argO op < 2 → B = 0) → RS b r lL lK lO W →
    Calls Tryz.prog (fnR c) (arR c b nm A B) W fun e w' => e = .returned (.tuple #[]) ∧ ∃ r', REnds b r' lL lK lO W w' ∧ After c op (q + 1) (act op s A B) r r'

theorem rmk {f : Nat} {a : Array Value} {W : World} {b : Nat} {r r' : RSt} {lL lK lO : Option Nat} {c : Cls} {op : Op} {q : Nat} {p : St × Out}
    (h : Calls Tryz.prog f a W fun e w' => e = .returned (.tuple #[]) ∧ REnds b r' lL lK lO W w') (ha : After c op q p r r') :
    Calls Tryz.prog f a W fun e w' => e = .returned (.tuple #[]) ∧ ∃ r', REnds b r' lL lK lO W w' ∧ After c op q p r r' := h.mono fun _ _ h => ⟨h.1, _, h.2, ha⟩
theorem after_ret {c : Cls} {op : Op} {q : Nat} {s' : St} {v : Int} {r r' : RSt} {o : Out} (ho : o = .ret v) (h1 : Rel c q s' r') (h2 : r'.out = r.out ++ (if resO op then [v] else [])) (h3 : r'.fault = r.fault) (h4 : r'.long = r.long) : After c op q (s', o) r r' := by
  subst ho; exact ⟨h1, h2, h3, h4⟩
theorem after_stop {c : Cls} {op : Op} {q : Nat} {s' : St} {f : Int} {r r' : RSt} {o : Out} (ho : o = .stop f 0) (h1 : r'.fault = f) (h2 : r'.out = r.out) (h3 : r'.long = r.long) : After c op q (s', o) r r' := by
  subst ho; exact ⟨h1, h2, h3⟩
theorem after_fin {c : Cls} {op : Op} {q : Nat} {s : St} {r : RSt} {o o' : Out} (e : o' = o) (hr : resO op = true) (h : ∀ v, Rel c q s { r with out := r.out ++ [v] }) : After c op q (s, o) r (fin r o') := by
  subst e
  cases o' with
  | ret v => exact ⟨h v, by rw [hr]; rfl, rfl, rfl⟩
  | stop f e =>
    unfold After fin
    dsimp only
    by_cases e0 : e = 0
    · rw [if_pos e0, if_pos e0]; exact ⟨rfl, rfl, rfl⟩
    · rw [if_neg e0, if_neg e0]
theorem rs_ints_count : HasR .ints ⟨#[99, 111, 117, 110, 116]⟩ .count := fun b s q r lL lK lO W A B hG hR ho hA hB hb h => by
  have hl : r.L.length ≤ 1000 := by rw [show r.L = s.l from hR]; have := hG.len; have := hG.cap; omega
  exact rmk (r_ints_count h ho hl A B false) (after_ret rfl hR (by rw [show r.L = s.l from hR]; rfl) rfl rfl)
theorem rs_ints_has : HasR .ints ⟨#[104, 97, 115]⟩ .has := fun b s q r lL lK lO W A B hG hR ho hA hB hb h => by
  have hl : r.L.length ≤ 1000 := by rw [show r.L = s.l from hR]; have := hG.len; have := hG.cap; omega
  have e : r.L = s.l := hR
  rcases idx_spec r.L A with ⟨h1, h2⟩ | ⟨j, h1, h2, _⟩
  · exact rmk (r_ints_has_no h ho hl A B false h1) (after_ret rfl hR (by rw [e] at h2; simp [h2, bi, resO]) rfl rfl)
  · have h3 := List.mem_of_getElem? h2
    exact rmk (r_ints_has_yes h ho hl A B false j h1) (after_ret rfl hR (by rw [e] at h3; simp [h3, bi, resO]) rfl rfl)
theorem rs_ints_item : HasR .ints ⟨#[105, 116, 101, 109]⟩ .item := fun b s q r lL lK lO W A B hG hR ho hA hB hb h => by
  have hl : r.L.length ≤ 1000 := by rw [show r.L = s.l from hR]; have := hG.len; have := hG.cap; omega
  have e : r.L = s.l := hR
  unfold act
  dsimp only
  by_cases h1 : 1 ≤ A
  · obtain ⟨k, hk⟩ : ∃ k : Nat, A = (k : Int) + 1 := ⟨(A - 1).toNat, by omega⟩
    rw [if_pos h1, show (A - 1).toNat = k by omega]
    cases hz : s.l[k]? with
    | some z => exact rmk (r_ints_item_in h ho hl A B false k z (by rw [e]; exact hz) hk) (after_ret rfl hR rfl rfl rfl)
    | none => exact rmk (r_ints_item_out h ho hl A B false (by rw [e]; have := List.getElem?_eq_none_iff.1 hz; omega)) (after_stop rfl rfl rfl rfl)
  · rw [if_neg h1]
    exact rmk (r_ints_item_out h ho hl A B false (by omega)) (after_stop rfl rfl rfl rfl)
theorem rs_ints_sum : HasR .ints ⟨#[115, 117, 109]⟩ .sum := fun b s q r lL lK lO W A B hG hR ho hA hB hb h => by
  have hl : r.L.length ≤ 1000 := by rw [show r.L = s.l from hR]; have := hG.len; have := hG.cap; omega
  have e : r.L = s.l := hR
  exact rmk (r_ints_sum h ho hl A B false (by rw [e]; exact hG.l)) (after_fin (by rw [e]) rfl (fun _ => hR))
theorem rs_ints_remove : HasR .ints ⟨#[114, 101, 109, 111, 118, 101]⟩ .remove := fun b s q r lL lK lO W A B hG hR ho hA hB hb h => by
  have hl : r.L.length ≤ 1000 := by rw [show r.L = s.l from hR]; have := hG.len; have := hG.cap; omega
  have e : r.L = s.l := hR
  rcases idx_spec r.L A with ⟨h1, h2⟩ | ⟨j, h1, h2, h3⟩
  · exact rmk (r_ints_remove_no h ho hl A B false h1) (after_ret rfl (by show r.L = s.l.erase A; rw [e] at h2 ⊢; rw [List.erase_of_not_mem h2]) (by simp [resO]) rfl rfl)
  · exact rmk (r_ints_remove_yes h ho hl A B false j h1 (List.getElem?_eq_some_iff.1 h2).1) (after_ret rfl (by show _ = s.l.erase A; rw [← e]; exact h3) (by simp [resO]) rfl rfl)
theorem rs_ints_wipe : HasR .ints ⟨#[119, 105, 112, 101]⟩ .wipe := fun b s q r lL lK lO W A B hG hR ho hA hB hb h => by
  have hl : r.L.length ≤ 1000 := by rw [show r.L = s.l from hR]; have := hG.len; have := hG.cap; omega
  exact rmk (r_ints_wipe h ho hl A B false) (after_ret rfl (by rfl) (by simp [resO]) rfl rfl)
theorem rs_sorted_count : HasR .sorted ⟨#[99, 111, 117, 110, 116]⟩ .count := fun b s q r lL lK lO W A B hG hR ho hA hB hb h => by
  have hl : r.L.length ≤ 1000 := by rw [show r.L = s.l from hR]; have := hG.len; have := hG.cap; omega
  exact rmk (r_ints_count h ho hl A B true) (after_ret rfl hR (by rw [show r.L = s.l from hR]; rfl) rfl rfl)
theorem rs_sorted_has : HasR .sorted ⟨#[104, 97, 115]⟩ .has := fun b s q r lL lK lO W A B hG hR ho hA hB hb h => by
  have hl : r.L.length ≤ 1000 := by rw [show r.L = s.l from hR]; have := hG.len; have := hG.cap; omega
  have e : r.L = s.l := hR
  rcases idx_spec r.L A with ⟨h1, h2⟩ | ⟨j, h1, h2, _⟩
  · exact rmk (r_ints_has_no h ho hl A B true h1) (after_ret rfl hR (by rw [e] at h2; simp [h2, bi, resO]) rfl rfl)
  · have h3 := List.mem_of_getElem? h2
    exact rmk (r_ints_has_yes h ho hl A B true j h1) (after_ret rfl hR (by rw [e] at h3; simp [h3, bi, resO]) rfl rfl)
theorem rs_sorted_item : HasR .sorted ⟨#[105, 116, 101, 109]⟩ .item := fun b s q r lL lK lO W A B hG hR ho hA hB hb h => by
  have hl : r.L.length ≤ 1000 := by rw [show r.L = s.l from hR]; have := hG.len; have := hG.cap; omega
  have e : r.L = s.l := hR
  unfold act
  dsimp only
  by_cases h1 : 1 ≤ A
  · obtain ⟨k, hk⟩ : ∃ k : Nat, A = (k : Int) + 1 := ⟨(A - 1).toNat, by omega⟩
    rw [if_pos h1, show (A - 1).toNat = k by omega]
    cases hz : s.l[k]? with
    | some z => exact rmk (r_ints_item_in h ho hl A B true k z (by rw [e]; exact hz) hk) (after_ret rfl hR rfl rfl rfl)
    | none => exact rmk (r_ints_item_out h ho hl A B true (by rw [e]; have := List.getElem?_eq_none_iff.1 hz; omega)) (after_stop rfl rfl rfl rfl)
  · rw [if_neg h1]
    exact rmk (r_ints_item_out h ho hl A B true (by omega)) (after_stop rfl rfl rfl rfl)
theorem rs_sorted_sum : HasR .sorted ⟨#[115, 117, 109]⟩ .sum := fun b s q r lL lK lO W A B hG hR ho hA hB hb h => by
  have hl : r.L.length ≤ 1000 := by rw [show r.L = s.l from hR]; have := hG.len; have := hG.cap; omega
  have e : r.L = s.l := hR
  exact rmk (r_ints_sum h ho hl A B true (by rw [e]; exact hG.l)) (after_fin (by rw [e]) rfl (fun _ => hR))
theorem rs_sorted_remove : HasR .sorted ⟨#[114, 101, 109, 111, 118, 101]⟩ .remove := fun b s q r lL lK lO W A B hG hR ho hA hB hb h => by
  have hl : r.L.length ≤ 1000 := by rw [show r.L = s.l from hR]; have := hG.len; have := hG.cap; omega
  have e : r.L = s.l := hR
  rcases idx_spec r.L A with ⟨h1, h2⟩ | ⟨j, h1, h2, h3⟩
  · exact rmk (r_ints_remove_no h ho hl A B true h1) (after_ret rfl (by show r.L = s.l.erase A; rw [e] at h2 ⊢; rw [List.erase_of_not_mem h2]) (by simp [resO]) rfl rfl)
  · exact rmk (r_ints_remove_yes h ho hl A B true j h1 (List.getElem?_eq_some_iff.1 h2).1) (after_ret rfl (by show _ = s.l.erase A; rw [← e]; exact h3) (by simp [resO]) rfl rfl)
theorem rs_sorted_wipe : HasR .sorted ⟨#[119, 105, 112, 101]⟩ .wipe := fun b s q r lL lK lO W A B hG hR ho hA hB hb h => by
  have hl : r.L.length ≤ 1000 := by rw [show r.L = s.l from hR]; have := hG.len; have := hG.cap; omega
  exact rmk (r_ints_wipe h ho hl A B true) (after_ret rfl (by rfl) (by simp [resO]) rfl rfl)
theorem rs_ints_push : HasR .ints ⟨#[112, 117, 115, 104]⟩ .push := fun b s q r lL lK lO W A B hG hR ho hA hB hb h => by
  have hl : r.L.length ≤ 1000 := by rw [show r.L = s.l from hR]; have := hG.len; have := hG.cap; omega
  exact rmk (r_ints_push h ho hl A B) (after_ret rfl (by show _ = A :: s.l; rw [show r.L = s.l from hR]) (by simp [resO]) rfl rfl)
theorem rs_ints_extend : HasR .ints ⟨#[101, 120, 116, 101, 110, 100]⟩ .extend := fun b s q r lL lK lO W A B hG hR ho hA hB hb h => by
  have hl : r.L.length ≤ 1000 := by rw [show r.L = s.l from hR]; have := hG.len; have := hG.cap; omega
  exact rmk (r_ints_extend h ho hl A B) (after_ret rfl (by show _ = s.l ++ [A]; rw [show r.L = s.l from hR]) (by simp [resO]) rfl rfl)
theorem rs_ints_reverse : HasR .ints ⟨#[114, 101, 118, 101, 114, 115, 101]⟩ .reverse := fun b s q r lL lK lO W A B hG hR ho hA hB hb h => by
  have hl : r.L.length ≤ 1000 := by rw [show r.L = s.l from hR]; have := hG.len; have := hG.cap; omega
  exact rmk (r_ints_reverse h ho hl A B) (after_ret rfl (by show _ = s.l.reverse; rw [show r.L = s.l from hR]) (by simp [resO]) rfl rfl)
theorem rs_sorted_push : HasR .sorted ⟨#[112, 117, 115, 104]⟩ .ins := fun b s q r lL lK lO W A B hG hR ho hA hB hb h => by
  have hl : r.L.length ≤ 1000 := by rw [show r.L = s.l from hR]; have := hG.len; have := hG.cap; omega
  exact rmk (r_ints_push_sorted h ho hl A B) (after_ret rfl (by show _ = insL A s.l; rw [show r.L = s.l from hR]) (by simp [resO]) rfl rfl)
theorem rs_sorted_extend : HasR .sorted ⟨#[101, 120, 116, 101, 110, 100]⟩ .ins := fun b s q r lL lK lO W A B hG hR ho hA hB hb h => by
  have hl : r.L.length ≤ 1000 := by rw [show r.L = s.l from hR]; have := hG.len; have := hG.cap; omega
  exact rmk (r_ints_extend_sorted h ho hl A B) (after_ret rfl (by show _ = insL A s.l; rw [show r.L = s.l from hR]) (by simp [resO]) rfl rfl)
theorem rs_sorted_reverse : HasR .sorted ⟨#[114, 101, 118, 101, 114, 115, 101]⟩ .nothing := fun b s q r lL lK lO W A B hG hR ho hA hB hb h => by
  have hl : r.L.length ≤ 1000 := by rw [show r.L = s.l from hR]; have := hG.len; have := hG.cap; omega
  exact rmk (r_ints_reverse_sorted h ho hl A B) (after_ret rfl hR (by simp [resO]) rfl rfl)
theorem rs_stack_count : HasR .stack ⟨#[99, 111, 117, 110, 116]⟩ .count := fun b s q r lL lK lO W A B hG hR ho hA hB hb h => by
  have e : r.L = s.l.reverse := hR
  have hl : r.L.length ≤ 1000 := by rw [e]; simp; have := hG.len; have := hG.cap; omega
  exact rmk (r_stack_count h ho A B) (after_ret rfl hR (by rw [e]; simp [resO]) rfl rfl)
theorem rs_stack_push : HasR .stack ⟨#[112, 117, 115, 104]⟩ .lay := fun b s q r lL lK lO W A B hG hR ho hA hB hb h => by
  have e : r.L = s.l.reverse := hR
  have hl : r.L.length ≤ 1000 := by rw [e]; simp; have := hG.len; have := hG.cap; omega
  unfold act
  dsimp only
  by_cases h0 : 0 ≤ A
  · rw [if_pos h0]
    exact rmk (r_stack_push h hl A B (by omega)) (after_ret rfl (by show _ = (A :: s.l).reverse; rw [e]; simp) (by simp [resO]) rfl rfl)
  · rw [if_neg h0]
    exact rmk (r_stack_push_neg h ho A B (by omega)) (after_stop rfl rfl rfl rfl)
theorem rs_stack_pop : HasR .stack ⟨#[112, 111, 112]⟩ .leave := fun b s q r lL lK lO W A B hG hR ho hA hB hb h => by
  have e : r.L = s.l.reverse := hR
  have hl : r.L.length ≤ 1000 := by rw [e]; simp; have := hG.len; have := hG.cap; omega
  unfold act
  dsimp only
  cases hs : s.l with
  | nil => exact rmk (r_stack_pop_nil h ho A B (by rw [e, hs]; rfl)) (after_stop rfl rfl rfl rfl)
  | cons z t => exact rmk (r_stack_pop h ho A B t.reverse z (by rw [e, hs]; simp)) (after_ret rfl (by rfl) (by simp [resO]) rfl rfl)
theorem rs_stack_peek : HasR .stack ⟨#[112, 101, 101, 107]⟩ .peek := fun b s q r lL lK lO W A B hG hR ho hA hB hb h => by
  have e : r.L = s.l.reverse := hR
  have hl : r.L.length ≤ 1000 := by rw [e]; simp; have := hG.len; have := hG.cap; omega
  unfold act
  dsimp only
  cases hs : s.l with
  | nil => exact rmk (r_stack_peek_nil h ho A B (by rw [e, hs]; rfl)) (after_ret rfl hR (by simp [resO]) rfl rfl)
  | cons z t => exact rmk (r_stack_peek h ho A B t.reverse z (by rw [e, hs]; simp)) (after_ret rfl hR (by simp [resO]) rfl rfl)
theorem rs_queue_count : HasR .queue ⟨#[99, 111, 117, 110, 116]⟩ .count := fun b s q r lL lK lO W A B hG hR ho hA hB hb h => by
  have e : r.L = s.l := hR
  have hl : r.L.length ≤ 1000 := by rw [e]; have := hG.len; have := hG.cap; omega
  unfold act
  dsimp only
  cases hs : s.l with
  | nil => exact rmk (r_queue_count_nil h ho A B (by rw [e, hs])) (after_ret rfl hR (by simp [resO]) rfl rfl)
  | cons z t => exact rmk (r_queue_count h ho A B t z (by rw [e, hs])) (after_ret rfl hR (by simp [resO]) rfl rfl)
theorem rs_queue_enter : HasR .queue ⟨#[101, 110, 116, 101, 114]⟩ .extend := fun b s q r lL lK lO W A B hG hR ho hA hB hb h => by
  have e : r.L = s.l := hR
  have hl : r.L.length ≤ 1000 := by rw [e]; have := hG.len; have := hG.cap; omega
  cases hs : s.l with
  | nil => exact rmk (r_queue_enter_nil h hl A B (by rw [e, hs])) (after_ret rfl (by show _ = s.l ++ [A]; rw [e]) (by simp [resO]) rfl rfl)
  | cons z t => exact rmk (r_queue_enter h hl A B t z (by rw [e, hs])) (after_ret rfl (by show _ = s.l ++ [A]; rw [e]) (by simp [resO]) rfl rfl)
theorem rs_queue_leave : HasR .queue ⟨#[108, 101, 97, 118, 101]⟩ .leave := fun b s q r lL lK lO W A B hG hR ho hA hB hb h => by
  have e : r.L = s.l := hR
  have hl : r.L.length ≤ 1000 := by rw [e]; have := hG.len; have := hG.cap; omega
  unfold act
  dsimp only
  cases hs : s.l with
  | nil => exact rmk (r_queue_leave_nil h ho A B (by rw [e, hs])) (after_stop rfl rfl rfl rfl)
  | cons z t => exact rmk (r_queue_leave h ho A B t z (by rw [e, hs])) (after_ret rfl (by rfl) (by simp [resO]) rfl rfl)
theorem rs_queue_front : HasR .queue ⟨#[102, 114, 111, 110, 116]⟩ .front := fun b s q r lL lK lO W A B hG hR ho hA hB hb h => by
  have e : r.L = s.l := hR
  have hl : r.L.length ≤ 1000 := by rw [e]; have := hG.len; have := hG.cap; omega
  unfold act
  dsimp only
  cases hs : s.l with
  | nil => exact rmk (r_queue_front_nil h ho A B (by rw [e, hs])) (after_stop rfl rfl rfl rfl)
  | cons z t => exact rmk (r_queue_front h ho A B t z (by rw [e, hs])) (after_ret rfl hR (by simp [resO]) rfl rfl)
theorem rs_set_size : HasR .set ⟨#[115, 105, 122, 101]⟩ .count := fun b s q r lL lK lO W A B hG hR ho hA hB hb h => by
  have e : r.L.Perm s.l := hR
  have hl : r.L.length ≤ 1000 := by rw [e.length_eq]; have := hG.len; have := hG.cap; omega
  exact rmk (r_set_size h ho hl A B) (after_ret rfl hR (by rw [e.length_eq]; rfl) rfl rfl)
theorem rs_set_has : HasR .set ⟨#[104, 97, 115]⟩ .has := fun b s q r lL lK lO W A B hG hR ho hA hB hb h => by
  have e : r.L.Perm s.l := hR
  have hl : r.L.length ≤ 1000 := by rw [e.length_eq]; have := hG.len; have := hG.cap; omega
  rcases idx_spec r.L A with ⟨h1, h2⟩ | ⟨j, h1, h2, _⟩
  · have h3 : A ∉ s.l := fun h => h2 (e.mem_iff.2 h)
    exact rmk (r_set_has_no h ho hl A B h1) (after_ret rfl hR (by simp [h3, bi, resO]) rfl rfl)
  · have h3 := e.mem_iff.1 (List.mem_of_getElem? h2)
    exact rmk (r_set_has_yes h ho hl A B j h1) (after_ret rfl hR (by simp [h3, bi, resO]) rfl rfl)
theorem rs_set_add : HasR .set ⟨#[97, 100, 100]⟩ .join := fun b s q r lL lK lO W A B hG hR ho hA hB hb h => by
  have e : r.L.Perm s.l := hR
  have hl : r.L.length ≤ 1000 := by rw [e.length_eq]; have := hG.len; have := hG.cap; omega
  rcases idx_spec r.L A with ⟨h1, h2⟩ | ⟨j, h1, h2, _⟩
  · have h3 : A ∉ s.l := fun h => h2 (e.mem_iff.2 h)
    refine rmk (r_set_add_no h ho hl A B h1) (after_ret rfl ?_ (by simp [resO]) rfl rfl)
    show (r.L ++ [A]).Perm (if A ∈ s.l then s.l else A :: s.l)
    rw [if_neg h3]
    exact (List.perm_append_comm (l₁ := r.L) (l₂ := [A])).trans (e.cons A)
  · have h3 := e.mem_iff.1 (List.mem_of_getElem? h2)
    refine rmk (r_set_add_yes h ho hl A B j h1) (after_ret rfl ?_ (by simp [resO]) rfl rfl)
    show r.L.Perm (if A ∈ s.l then s.l else A :: s.l)
    rw [if_pos h3]
    exact e
theorem rs_set_drop : HasR .set ⟨#[100, 114, 111, 112]⟩ .remove := fun b s q r lL lK lO W A B hG hR ho hA hB hb h => by
  have e : r.L.Perm s.l := hR
  have hl : r.L.length ≤ 1000 := by rw [e.length_eq]; have := hG.len; have := hG.cap; omega
  rcases idx_spec r.L A with ⟨h1, h2⟩ | ⟨j, h1, h2, h3⟩
  · have h4 : A ∉ s.l := fun h => h2 (e.mem_iff.2 h)
    exact rmk (r_set_drop_no h ho hl A B h1) (after_ret rfl (by show r.L.Perm (s.l.erase A); rw [List.erase_of_not_mem h4]; exact e) (by simp [resO]) rfl rfl)
  · exact rmk (r_set_drop_yes h ho hl A B j h1 (List.getElem?_eq_some_iff.1 h2).1) (after_ret rfl (by show List.Perm _ (s.l.erase A); dsimp only; rw [h3]; exact e.erase A) (by simp [resO]) rfl rfl)
theorem rs_counter_count : HasR .counter ⟨#[99, 111, 117, 110, 116]⟩ .lows := fun b s q r lL lK lO W A B hG hR ho hA hB hb h => by
  exact rmk (r_counter_count h ho A B) (after_ret rfl hR (by rw [show r.low = s.low from hR]; rfl) rfl rfl)
theorem rs_counter_up : HasR .counter ⟨#[117, 112]⟩ .up := fun b s q r lL lK lO W A B hG hR ho hA hB hb h => by
  have e : r.low = s.low := hR
  have hl : inR r.low := by rw [e]; exact hG.low
  unfold act
  dsimp only
  by_cases h1 : inR (s.low + 1)
  · rw [if_pos h1]
    exact rmk (r_counter_up_in h A B hl (by rw [e]; exact h1)) (after_ret rfl (by show _ = s.low + 1; rw [← e]) (by simp [resO]) rfl rfl)
  · rw [if_neg h1]
    exact rmk (r_counter_up_out h A B hl (by rw [e]; exact h1)) (after_stop rfl rfl rfl rfl)
theorem rs_counter_add : HasR .counter ⟨#[97, 100, 100]⟩ .add := fun b s q r lL lK lO W A B hG hR ho hA hB hb h => by
  have e : r.low = s.low := hR
  have hl : inR r.low := by rw [e]; exact hG.low
  unfold act
  dsimp only
  by_cases h0 : 0 ≤ A
  · rw [if_pos h0]
    by_cases h1 : inR (s.low + A)
    · rw [if_pos h1]
      exact rmk (r_counter_add_in h A B (by omega) hA hl (by rw [e]; exact h1)) (after_ret rfl (by show _ = s.low + A; rw [← e]) (by simp [resO]) rfl rfl)
    · rw [if_neg h1]
      exact rmk (r_counter_add_out h A B (by omega) hA hl (by rw [e]; exact h1)) (after_stop rfl rfl rfl rfl)
  · rw [if_neg h0]
    exact rmk (r_counter_add_neg h A B (by omega)) (after_stop rfl rfl rfl rfl)
theorem rs_range_low : HasR .range ⟨#[108, 111, 119]⟩ .lows := fun b s q r lL lK lO W A B hG hR ho hA hB hb h => by
  obtain ⟨e1, e2⟩ : r.low = s.low ∧ r.high = s.high := hR
  have hl : inR r.low := by rw [e1]; exact hG.low
  have hh : inR r.high := by rw [e2]; exact hG.high
  exact rmk (r_range_low h ho A B) (after_ret rfl ⟨e1, e2⟩ (by rw [e1]; rfl) rfl rfl)
theorem rs_range_high : HasR .range ⟨#[104, 105, 103, 104]⟩ .highs := fun b s q r lL lK lO W A B hG hR ho hA hB hb h => by
  obtain ⟨e1, e2⟩ : r.low = s.low ∧ r.high = s.high := hR
  have hl : inR r.low := by rw [e1]; exact hG.low
  have hh : inR r.high := by rw [e2]; exact hG.high
  exact rmk (r_range_high h ho A B) (after_ret rfl ⟨e1, e2⟩ (by rw [e2]; rfl) rfl rfl)
theorem rs_range_span : HasR .range ⟨#[115, 112, 97, 110]⟩ .span := fun b s q r lL lK lO W A B hG hR ho hA hB hb h => by
  obtain ⟨e1, e2⟩ : r.low = s.low ∧ r.high = s.high := hR
  have hl : inR r.low := by rw [e1]; exact hG.low
  have hh : inR r.high := by rw [e2]; exact hG.high
  unfold act
  dsimp only
  by_cases h1 : inR (B + 1)
  · rw [if_pos h1]
    by_cases h2 : A ≤ B + 1
    · rw [if_pos h2]
      exact rmk (r_range_span_in h ho A B hB h1 (by omega)) (after_ret rfl ⟨rfl, rfl⟩ (by simp [resO]) rfl rfl)
    · rw [if_neg h2]
      exact rmk (r_range_span_pre h ho A B hB h1 (by omega)) (after_stop rfl rfl rfl rfl)
  · rw [if_neg h1]
    exact rmk (r_range_span_over h ho A B hB h1) (after_stop rfl rfl rfl rfl)
theorem rs_range_contains : HasR .range ⟨#[99, 111, 110, 116, 97, 105, 110, 115]⟩ .contains := fun b s q r lL lK lO W A B hG hR ho hA hB hb h => by
  obtain ⟨e1, e2⟩ : r.low = s.low ∧ r.high = s.high := hR
  have hl : inR r.low := by rw [e1]; exact hG.low
  have hh : inR r.high := by rw [e2]; exact hG.high
  exact rmk (r_range_contains h ho A B) (after_ret rfl ⟨e1, e2⟩ (by rw [e1, e2]; rfl) rfl rfl)
theorem rs_range_size : HasR .range ⟨#[115, 105, 122, 101]⟩ .width := fun b s q r lL lK lO W A B hG hR ho hA hB hb h => by
  obtain ⟨e1, e2⟩ : r.low = s.low ∧ r.high = s.high := hR
  have hl : inR r.low := by rw [e1]; exact hG.low
  have hh : inR r.high := by rw [e2]; exact hG.high
  unfold act
  dsimp only
  by_cases h1 : inR (s.high - s.low)
  · by_cases h2 : inR (s.high - s.low + 1)
    · rw [if_pos ⟨h1, h2⟩]
      exact rmk (r_range_size_in h ho A B hl hh (by rw [e1, e2]; exact h1) (by rw [e1, e2]; exact h2)) (after_ret rfl ⟨e1, e2⟩ (by rw [e1, e2]; rfl) rfl rfl)
    · rw [if_neg (fun e => h2 e.2)]
      exact rmk (r_range_size_over2 h ho A B hl hh (by rw [e1, e2]; exact h1) (by rw [e1, e2]; exact h2)) (after_stop rfl rfl rfl rfl)
  · rw [if_neg (fun e => h1 e.1)]
    exact rmk (r_range_size_over1 h ho A B hl hh (by rw [e1, e2]; exact h1)) (after_stop rfl rfl rfl rfl)
theorem rs_range_sum : HasR .range ⟨#[115, 117, 109]⟩ .total := fun b s q r lL lK lO W A B hG hR ho hA hB hb h => by
  obtain ⟨e1, e2⟩ : r.low = s.low ∧ r.high = s.high := hR
  have hl : inR r.low := by rw [e1]; exact hG.low
  have hh : inR r.high := by rw [e2]; exact hG.high
  unfold act
  dsimp only
  by_cases h1 : inR (s.high - s.low)
  · by_cases h2 : inR (s.high - s.low + 1)
    · rw [if_pos ⟨h1, h2⟩]
      exact rmk (r_range_sum_in h ho A B hl hh (by rw [e1, e2]; exact h1) (by rw [e1, e2]; exact h2)) (after_fin (by rw [e1, e2]) rfl (fun _ => ⟨e1, e2⟩))
    · rw [if_neg (fun e => h2 e.2)]
      exact rmk (r_range_sum_over2 h ho A B hl hh (by rw [e1, e2]; exact h1) (by rw [e1, e2]; exact h2)) (after_stop rfl rfl rfl rfl)
  · rw [if_neg (fun e => h1 e.1)]
    exact rmk (r_range_sum_over1 h ho A B hl hh (by rw [e1, e2]; exact h1)) (after_stop rfl rfl rfl rfl)
theorem rs_arith_gcd : HasR .arith ⟨#[103, 99, 100]⟩ .gcd := fun b s q r lL lK lO W A B hG hR ho hA hB hb h => by
  unfold act
  dsimp only
  by_cases h1 : 0 ≤ A
  · by_cases h2 : 0 ≤ B
    · rw [if_pos ⟨h1, h2⟩]
      obtain ⟨x, rfl⟩ := Int.eq_ofNat_of_zero_le h1
      obtain ⟨y, rfl⟩ := Int.eq_ofNat_of_zero_le h2
      exact rmk (r_gcd_in h ho x y hA hB) (after_ret rfl trivial (by simp [resO]) rfl rfl)
    · rw [if_neg (fun e => h2 e.2)]
      exact rmk (r_gcd_y h ho A B (by omega) (by omega)) (after_stop rfl rfl rfl rfl)
  · rw [if_neg (fun e => h1 e.1)]
    exact rmk (r_gcd_x h ho A B (by omega)) (after_stop rfl rfl rfl rfl)
theorem rs_arith_power : HasR .arith ⟨#[112, 111, 119, 101, 114]⟩ .power := fun b s q r lL lK lO W A B hG hR ho hA hB hb h => by
  unfold act
  dsimp only
  by_cases h2 : 0 ≤ B
  · rw [if_pos h2]
    obtain ⟨y, rfl⟩ := Int.eq_ofNat_of_zero_le h2
    exact rmk (r_power_in h ho A y hA hB) (after_fin (by simp) rfl (fun _ => trivial))
  · rw [if_neg h2]
    exact rmk (r_power_y h ho A B (by omega)) (after_stop rfl rfl rfl rfl)
theorem rs_arith_fact : HasR .arith ⟨#[102, 97, 99, 116]⟩ .fact := fun b s q r lL lK lO W A B hG hR ho hA hB hb h => by
  obtain rfl : B = 0 := hb (by decide)
  unfold act
  dsimp only
  by_cases h1 : 0 ≤ A
  · rw [if_pos h1]
    by_cases h2 : A < 64
    · rw [if_pos h2]
      obtain ⟨x, rfl⟩ := Int.eq_ofNat_of_zero_le h1
      exact rmk (r_fact_in h ho x 0 (by omega) (by omega)) (after_fin rfl rfl (fun _ => trivial))
    · rw [if_neg h2]
      exact rmk (r_fact_deep h ho A 0 (by omega) (by omega) (by omega)) (after_stop rfl rfl rfl rfl)
  · rw [if_neg h1]
    exact rmk (r_fact_x h ho A 0 (by omega)) (after_stop rfl rfl rfl rfl)
theorem rs_arith_tries : HasR .arith ⟨#[116, 114, 105, 101, 115]⟩ .tries := fun b s q r lL lK lO W A B hG hR ho hA hB hb h => by
  unfold act
  dsimp only
  by_cases h1 : A ≤ 20
  · rw [if_pos h1]
    exact rmk (r_tries_in h ho A B (by omega)) (after_ret rfl trivial (by simp [resO]) rfl rfl)
  · rw [if_neg h1]
    exact rmk (r_tries_out h ho A B (by omega)) (after_stop rfl rfl rfl rfl)

theorem K1_ne {x y : Int} (h : x ≠ y) : K1 x ≠ K1 y := fun e => h (by cases e; rfl)
theorem RelT.start : RelT (.map []) [] [] := ⟨tidy_empty, List.nodup_nil, rfl, fun x => by simp [Maps.has], rfl, fun i x v h => by simp at h⟩
theorem RelT.force_no {D : DataW Unit} {K L : List Int} (h : RelT D K L) {x y : Int} (hx : x ∉ K) : RelT (D.put (K1 x) (.lit (K1 y))) (K ++ [x]) (L ++ [y]) := by
  have h0 : Maps.has D (K1 x) = false := by rw [h.has]; simpa using hx
  refine ⟨h.tidy.put (key1 x) _, ?_, by simp [h.len], fun z => ?_, ?_, fun i z v hz hv t => ?_⟩
  · exact List.nodup_append.2 ⟨h.nodup, by simp, fun a ha b hb => by simp at hb; subst hb; intro e; exact hx (e ▸ ha)⟩
  · by_cases e : z = x
    · subst e; rw [has_put_same h.tidy.isMap (key1 z)]; simp
    · rw [has_put_other (K1_ne e), h.has]; simp [e]
  · rw [size_put h.tidy, h0]; simp [h.size]
  · by_cases hi : i < K.length
    · rw [List.getElem?_append_left hi] at hz
      rw [List.getElem?_append_left (by rw [h.len]; exact hi)] at hv
      have hne : z ≠ x := fun e => hx (e ▸ List.mem_of_getElem? hz)
      rw [atKey_put_other (K1_ne hne)]
      exact h.val i z v hz hv t
    · have hl := (List.getElem?_eq_some_iff.1 hz).1
      simp at hl
      obtain rfl : i = K.length := by omega
      simp at hz
      rw [← h.len] at hv
      simp at hv
      subst hz hv
      exact atKey_put_same h.tidy.isMap (key1 _) _ _
theorem nodup_get {K : List Int} (h : K.Nodup) {i j : Nat} {x : Int} (hi : K[i]? = some x) (hj : K[j]? = some x) : i = j := by
  have h1 := (List.getElem?_eq_some_iff.1 hi)
  have h2 := (List.getElem?_eq_some_iff.1 hj)
  obtain ⟨h1, e1⟩ := h1
  obtain ⟨h2, e2⟩ := h2
  rcases Nat.lt_trichotomy i j with hlt | e | hlt
  · exact absurd (e1.trans e2.symm) (List.pairwise_iff_getElem.1 h i j h1 h2 hlt)
  · exact e
  · exact absurd (e2.trans e1.symm) (List.pairwise_iff_getElem.1 h j i h2 h1 hlt)
theorem RelT.force_yes {D : DataW Unit} {K L : List Int} (h : RelT D K L) {x y : Int} {i : Nat} (hi : K[i]? = some x) : RelT (D.put (K1 x) (.lit (K1 y))) K (L.set i y) := by
  have hx := List.mem_of_getElem? hi
  have h0 : Maps.has D (K1 x) = true := by rw [h.has]; simpa using hx
  refine ⟨h.tidy.put (key1 x) _, h.nodup, by simp [h.len], fun z => ?_, ?_, fun j z v hz hv t => ?_⟩
  · by_cases e : z = x
    · subst e; rw [has_put_same h.tidy.isMap (key1 z)]; simp [hx]
    · rw [has_put_other (K1_ne e), h.has]
  · rw [size_put h.tidy, h0]; simp [h.size]
  · by_cases e : z = x
    · subst e
      obtain rfl := nodup_get h.nodup hi hz
      rw [List.getElem?_set_self (by have := (List.getElem?_eq_some_iff.1 hi).1; rw [h.len]; exact this)] at hv
      cases hv
      exact atKey_put_same h.tidy.isMap (key1 _) _ _
    · rw [List.getElem?_set_ne (fun e' => e (by subst e'; rw [hi] at hz; cases hz; rfl))] at hv
      rw [atKey_put_other (K1_ne e)]
      exact h.val j z v hz hv t
theorem RelT.lose {D : DataW Unit} {K L : List Int} (h : RelT D K L) {x : Int} {i : Nat} (hi : K[i]? = some x) (he : K.take i ++ K.drop (i + 1) = K.erase x) : RelT (D.del (K1 x)) (K.take i ++ K.drop (i + 1)) (L.take i ++ L.drop (i + 1)) := by
  have hx := List.mem_of_getElem? hi
  have hil := (List.getElem?_eq_some_iff.1 hi).1
  have h0 : Maps.has D (K1 x) = true := by rw [h.has]; simpa using hx
  have hget : ∀ (M : List Int), M.length = K.length → ∀ j : Nat, (M.take i ++ M.drop (i + 1))[j]? = M[if j < i then j else j + 1]? := by
    intro M hM j
    by_cases hj : j < i
    · rw [List.getElem?_append_left (by simp; omega), List.getElem?_take, if_pos hj, if_pos hj]
    · rw [List.getElem?_append_right (by simp; omega), List.getElem?_drop, if_neg hj]
      congr 1
      simp; omega
  refine ⟨h.tidy.del _, by rw [he]; exact h.nodup.erase x, by simp [h.len], fun z => ?_, ?_, fun j z v hz hv t => ?_⟩
  · by_cases e : z = x
    · subst e; rw [has_del_same, he]; simp [h.nodup.mem_erase_iff]
    · rw [has_del_other (K1_ne e), h.has, he]; simp [h.nodup.mem_erase_iff, e]
  · have := size_del (k := K1 x) h.tidy
    rw [h0, h.size] at this
    simp at this ⊢; omega
  · rw [hget K rfl] at hz
    rw [hget L h.len] at hv
    have hne : z ≠ x := fun e => by
      subst e
      have := nodup_get h.nodup hi hz
      split at this <;> omega
    rw [atKey_del_other (K1_ne hne)]
    exact h.val _ z v hz hv t
theorem rs_table_count : HasR .table ⟨#[99, 111, 117, 110, 116]⟩ .many := fun b s q r lL lK lO W A B hG hR ho hA hB hb h => by
  obtain ⟨e, hK⟩ : RelT s.D r.K r.L ∧ r.K.length ≤ q := hR
  have hl3 : r.K.length ≤ 1000 := by have := hG.cap; omega
  have hK' : r.K.length ≤ q + 1 := by omega
  have hl : r.L.length ≤ 1000 := by rw [e.len]; exact hl3
  exact rmk (r_table_count h ho hl hl3 A B) (after_ret rfl ⟨e, hK'⟩ (by rw [← e.size]; rfl) rfl rfl)
theorem rs_table_has : HasR .table ⟨#[104, 97, 115]⟩ .known := fun b s q r lL lK lO W A B hG hR ho hA hB hb h => by
  obtain ⟨e, hK⟩ : RelT s.D r.K r.L ∧ r.K.length ≤ q := hR
  have hl3 : r.K.length ≤ 1000 := by have := hG.cap; omega
  have hK' : r.K.length ≤ q + 1 := by omega
  have hl : r.L.length ≤ 1000 := by rw [e.len]; exact hl3
  rcases idx_spec r.K A with ⟨h1, h2⟩ | ⟨j, h1, h2, _⟩
  · exact rmk (r_table_has_no h ho hl hl3 A B h1) (after_ret rfl ⟨e, hK'⟩ (by rw [e.has]; simp [h2, bi, resO]) rfl rfl)
  · have h3 := List.mem_of_getElem? h2
    exact rmk (r_table_has_yes h ho hl hl3 A B j h1) (after_ret rfl ⟨e, hK'⟩ (by rw [e.has]; simp [h3, bi, resO]) rfl rfl)
theorem rs_table_value_of : HasR .table ⟨#[118, 97, 108, 117, 101, 95, 111, 102]⟩ .value := fun b s q r lL lK lO W A B hG hR ho hA hB hb h => by
  obtain ⟨e, hK⟩ : RelT s.D r.K r.L ∧ r.K.length ≤ q := hR
  have hl3 : r.K.length ≤ 1000 := by have := hG.cap; omega
  have hK' : r.K.length ≤ q + 1 := by omega
  have hl : r.L.length ≤ 1000 := by rw [e.len]; exact hl3
  rcases idx_spec r.K A with ⟨h1, h2⟩ | ⟨j, h1, h2, _⟩
  · exact rmk (r_table_value_no h ho hl hl3 A B h1) (after_ret rfl ⟨e, hK'⟩ (by rw [valD_eq (atKey_of_not_has (by rw [e.has]; simpa using h2) _)]; rfl) rfl rfl)
  · have hj := (List.getElem?_eq_some_iff.1 h2).1
    have hz := List.getElem?_eq_getElem (l := r.L) (i := j) (by rw [e.len]; exact hj)
    exact rmk (r_table_value_yes h ho hl hl3 A B j _ h1 hz) (after_ret rfl ⟨e, hK'⟩ (by rw [valD_eq (e.val j A _ h2 hz _)]; rfl) rfl rfl)
theorem rs_table_force : HasR .table ⟨#[102, 111, 114, 99, 101]⟩ .force := fun b s q r lL lK lO W A B hG hR ho hA hB hb h => by
  obtain ⟨e, hK⟩ : RelT s.D r.K r.L ∧ r.K.length ≤ q := hR
  have hl3 : r.K.length ≤ 1000 := by have := hG.cap; omega
  have hK' : r.K.length ≤ q + 1 := by omega
  have hl : r.L.length ≤ 1000 := by rw [e.len]; exact hl3
  rcases idx_spec r.K A with ⟨h1, h2⟩ | ⟨j, h1, h2, _⟩
  · refine rmk (r_table_force_no h ho hl hl3 A B h1) (after_ret rfl ⟨e.force_no h2, ?_⟩ (by simp [resO]) rfl rfl)
    simp; omega
  · refine rmk (r_table_force_yes h ho hl hl3 A B j h1 (by rw [e.len]; exact (List.getElem?_eq_some_iff.1 h2).1)) (after_ret rfl ⟨e.force_yes h2, hK'⟩ (by simp [resO]) rfl rfl)
theorem rs_table_remove : HasR .table ⟨#[114, 101, 109, 111, 118, 101]⟩ .lose := fun b s q r lL lK lO W A B hG hR ho hA hB hb h => by
  obtain ⟨e, hK⟩ : RelT s.D r.K r.L ∧ r.K.length ≤ q := hR
  have hl3 : r.K.length ≤ 1000 := by have := hG.cap; omega
  have hK' : r.K.length ≤ q + 1 := by omega
  have hl : r.L.length ≤ 1000 := by rw [e.len]; exact hl3
  rcases idx_spec r.K A with ⟨h1, h2⟩ | ⟨j, h1, h2, h3⟩
  · refine rmk (r_table_remove_no h ho hl hl3 A B h1) (after_ret rfl ⟨?_, hK'⟩ (by simp [resO]) rfl rfl)
    show RelT (s.D.del (K1 A)) r.K r.L
    rw [del_of_not_has (by rw [e.has]; simpa using h2)]
    exact e
  · have hj := (List.getElem?_eq_some_iff.1 h2).1
    refine rmk (r_table_remove_yes h ho hl hl3 A B j h1 hj (by rw [e.len]; exact hj)) (after_ret rfl ⟨e.lose h2 h3, ?_⟩ (by simp [resO]) rfl rfl)
    simp; omega
end Go.Proofs.Bm
