/- A region that draws its order: a load may be taken first where nobody writes its cell till operation k has come up, and k waits for the load. No condition. -/
import Derived.Deep.RegionHeld
import Derived.Test.YtipdlkncacjahaaGreatDoorBRSe
set_option linter.unusedSimpArgs false
set_option linter.unusedVariables false
namespace Go.Proofs.Bm
open Go

section
variable {P : Program} {ops : Array Oper} {Q : Exit → Act → World → Prop} {md : Region.Mode} {S : World → Prop} {k : Nat}

/-- Whatever order is picked from here on, and S holds behind every operation that is carried out till k has come up. -/
def wpAnyT (P : Program) (md : Region.Mode) (ops : Array Oper) (Q : Exit → Act → World → Prop) (S : World → Prop) (k : Nat) : Nat → Array Bool → Act → World → Prop
  | 0, listed, a, w => Region.ready md ops listed = [] ∧ Q .normal a w
  | fuel + 1, listed, a, w =>
    (Region.ready md ops listed = [] → Q .normal a w) ∧
    ∀ i ∈ Region.ready md ops listed, wpOp P ops Q i (fun a' w' => ((listed.setIfInBounds i true).getD k false = false → S w') ∧ wpAnyT P md ops Q S k fuel (listed.setIfInBounds i true) a' w') a w

theorem wpAny_of_T : ∀ (fuel : Nat) (listed : Array Bool) (a : Act) (w : World), wpAnyT P md ops Q S k fuel listed a w → wpAny P md ops Q fuel listed a w
  | 0, _, _, _, h => h
  | fuel + 1, _, _, _, h => ⟨h.1, fun i hi => wpOp_mono (fun a' w' h' => wpAny_of_T fuel _ a' w' h'.2) (h.2 i hi)⟩

/-- What has come up has all that it waits for. -/
def Closed (md : Region.Mode) (ops : Array Oper) (listed : Array Bool) : Prop :=
  ∀ j oj, ops[j]? = some oj → listed.getD j false = true → ∀ e ∈ oj.after, Region.binds md e = true → listed.getD e.on false = true
def closedB (md : Region.Mode) (ops : Array Oper) (listed : Array Bool) : Bool :=
  (List.range ops.size).all fun j => match ops[j]? with
    | some oj => !listed.getD j false || oj.after.all fun e => !Region.binds md e || listed.getD e.on false
    | none => true
theorem closed_of {listed : Array Bool} (h : closedB md ops listed = true) : Closed md ops listed := by
  intro j oj hj hl e he hb
  have h1 := List.all_eq_true.1 h j (List.mem_range.2 (Array.getElem?_eq_some_iff.1 hj).1)
  simp only [hj, hl, Bool.not_true, Bool.false_or] at h1
  have h2 := Array.all_eq_true'.1 h1 e he
  simpa [hb] using h2
theorem getD_some {listed : Array Bool} {i : Nat} (h : listed.getD i true = false) : listed.getD i false = false := by
  rcases Nat.lt_or_ge i listed.size with h' | h'
  · simp [h'] at h ⊢; exact h
  · simp [Array.getElem?_eq_none h'] at h
theorem Closed.set {listed : Array Bool} (c : Closed md ops listed) {i : Nat} (hi : i ∈ Region.ready md ops listed) : Closed md ops (listed.setIfInBounds i true) := by
  obtain ⟨_, oi, hoi, hall⟩ := mem_ready.1 hi
  intro j oj hj hl e he hb
  by_cases hij : i = j
  · subst hij
    have : oj = oi := Option.some.inj (hj.symm.trans hoi)
    subst this
    exact getD_set_true (hall e he hb)
  · rw [getD_set_ne false hij] at hl
    exact getD_set_true (c j oj hj hl e he hb)

/-- k waits for i, maybe through others. -/
def needs (md : Region.Mode) (ops : Array Oper) : Nat → Nat → Nat → Bool
  | 0, _, _ => false
  | n + 1, k, i => match ops[k]? with
    | some ok => ok.after.any fun e => Region.binds md e && (e.on == i || needs md ops n e.on i)
    | none => false
theorem needs_spec {listed : Array Bool} (c : Closed md ops listed) {i : Nat} (hi : listed.getD i false = false) :
    ∀ (n k : Nat), needs md ops n k i = true → k ∉ Region.ready md ops listed ∧ listed.getD k false = false
  | 0, _, h => by cases h
  | n + 1, k, h => by
    unfold needs at h
    split at h
    · rename_i ok hk
      obtain ⟨e, he, hx⟩ := Array.any_eq_true'.1 h
      simp only [Bool.and_eq_true, Bool.or_eq_true, beq_iff_eq] at hx
      have hon : listed.getD e.on false = false := by
        rcases hx.2 with h2 | h2
        · rw [h2]; exact hi
        · exact (needs_spec c hi n e.on h2).2
      refine ⟨fun hr => ?_, ?_⟩
      · obtain ⟨_, ok', hk', hall⟩ := mem_ready.1 hr
        have : ok' = ok := Option.some.inj (hk'.symm.trans hk)
        subst this
        have := hall e he hx.1
        rw [hon] at this
        cases this
      · cases hl : listed.getD k false with
        | false => rfl
        | true =>
          have := c k ok hk hl e he hx.1
          rw [hon] at this
          cases this
    · cases h

theorem wpAnyT_first {i : Nat} {oi : Oper} {v : Value} (hi : ops[i]? = some oi) (hsel : ∀ (j : Nat) (o : Oper) cs b, ops[j]? = some o → o.op ≠ .select cs b)
    (hQ : ∀ c a w, Q (.panic c) (a.put oi.dst v) w → Q (.panic c) a w) {n : Nat} (hk : needs md ops n k i = true) :
    ∀ (fuel : Nat) (listed : Array Bool) (a : Act) (w : World), Closed md ops listed →
      (∀ j oj, ops[j]? = some oj → j ≠ i → listed.getD j true = false → (∀ e ∈ oj.after, Region.binds md e = true → e.on ≠ i) → oi.apart ops oj = true) →
      i ∈ Region.ready md ops listed → YieldsIf P ops S oi v a → S w →
      wpAnyT P md ops Q S k fuel (listed.setIfInBounds i true) (a.put oi.dst v) w → wpAnyT P md ops Q S k (fuel + 1) listed a w := by
  intro fuel
  induction fuel with
  | zero =>
    intro listed a w _ _ hr hy hS H
    refine ⟨fun h => (by rw [h] at hr; cases hr), fun j hj => ?_⟩
    by_cases hji : j = i
    · subst hji; exact hy.wpOp hi hS ⟨fun _ => hS, H⟩
    · have := ready_mono hj hji
      rw [H.1] at this
      cases this
  | succ fuel ih =>
    intro listed a w hc hfree hr hy hS H
    refine ⟨fun h => (by rw [h] at hr; cases hr), fun j hj => ?_⟩
    by_cases hji : j = i
    · subst hji; exact hy.wpOp hi hS ⟨fun _ => hS, H⟩
    · have h1 := H.2 j (ready_mono hj hji)
      obtain ⟨hjun, oj, hoj, hall⟩ := mem_ready.1 hj
      have hiun := getD_some (mem_ready.1 hr).1
      obtain ⟨k1, k2⟩ := needs_spec hc hiun n k hk
      have hki : i ≠ k := fun e => k1 (e ▸ hr)
      have hkj : j ≠ k := fun e => k1 (e ▸ hj)
      have hnot : ∀ e ∈ oj.after, Region.binds md e = true → e.on ≠ i := fun e he hb heq => by
        have h1 := hall e he hb
        rw [heq, hiun] at h1
        cases h1
      have h2 := wpOp_putIf hoj (hfree j oj hoj hji hjun hnot) (fun cs b => hsel i oi cs b hi) (fun cs b => hsel j oj cs b hoj) hQ hy h1
      have hfree' : ∀ k ok, ops[k]? = some ok → k ≠ i → (listed.setIfInBounds j true).getD k true = false →
          (∀ e ∈ ok.after, Region.binds md e = true → e.on ≠ i) → oi.apart ops ok = true := fun k ok hk hki hun hno => by
        refine hfree k ok hk hki ?_ hno
        by_cases hjk : j = k
        · subst hjk; exact hjun
        · rw [getD_set_ne true hjk] at hun; exact hun
      refine wpOp_mono (fun a' w' h3 => ?_) h2
      have hS' : S w' := h3.2.1 (by rw [getD_set_ne false hkj, getD_set_ne false hki]; exact k2)
      refine ⟨fun _ => hS', ih (listed.setIfInBounds j true) a' w' (hc.set hj) hfree' (ready_mono hr (Ne.symm hji)) h3.1 hS' ?_⟩
      rw [Array.setIfInBounds_comm _ _ hji]
      exact h3.2.2

/-- Take number i first. -/
theorem wpAnyT_take {i : Nat} {oi : Oper} {v : Value} {fuel : Nat} {listed : Array Bool} {a : Act} {w : World} (hi : ops[i]? = some oi)
    (hs : Region.noSelect ops = true) (hf : Region.free md ops listed i = true) (hr : (Region.ready md ops listed).contains i = true) (hc : closedB md ops listed = true) (hk : needs md ops ops.size k i = true)
    (hQ : ∀ c a w, Q (.panic c) (a.put oi.dst v) w → Q (.panic c) a w) (hy : YieldsIf P ops S oi v a) (hS : S w)
    (h : wpAnyT P md ops Q S k fuel (listed.setIfInBounds i true) (a.put oi.dst v) w) : wpAnyT P md ops Q S k (fuel + 1) listed a w :=
  wpAnyT_first hi (Region.noSelect_spec hs) hQ hk fuel listed a w (closed_of hc) (Region.free_spec hi hf) (by simpa using hr) hy hS h

def AllReadyT (P : Program) (md : Region.Mode) (ops : Array Oper) (Q : Exit → Act → World → Prop) (S : World → Prop) (k fuel : Nat) (listed : Array Bool) (a : Act) (w : World) (rs : List Nat) : Prop :=
  ∀ i ∈ rs, wpOp P ops Q i (fun a' w' => ((listed.setIfInBounds i true).getD k false = false → S w') ∧ wpAnyT P md ops Q S k fuel (listed.setIfInBounds i true) a' w') a w
theorem AllReadyT.nil {fuel : Nat} {listed : Array Bool} {a : Act} {w : World} : AllReadyT P md ops Q S k fuel listed a w [] := fun _ h => by cases h
/-- Number i comes up; behind it S is to be shown. -/
theorem AllReadyT.live {fuel : Nat} {listed : Array Bool} {a : Act} {w : World} {i : Nat} {o : Oper} {rs : List Nat} (ho : ops[i]? = some o)
    (h : ∀ K' : Act → World → Prop, Shut (∀ a w, S w → (S w → wpAnyT P md ops Q S k fuel (listed.setIfInBounds i true) a w) → K' a w) → if Region.wanted o (yielded ops a.tmps) = true then Oper.wp P o a w K' Q else K' (a.put o.dst undef) w)
    (hs : AllReadyT P md ops Q S k fuel listed a w rs) : AllReadyT P md ops Q S k fuel listed a w (i :: rs) := fun j hj => by
  rcases List.mem_cons.1 hj with rfl | hj
  · exact wpOp_step ho (fun K' hK => h K' (fun a w hS hW => hK a w ⟨fun _ => hS, hW hS⟩))
  · exact hs j hj
/-- Number i comes up; k has come up already, or is i. -/
theorem AllReadyT.dead {fuel : Nat} {listed : Array Bool} {a : Act} {w : World} {i : Nat} {o : Oper} {rs : List Nat} (ho : ops[i]? = some o) (hd : (listed.setIfInBounds i true).getD k false = true)
    (h : ∀ K' : Act → World → Prop, Shut (∀ a w, wpAnyT P md ops Q S k fuel (listed.setIfInBounds i true) a w → K' a w) → if Region.wanted o (yielded ops a.tmps) = true then Oper.wp P o a w K' Q else K' (a.put o.dst undef) w)
    (hs : AllReadyT P md ops Q S k fuel listed a w rs) : AllReadyT P md ops Q S k fuel listed a w (i :: rs) := fun j hj => by
  rcases List.mem_cons.1 hj with rfl | hj
  · exact wpOp_step ho (fun K' hK => h K' (fun a w hW => hK a w ⟨fun e => (by rw [hd] at e; cases e), hW⟩))
  · exact hs j hj
theorem wpAnyT_ready {rs : List Nat} {fuel : Nat} {listed : Array Bool} {a : Act} {w : World} (hr : Region.ready md ops listed = rs) (hne : rs ≠ [])
    (h : AllReadyT P md ops Q S k fuel listed a w rs) : wpAnyT P md ops Q S k (fuel + 1) listed a w :=
  ⟨fun h0 => absurd (hr ▸ h0) hne, hr ▸ h⟩
theorem wpAnyT_done {listed : Array Bool} {a : Act} {w : World} (hr : Region.ready md ops listed = []) (h : Q .normal a w) :
    ∀ fuel, wpAnyT P md ops Q S k fuel listed a w
  | 0 => ⟨hr, h⟩
  | _ + 1 => ⟨fun _ => h, by rw [hr]; simp⟩
/-- The beginning; k: the operation from which on S is not asked. -/
theorem wp_region_live (k : Nat) (S : World → Prop) {id : Nat} {a : Act} {w : World} (hm : P.follows .mixedOrders = true) (hS : S w.drew)
    (h : S w.drew → wpAnyT P .any ops Q S k ops.size (Array.replicate ops.size false) a w.drew) : (Code.region id ops true).wp P Q a w :=
  wp_region_any hm (wpAny_of_T _ _ _ _ (h hS))
end
end Go.Proofs.Bm

namespace Go.Proofs.Bm
open Go.RowKit Go.Maps
variable {b : Nat} {s s' s'' : RSt} {lL lK lO : Option Nat} {W w' w'' : World}

theorem REnds.join {l1 l2 l3 : Option Nat} (k1 : Kept (FR b lL lK lO) W w') (f : ∀ c, c < W.heap.size → FR b l1 l2 l3 c → FR b lL lK lO c) (h2 : REnds b s'' l1 l2 l3 w' w'') : REnds b s'' lL lK lO W w'' := by
  obtain ⟨k2, m1, m2, m3, r2, f2⟩ := h2
  exact ⟨k1.trans k2 f, m1, m2, m3, r2, fun c hc e => f c hc (f2 c (Nat.lt_of_lt_of_le hc k1.size) e)⟩
theorem REnds.to_drew (h : REnds b s' lL lK lO W w') : REnds b s' lL lK lO W w'.drew := by
  obtain ⟨k1, l1, l2, l3, r, f⟩ := h
  exact ⟨k1.drew, l1, l2, l3, r.drew, f⟩
theorem RS.notFR (h : RS b s lL lK lO W) {c : Nat} (hc : W.heap.size ≤ c) : ¬ FR b lL lK lO c := by
  rintro (e | e | e | e)
  · have := h.lt; omega
  · obtain ⟨v, _, ho⟩ := h.c0; have := ho.lt _ e; omega
  · obtain ⟨v, _, ho⟩ := h.c1; have := ho.lt _ e; omega
  · obtain ⟨v, _, ho⟩ := h.c4; have := ho.lt _ e; omega
/-- The elements of L have turned in place. -/
theorem RS.turn_L {l' : List Int} {v : Value} (h : RS b s lL lK lO W) (hc : W.cell? ⟨b, 0, none⟩ = some v) (hk : Kept (fun j => lL = some j) W w') (ho : OwnI w' v lL l') : REnds b { s with L := l' } lL lK lO W w' := by
  obtain ⟨v1, v2, v3, hm, h1, h2, h3⟩ := h.m
  have hb := h.lt
  have e : v1 = v := by simp [World.cell?, hm] at hc; exact hc
  subst e
  have hm' : w'.heap[b]? = _ := (hk.block b hb (fun e => (h.dL _ e).1 rfl)).trans hm
  exact ⟨hk.mono (fun j e => .inr (.inl e)), lL, lK, lO, ⟨⟨v1, v2, v3, hm', ho, h2.kept hk (fun c e e' => (h.dL c e').2.1 e), h3.kept hk (fun c e e' => (h.dL c e').2.2 e)⟩, h.dL, h.dK, h.dO⟩, fun _ _ e => e⟩
/-- An element of the list is set. -/
theorem OwnI.store {w : World} {k : Option Nat} {xs : List Int} {b off n cap : Nat} (h : OwnI w (.slice (some ⟨b, off, none⟩) n cap) k xs) (i : Nat) (y : Int) : OwnI (w.setCell ⟨b, off + i, none⟩ (I y)) (.slice (some ⟨b, off, none⟩) n cap) k (xs.set i y) := by
  obtain ⟨rfl, rfl, h1, h2, cur, h3, h4, h5⟩ := h.row
  have := OwnI.of_row (off := off) (cap := cap) (xs := xs.set i y) (heap_setCell_same w b (off + i) (I y) h3) (by simpa using h1) h2 (by simpa using h4) ?_
  · simpa using this
  · intro j z hj
    have hl := (List.getElem?_eq_some_iff.1 hj).1
    simp only [List.length_set] at hl
    rw [Array.getElem?_setIfInBounds]
    by_cases e : i = j
    · subst e
      rw [if_pos rfl, if_pos (by omega)]
      rw [List.getElem?_set_self hl] at hj
      cases hj; rfl
    · rw [if_neg (by omega)]
      rw [List.getElem?_set_ne e] at hj
      exact h5 j z hj

set_option maxRecDepth 100000 in
set_option maxHeartbeats 2000000 in
theorem r_table_remove_no (h : RS b s lL lK lO W) (hn : s.out.length ≤ 1000) (hn2 : s.L.length ≤ 1000) (hn3 : s.K.length ≤ 1000) (x y : Int) (hx : idx s.K x = -1) :
    Calls Tryz.prog 22 #[PB b, CL ⟨#[114, 101, 109, 111, 118, 101]⟩ x y] W fun e w' => e = .returned (.tuple #[]) ∧ REnds b { s with K := s.K, L := s.L } lL lK lO W w' := by
  have hA := h.alloc (.cells #[.string ⟨#[114, 101, 109, 111, 118, 101]⟩, I x, I y] 40)
  have hf0 := hA.f 0
  have hf1 := hA.f 1
  obtain ⟨lv, hc1, ho⟩ := hA.c1
  obtain ⟨a0, cap0, rfl, _⟩ := ho.form
  have hix := fun k => r_index (w := (W.alloc (.cells #[.string ⟨#[114, 101, 109, 111, 118, 101]⟩, I x, I y] 40)).drewN k) (ho.keep fun _ _ => rfl) x
  rw [hx] at hix
  obtain ⟨lw, hc0, hoL⟩ := hA.c0
  obtain ⟨a1, cap1, rfl, _⟩ := hoL.form
  go_enter Tryz.func22, Tryz.ntmps22
  go_wp2
  go_quiet ((go_at_call 80; exact Calls.quiet_of_same (hix _)))
  have hS := hA.drewN nq
  go_wp2_with fail
  obtain ⟨V, hV⟩ : ∃ V, V = (W.alloc (.cells #[.string ⟨#[114, 101, 109, 111, 118, 101]⟩, I x, I y] 40)).drewN nq := ⟨_, rfl⟩
  rw [← hV]
  rw [← hV] at hS
  have gc1 : V.cell? ⟨b, 1, none⟩ = some (.slice a0 s.K.length cap0) := by rw [hV]; exact hc1
  have gc0 : V.cell? ⟨b, 0, none⟩ = some (.slice a1 s.L.length cap1) := by rw [hV]; exact hc0
  have gf1 := hS.f 1
  have gf0 := hS.f 0
  have hoK : OwnI V (.slice a0 s.K.length cap0) lK s.K := by rw [hV]; exact ho.keep fun _ _ => rfl
  have hkb : lK ≠ some b := fun e => (hS.dK b e).1 rfl
  replace hV := Lib.hid hV
  replace hS := Lib.hid hS
  clear hix hA hc1 hc0 ho hoL hf0 hf1
  refine (r_without_none (w := V) hoK (-1) (by omega)).mono ?_
  rintro e w' ⟨rfl, rfl⟩
  have hR2 : REnds b { s with K := s.K } lL lK lO V (V.setCell ⟨b, 1, none⟩ (.slice a0 s.K.length cap0)) := hS.out.set_K (Kept.refl _ _) hoK (.inl rfl)
  have gd : (V.setCell ⟨b, 1, none⟩ (.slice a0 s.K.length cap0)).cell? ⟨b, 0, none⟩ = some (.slice a1 s.L.length cap1) := (cell_set_off _ _ _ _ _ _ (by omega)).trans gc0
  replace hR2 := Lib.hid hR2
  go_wp2_with fail
  obtain ⟨w2, hw2⟩ : ∃ w2, w2 = V.setCell ⟨b, 1, none⟩ (.slice a0 s.K.length cap0) := ⟨_, rfl⟩
  replace hR2 := hR2.out
  rw [← hw2] at gd hR2 ⊢
  clear hw2
  clear gc1 gc0 gf1 gf0 hoK hkb
  obtain ⟨k1, l1, l2, l3, r1, f1⟩ := hR2
  obtain ⟨lv2, hd0, hoL2⟩ := r1.c0
  obtain rfl : _ = lv2 := Option.some.inj (gd.symm.trans hd0)
  try dsimp only at hoL2
  have gc0 := gd
  have gf0 := r1.f 0
  clear gd hd0
  replace r1 := Lib.hid r1
  refine (r_without_none (w := w2) hoL2 (-1) (by omega)).mono ?_
  rintro e w' ⟨rfl, rfl⟩
  have hR3 : REnds b { s with K := s.K, L := s.L } l1 l2 l3 w2 (w2.setCell ⟨b, 0, none⟩ (.slice a1 s.L.length cap1)) := r1.out.set_L (Kept.refl _ _) hoL2 (.inl rfl)
  replace hR3 := Lib.hid hR3
  go_wp2_with fail
  first | go_end0 | ((try simp only [Exit.inBlock, Exit.then]); refine bodyPost_ret (results_none rfl _ _ _) rfl ?_)
  have hR := REnds.join k1 f1 hR3.out
  rw [hV.out] at hR
  exact ⟨rfl, hR.drewN.alloc⟩

set_option maxRecDepth 100000 in
set_option maxHeartbeats 2000000 in
theorem r_table_remove_yes (h : RS b s lL lK lO W) (hn : s.out.length ≤ 1000) (hn2 : s.L.length ≤ 1000) (hn3 : s.K.length ≤ 1000) (x y : Int) (i : Nat) (hx : idx s.K x = (i : Int)) (hi : i < s.K.length) (hiL : i < s.L.length) :
    Calls Tryz.prog 22 #[PB b, CL ⟨#[114, 101, 109, 111, 118, 101]⟩ x y] W fun e w' => e = .returned (.tuple #[]) ∧ REnds b { s with K := s.K.take i ++ s.K.drop (i + 1), L := s.L.take i ++ s.L.drop (i + 1) } lL lK lO W w' := by
  have hA := h.alloc (.cells #[.string ⟨#[114, 101, 109, 111, 118, 101]⟩, I x, I y] 40)
  have hf0 := hA.f 0
  have hf1 := hA.f 1
  obtain ⟨lv, hc1, ho⟩ := hA.c1
  obtain ⟨a0, cap0, rfl, _⟩ := ho.form
  have hix := fun k => r_index (w := (W.alloc (.cells #[.string ⟨#[114, 101, 109, 111, 118, 101]⟩, I x, I y] 40)).drewN k) (ho.keep fun _ _ => rfl) x
  rw [hx] at hix
  obtain ⟨lw, hc0, hoL⟩ := hA.c0
  obtain ⟨a1, cap1, rfl, _⟩ := hoL.form
  go_enter Tryz.func22, Tryz.ntmps22
  go_wp2
  go_quiet ((go_at_call 80; exact Calls.quiet_of_same (hix _)))
  have hS := hA.drewN nq
  go_wp2_with fail
  obtain ⟨V, hV⟩ : ∃ V, V = (W.alloc (.cells #[.string ⟨#[114, 101, 109, 111, 118, 101]⟩, I x, I y] 40)).drewN nq := ⟨_, rfl⟩
  rw [← hV]
  rw [← hV] at hS
  have gc1 : V.cell? ⟨b, 1, none⟩ = some (.slice a0 s.K.length cap0) := by rw [hV]; exact hc1
  have gc0 : V.cell? ⟨b, 0, none⟩ = some (.slice a1 s.L.length cap1) := by rw [hV]; exact hc0
  have gf1 := hS.f 1
  have gf0 := hS.f 0
  have hoK : OwnI V (.slice a0 s.K.length cap0) lK s.K := by rw [hV]; exact ho.keep fun _ _ => rfl
  have hkb : lK ≠ some b := fun e => (hS.dK b e).1 rfl
  replace hV := Lib.hid hV
  replace hS := Lib.hid hS
  clear hix hA hc1 hc0 ho hoL hf0 hf1
  refine (r_without hoK hn3 i hi).mono ?_
  rintro e w' ⟨v', k', rfl, ho', hk', hr⟩
  obtain ⟨a', cap', rfl, _⟩ := ho'.form
  rw [show (s.K.take i ++ s.K.drop (i + 1)).length = s.K.length - 1 by simp; omega] at ho' ⊢
  have hk2 := hk'.mono (G := fun j => lK = some j) (fun _ e => e.elim)
  have gc' := hk'.cell_some gc1 (fun e => e)
  have gf' := (hk'.frozen (p := ⟨b, 1, none⟩) hS.out.lt (fun e => e)).trans gf1
  have gd' := hk'.cell_some gc0 (fun e => e)
  have hR2 : REnds b { s with K := s.K.take i ++ s.K.drop (i + 1) } lL lK lO V (w'.setCell ⟨b, 1, none⟩ (.slice a' (s.K.length - 1) cap')) := hS.out.set_K hk2 ho' (.inr hr)
  have gd : (w'.setCell ⟨b, 1, none⟩ (.slice a' (s.K.length - 1) cap')).cell? ⟨b, 0, none⟩ = some (.slice a1 s.L.length cap1) := (cell_set_off _ _ _ _ _ _ (by omega)).trans gd'
  replace hR2 := Lib.hid hR2
  go_wp2_with fail
  obtain ⟨w2, hw2⟩ : ∃ w2, w2 = w'.setCell ⟨b, 1, none⟩ (.slice a' (s.K.length - 1) cap') := ⟨_, rfl⟩
  replace hR2 := hR2.out
  rw [← hw2] at gd hR2 ⊢
  clear hw2
  clear gc' gf' gd' ho' hk' hr hk2
  clear gc1 gc0 gf1 gf0 hoK hkb
  obtain ⟨k1, l1, l2, l3, r1, f1⟩ := hR2
  obtain ⟨lv2, hd0, hoL2⟩ := r1.c0
  obtain rfl : _ = lv2 := Option.some.inj (gd.symm.trans hd0)
  try dsimp only at hoL2
  have gc0 := gd
  have gf0 := r1.f 0
  clear gd hd0
  replace r1 := Lib.hid r1
  refine (r_without hoL2 hn2 i hiL).mono ?_
  rintro e w' ⟨v', k', rfl, ho', hk', hr⟩
  obtain ⟨a', cap', rfl, _⟩ := ho'.form
  rw [show (s.L.take i ++ s.L.drop (i + 1)).length = s.L.length - 1 by simp; omega] at ho' ⊢
  have hk2 := hk'.mono (G := fun j => l1 = some j) (fun _ e => e.elim)
  have gc' := hk'.cell_some gc0 (fun e => e)
  have gf' := (hk'.frozen (p := ⟨b, 0, none⟩) r1.out.lt (fun e => e)).trans gf0
  have hR3 : REnds b { s with K := s.K.take i ++ s.K.drop (i + 1), L := s.L.take i ++ s.L.drop (i + 1) } l1 l2 l3 w2 (w'.setCell ⟨b, 0, none⟩ (.slice a' (s.L.length - 1) cap')) := r1.out.set_L hk2 ho' (.inr hr)
  replace hR3 := Lib.hid hR3
  go_wp2_with fail
  first | go_end0 | ((try simp only [Exit.inBlock, Exit.then]); refine bodyPost_ret (results_none rfl _ _ _) rfl ?_)
  have hR := REnds.join k1 f1 hR3.out
  rw [hV.out] at hR
  exact ⟨rfl, hR.drewN.alloc⟩

set_option maxRecDepth 100000 in
set_option maxHeartbeats 2000000 in
theorem r_table_force_no (h : RS b s lL lK lO W) (hn : s.out.length ≤ 1000) (hn2 : s.L.length ≤ 1000) (hn3 : s.K.length ≤ 1000) (x y : Int) (hx : idx s.K x = -1) :
    Calls Tryz.prog 22 #[PB b, CL ⟨#[102, 111, 114, 99, 101]⟩ x y] W fun e w' => e = .returned (.tuple #[]) ∧ REnds b { s with K := s.K ++ [x], L := s.L ++ [y] } lL lK lO W w' := by
  have hA := h.alloc (.cells #[.string ⟨#[102, 111, 114, 99, 101]⟩, I x, I y] 40)
  have hf0 := hA.f 0
  have hf1 := hA.f 1
  obtain ⟨lv, hc1, ho⟩ := hA.c1
  obtain ⟨a0, cap0, rfl, _⟩ := ho.form
  have hix := fun k => r_index (w := (W.alloc (.cells #[.string ⟨#[102, 111, 114, 99, 101]⟩, I x, I y] 40)).drewN k) (ho.keep fun _ _ => rfl) x
  rw [hx] at hix
  go_enter Tryz.func22, Tryz.ntmps22
  go_wp2
  go_quiet ((go_at_call 80; exact Calls.quiet_of_same (hix _)))
  have hS := hA.drewN nq
  go_wp2_with fail
  obtain ⟨V, hV⟩ : ∃ V, V = (W.alloc (.cells #[.string ⟨#[102, 111, 114, 99, 101]⟩, I x, I y] 40)).drewN nq := ⟨_, rfl⟩
  rw [← hV]
  rw [← hV] at hS
  obtain ⟨gx, gy⟩ : V.cell? ⟨W.heap.size, 1, none⟩ = some (I x) ∧ V.cell? ⟨W.heap.size, 2, none⟩ = some (I y) := by
    rw [hV]
    refine ⟨?_, ?_⟩ <;> (show (W.alloc _).cell? _ = _; unfold World.cell?; rw [heap_alloc, if_pos rfl]; rfl)
  have gc : V.cell? ⟨b, 1, none⟩ = some (.slice a0 s.K.length cap0) := by rw [hV]; exact hc1
  have gf := hS.f 1
  have hfb : lK ≠ some b := fun e => (hS.dK b e).1 rfl
  have hoV : OwnI V (.slice a0 s.K.length cap0) lK s.K := by rw [hV]; exact ho.keep fun _ _ => rfl
  have hsz : W.heap.size < V.heap.size := by rw [hV]; show W.heap.size < (W.alloc _).heap.size; simp
  have hnF : ¬ FR b lL lK lO W.heap.size := h.notFR (Nat.le_refl _)
  have hkW : lK ≠ some W.heap.size := fun e => hnF (.inr (.inr (.inl e)))
  replace hV := Lib.hid hV
  replace hS := Lib.hid hS
  clear hix hA hc1 ho
  refine wp_region_live 11 (fun V => V.cell? ⟨b, 1, none⟩ = some (.slice a0 s.K.length cap0) ∧ V.cell? ⟨W.heap.size, 1, none⟩ = some (I x)) (by kernel_rfl) ⟨gc, gx⟩ (fun hHeld => ?_)
  refine wpAnyT_take (i := 0) (oi := _) (v := ?_) rfl (by kernel_rfl) (by kernel_rfl) (by kernel_rfl) (by kernel_rfl) (by kernel_rfl) (fun _ _ _ h => h) (Or.inl ⟨by rfl, ?_⟩) (by with_reducible assumption) ?_
  rotate_left
  · (intro V hSw; obtain ⟨s1, s2⟩ := hSw; go_simp); with_reducible rfl
  try simp only [Act.put, List.setIfInBounds_toArray, List.set_cons_zero, List.set_cons_succ]
  refine wpAnyT_take (i := 1) (oi := _) (v := ?_) rfl (by kernel_rfl) (by kernel_rfl) (by kernel_rfl) (by kernel_rfl) (by kernel_rfl) (fun _ _ _ h => h) (Or.inl ⟨by rfl, ?_⟩) (by with_reducible assumption) ?_
  rotate_left
  · (intro V hSw; obtain ⟨s1, s2⟩ := hSw; go_simp); with_reducible rfl
  try simp only [Act.put, List.setIfInBounds_toArray, List.set_cons_zero, List.set_cons_succ]
  refine wpAnyT_take (i := 2) (oi := _) (v := ?_) rfl (by kernel_rfl) (by kernel_rfl) (by kernel_rfl) (by kernel_rfl) (by kernel_rfl) (fun _ _ _ h => h) (Or.inl ⟨by rfl, ?_⟩) (by with_reducible assumption) ?_
  rotate_left
  · (intro V hSw; obtain ⟨s1, s2⟩ := hSw; go_simp); with_reducible rfl
  try simp only [Act.put, List.setIfInBounds_toArray, List.set_cons_zero, List.set_cons_succ]
  refine wpAnyT_take (i := 3) (oi := _) (v := ?_) rfl (by kernel_rfl) (by kernel_rfl) (by kernel_rfl) (by kernel_rfl) (by kernel_rfl) (fun _ _ _ h => h) (Or.inl ⟨by rfl, ?_⟩) (by with_reducible assumption) ?_
  rotate_left
  · (intro V hSw; obtain ⟨s1, s2⟩ := hSw; go_simp); with_reducible rfl
  try simp only [Act.put, List.setIfInBounds_toArray, List.set_cons_zero, List.set_cons_succ]
  refine wpAnyT_take (i := 4) (oi := _) (v := ?_) rfl (by kernel_rfl) (by kernel_rfl) (by kernel_rfl) (by kernel_rfl) (by kernel_rfl) (fun _ _ _ h => h) (Or.inl ⟨by rfl, ?_⟩) (by with_reducible assumption) ?_
  rotate_left
  · (intro V hSw; obtain ⟨s1, s2⟩ := hSw; go_simp); with_reducible rfl
  try simp only [Act.put, List.setIfInBounds_toArray, List.set_cons_zero, List.set_cons_succ]
  refine wpAnyT_take (i := 5) (oi := _) (v := ?_) rfl (by kernel_rfl) (by kernel_rfl) (by kernel_rfl) (by kernel_rfl) (by kernel_rfl) (fun _ _ _ h => h) (Or.inl ⟨by rfl, ?_⟩) (by with_reducible assumption) ?_
  rotate_left
  · (intro V hSw; obtain ⟨s1, s2⟩ := hSw; go_simp); with_reducible rfl
  try simp only [Act.put, List.setIfInBounds_toArray, List.set_cons_zero, List.set_cons_succ]
  refine wpAnyT_take (i := 6) (oi := _) (v := ?_) rfl (by kernel_rfl) (by kernel_rfl) (by kernel_rfl) (by kernel_rfl) (by kernel_rfl) (fun _ _ _ h => h) (Or.inl ⟨by rfl, ?_⟩) (by with_reducible assumption) ?_
  rotate_left
  · (intro V hSw; obtain ⟨s1, s2⟩ := hSw; go_simp); with_reducible rfl
  try simp only [Act.put, List.setIfInBounds_toArray, List.set_cons_zero, List.set_cons_succ]
  refine wpAnyT_ready (rs := [7]) (by kernel_rfl) (by simp) ?_
  refine AllReadyT.live (o := _) rfl (fun K hK => ?_) AllReadyT.nil
  go_simp
  refine hK.out _ _ ⟨(cell_alloc V _ _ _ hS.out.lt).trans gc, (cell_alloc V _ _ _ hsz).trans gx⟩ (fun hHeld => ?_)
  clear hK K
  try simp only [Act.put, List.setIfInBounds_toArray, List.set_cons_zero, List.set_cons_succ]
  refine wpAnyT_ready (rs := [8]) (by kernel_rfl) (by simp) ?_
  refine AllReadyT.live (o := _) rfl (fun K hK => ?_) AllReadyT.nil
  refine step_of_wp rfl ?_
  refine wp_append_I _ _ rfl rfl x V.heap.size 1 rfl (show OwnI (V.drew.alloc (.cells #[I x] 3)) _ lK s.K from hoV.drew.alloc _) (by omega) (cell_new1 V.drew _ _) ?_
  intro v' k' w' ho' hk' hr
  obtain ⟨a', cap', rfl, _⟩ := ho'.form
  rw [show (s.K ++ [x]).length = s.K.length + 1 by simp] at ho' ⊢
  have hk2 : Kept (fun j => lK = some j) V w' := (((Kept.refl _ V).drew).alloc _).trans' hk'
  have gc' := hk2.cell_some gc hfb
  have gf' := (hk2.frozen (p := ⟨b, 1, none⟩) hS.out.lt hfb).trans gf
  refine hK.out _ _ ⟨gc', hk2.cell_some gx hkW⟩ (fun hHeld => ?_)
  clear hK K
  try simp only [Act.put, List.setIfInBounds_toArray, List.set_cons_zero, List.set_cons_succ]
  refine wpAnyT_take (i := 9) (oi := _) (v := ?_) rfl (by kernel_rfl) (by kernel_rfl) (by kernel_rfl) (by kernel_rfl) (by kernel_rfl) (fun _ _ _ h => h) (Or.inl ⟨by rfl, ?_⟩) (by with_reducible assumption) ?_
  rotate_left
  · (intro V hSw; obtain ⟨s1, s2⟩ := hSw; go_simp); with_reducible rfl
  try simp only [Act.put, List.setIfInBounds_toArray, List.set_cons_zero, List.set_cons_succ]
  refine wpAnyT_take (i := 10) (oi := _) (v := ?_) rfl (by kernel_rfl) (by kernel_rfl) (by kernel_rfl) (by kernel_rfl) (by kernel_rfl) (fun _ _ _ h => h) (Or.inl ⟨by rfl, ?_⟩) (by with_reducible assumption) ?_
  rotate_left
  · (intro V hSw; obtain ⟨s1, s2⟩ := hSw; go_simp); with_reducible rfl
  try simp only [Act.put, List.setIfInBounds_toArray, List.set_cons_zero, List.set_cons_succ]
  refine wpAnyT_ready (rs := [11]) (by kernel_rfl) (by simp) ?_
  refine AllReadyT.dead (o := _) rfl (by kernel_rfl) (fun K hK => ?_) AllReadyT.nil
  go_simp
  obtain ⟨w2, hw2⟩ : ∃ w2, w2 = w'.setCell ⟨b, 1, none⟩ (.slice a' (s.K.length + 1) cap') := ⟨_, rfl⟩
  have hRw2 : REnds b { s with K := s.K ++ [x] } lL lK lO V w2 := by rw [hw2]; exact hS.out.set_K hk2 ho' (hr.of_le (by show V.heap.size ≤ (V.drew.alloc _).heap.size; simp))
  rw [← hw2]
  replace hw2 := Lib.hid hw2
  refine hK.out _ _ ?_
  clear hK K
  try simp only [Act.put, List.setIfInBounds_toArray, List.set_cons_zero, List.set_cons_succ]
  refine wpAnyT_done (by kernel_rfl) ?_ _
  go_wp2_with fail
  obtain ⟨k1, l1, l2, l3, r1, f1⟩ := hRw2
  obtain ⟨lv2, hd0, hoL⟩ := r1.c0
  obtain ⟨a1, cap1, rfl, _⟩ := hoL.form
  dsimp only at hoL hd0
  have gy2 := k1.cell_some gy hnF
  have gf2 := r1.f 0
  have hfb2 : l1 ≠ some b := fun e => (r1.dL b e).1 rfl
  have hsz2 : W.heap.size < w2.heap.size := Nat.lt_of_lt_of_le hsz k1.size
  have hlW : l1 ≠ some W.heap.size := fun e => hnF (f1 _ hsz (.inr (.inl e)))
  replace r1 := Lib.hid r1
  clear gc gx gf hfb hoV hkW
  clear ho' hk' hr hk2 gc' gf'
  refine wp_region_live 11 (fun V => V.cell? ⟨b, 0, none⟩ = some (.slice a1 s.L.length cap1) ∧ V.cell? ⟨W.heap.size, 2, none⟩ = some (I y)) (by kernel_rfl) ⟨hd0, gy2⟩ (fun hHeld => ?_)
  refine wpAnyT_take (i := 0) (oi := _) (v := ?_) rfl (by kernel_rfl) (by kernel_rfl) (by kernel_rfl) (by kernel_rfl) (by kernel_rfl) (fun _ _ _ h => h) (Or.inl ⟨by rfl, ?_⟩) (by with_reducible assumption) ?_
  rotate_left
  · (intro V hSw; obtain ⟨s1, s2⟩ := hSw; go_simp); with_reducible rfl
  try simp only [Act.put, List.setIfInBounds_toArray, List.set_cons_zero, List.set_cons_succ]
  refine wpAnyT_take (i := 1) (oi := _) (v := ?_) rfl (by kernel_rfl) (by kernel_rfl) (by kernel_rfl) (by kernel_rfl) (by kernel_rfl) (fun _ _ _ h => h) (Or.inl ⟨by rfl, ?_⟩) (by with_reducible assumption) ?_
  rotate_left
  · (intro V hSw; obtain ⟨s1, s2⟩ := hSw; go_simp); with_reducible rfl
  try simp only [Act.put, List.setIfInBounds_toArray, List.set_cons_zero, List.set_cons_succ]
  refine wpAnyT_take (i := 2) (oi := _) (v := ?_) rfl (by kernel_rfl) (by kernel_rfl) (by kernel_rfl) (by kernel_rfl) (by kernel_rfl) (fun _ _ _ h => h) (Or.inl ⟨by rfl, ?_⟩) (by with_reducible assumption) ?_
  rotate_left
  · (intro V hSw; obtain ⟨s1, s2⟩ := hSw; go_simp); with_reducible rfl
  try simp only [Act.put, List.setIfInBounds_toArray, List.set_cons_zero, List.set_cons_succ]
  refine wpAnyT_take (i := 3) (oi := _) (v := ?_) rfl (by kernel_rfl) (by kernel_rfl) (by kernel_rfl) (by kernel_rfl) (by kernel_rfl) (fun _ _ _ h => h) (Or.inl ⟨by rfl, ?_⟩) (by with_reducible assumption) ?_
  rotate_left
  · (intro V hSw; obtain ⟨s1, s2⟩ := hSw; go_simp); with_reducible rfl
  try simp only [Act.put, List.setIfInBounds_toArray, List.set_cons_zero, List.set_cons_succ]
  refine wpAnyT_take (i := 4) (oi := _) (v := ?_) rfl (by kernel_rfl) (by kernel_rfl) (by kernel_rfl) (by kernel_rfl) (by kernel_rfl) (fun _ _ _ h => h) (Or.inl ⟨by rfl, ?_⟩) (by with_reducible assumption) ?_
  rotate_left
  · (intro V hSw; obtain ⟨s1, s2⟩ := hSw; go_simp); with_reducible rfl
  try simp only [Act.put, List.setIfInBounds_toArray, List.set_cons_zero, List.set_cons_succ]
  refine wpAnyT_take (i := 5) (oi := _) (v := ?_) rfl (by kernel_rfl) (by kernel_rfl) (by kernel_rfl) (by kernel_rfl) (by kernel_rfl) (fun _ _ _ h => h) (Or.inl ⟨by rfl, ?_⟩) (by with_reducible assumption) ?_
  rotate_left
  · (intro V hSw; obtain ⟨s1, s2⟩ := hSw; go_simp); with_reducible rfl
  try simp only [Act.put, List.setIfInBounds_toArray, List.set_cons_zero, List.set_cons_succ]
  refine wpAnyT_take (i := 6) (oi := _) (v := ?_) rfl (by kernel_rfl) (by kernel_rfl) (by kernel_rfl) (by kernel_rfl) (by kernel_rfl) (fun _ _ _ h => h) (Or.inl ⟨by rfl, ?_⟩) (by with_reducible assumption) ?_
  rotate_left
  · (intro V hSw; obtain ⟨s1, s2⟩ := hSw; go_simp); with_reducible rfl
  try simp only [Act.put, List.setIfInBounds_toArray, List.set_cons_zero, List.set_cons_succ]
  refine wpAnyT_ready (rs := [7]) (by kernel_rfl) (by simp) ?_
  refine AllReadyT.live (o := _) rfl (fun K hK => ?_) AllReadyT.nil
  go_simp
  refine hK.out _ _ ⟨(cell_alloc w2 _ _ _ r1.out.lt).trans hd0, (cell_alloc w2 _ _ _ hsz2).trans gy2⟩ (fun hHeld => ?_)
  clear hK K
  try simp only [Act.put, List.setIfInBounds_toArray, List.set_cons_zero, List.set_cons_succ]
  refine wpAnyT_ready (rs := [8]) (by kernel_rfl) (by simp) ?_
  refine AllReadyT.live (o := _) rfl (fun K hK => ?_) AllReadyT.nil
  refine step_of_wp rfl ?_
  refine wp_append_I _ _ rfl rfl y w2.heap.size 1 rfl (show OwnI (w2.drew.alloc (.cells #[I y] 3)) _ l1 s.L from hoL.drew.alloc _) (by omega) (cell_new1 w2.drew _ _) ?_
  intro v' k' w' ho' hk' hr
  obtain ⟨a', cap', rfl, _⟩ := ho'.form
  rw [show (s.L ++ [y]).length = s.L.length + 1 by simp] at ho' ⊢
  have hk2 : Kept (fun j => l1 = some j) w2 w' := (((Kept.refl _ w2).drew).alloc _).trans' hk'
  have gc' := hk2.cell_some hd0 hfb2
  have gf' := (hk2.frozen (p := ⟨b, 0, none⟩) r1.out.lt hfb2).trans gf2
  refine hK.out _ _ ⟨gc', hk2.cell_some gy2 hlW⟩ (fun hHeld => ?_)
  clear hK K
  try simp only [Act.put, List.setIfInBounds_toArray, List.set_cons_zero, List.set_cons_succ]
  refine wpAnyT_take (i := 9) (oi := _) (v := ?_) rfl (by kernel_rfl) (by kernel_rfl) (by kernel_rfl) (by kernel_rfl) (by kernel_rfl) (fun _ _ _ h => h) (Or.inl ⟨by rfl, ?_⟩) (by with_reducible assumption) ?_
  rotate_left
  · (intro V hSw; obtain ⟨s1, s2⟩ := hSw; go_simp); with_reducible rfl
  try simp only [Act.put, List.setIfInBounds_toArray, List.set_cons_zero, List.set_cons_succ]
  refine wpAnyT_take (i := 10) (oi := _) (v := ?_) rfl (by kernel_rfl) (by kernel_rfl) (by kernel_rfl) (by kernel_rfl) (by kernel_rfl) (fun _ _ _ h => h) (Or.inl ⟨by rfl, ?_⟩) (by with_reducible assumption) ?_
  rotate_left
  · (intro V hSw; obtain ⟨s1, s2⟩ := hSw; go_simp); with_reducible rfl
  try simp only [Act.put, List.setIfInBounds_toArray, List.set_cons_zero, List.set_cons_succ]
  refine wpAnyT_ready (rs := [11]) (by kernel_rfl) (by simp) ?_
  refine AllReadyT.dead (o := _) rfl (by kernel_rfl) (fun K hK => ?_) AllReadyT.nil
  go_simp
  obtain ⟨w3, hw2⟩ : ∃ w2, w2 = w'.setCell ⟨b, 0, none⟩ (.slice a' (s.L.length + 1) cap') := ⟨_, rfl⟩
  have hRw3 : REnds b { s with K := s.K ++ [x], L := s.L ++ [y] } l1 l2 l3 w2 w3 := by rw [hw2]; exact r1.out.set_L hk2 ho' (hr.of_le (by show w2.heap.size ≤ (w2.drew.alloc _).heap.size; simp))
  rw [← hw2]
  replace hw2 := Lib.hid hw2
  refine hK.out _ _ ?_
  clear hK K
  try simp only [Act.put, List.setIfInBounds_toArray, List.set_cons_zero, List.set_cons_succ]
  refine wpAnyT_done (by kernel_rfl) ?_ _
  go_wp2_with fail
  first | go_end0 | ((try simp only [Exit.inBlock, Exit.then]); refine bodyPost_ret (results_none rfl _ _ _) rfl ?_)
  have hR := REnds.join k1 f1 hRw3
  rw [hV.out] at hR
  exact ⟨rfl, hR.drewN.alloc⟩

set_option maxRecDepth 100000 in
set_option maxHeartbeats 2000000 in
theorem r_table_force_yes (h : RS b s lL lK lO W) (hn : s.out.length ≤ 1000) (hn2 : s.L.length ≤ 1000) (hn3 : s.K.length ≤ 1000) (x y : Int) (i : Nat) (hx : idx s.K x = (i : Int)) (hi : i < s.L.length) :
    Calls Tryz.prog 22 #[PB b, CL ⟨#[102, 111, 114, 99, 101]⟩ x y] W fun e w' => e = .returned (.tuple #[]) ∧ REnds b { s with L := s.L.set i y } lL lK lO W w' := by
  have hA := h.alloc (.cells #[.string ⟨#[102, 111, 114, 99, 101]⟩, I x, I y] 40)
  have hf0 := hA.f 0
  have hf1 := hA.f 1
  obtain ⟨lv, hc1, ho⟩ := hA.c1
  obtain ⟨a0, cap0, rfl, _⟩ := ho.form
  have hix := fun k => r_index (w := (W.alloc (.cells #[.string ⟨#[102, 111, 114, 99, 101]⟩, I x, I y] 40)).drewN k) (ho.keep fun _ _ => rfl) x
  rw [hx] at hix
  have hi0 : ¬ (i : Int) < 0 := by omega
  go_enter Tryz.func22, Tryz.ntmps22
  go_wp2
  go_quiet ((go_at_call 80; exact Calls.quiet_of_same (hix _)))
  have hS := hA.drewN nq
  obtain ⟨lv2, gc, hoL⟩ := hS.c0
  obtain ⟨a1, cap1, rfl, _⟩ := hoL.form
  have gf := hS.f 0
  have hsz : W.heap.size < ((W.alloc (.cells #[.string ⟨#[102, 111, 114, 99, 101]⟩, I x, I y] 40)).drewN nq).heap.size := by show W.heap.size < (W.alloc _).heap.size; simp
  obtain ⟨V, hV⟩ : ∃ V, V = (W.alloc (.cells #[.string ⟨#[102, 111, 114, 99, 101]⟩, I x, I y] 40)).drewN nq := ⟨_, rfl⟩
  have gcW := gc
  have gfW := gf
  rw [← hV] at hS gc gf hoL hsz
  have gx0 : V.cell? ⟨W.heap.size, 0, none⟩ = some (.string ⟨#[102, 111, 114, 99, 101]⟩) := by
    rw [hV]
    show (W.alloc _).cell? _ = _; unfold World.cell?; rw [heap_alloc, if_pos rfl]; rfl
  have gy : V.cell? ⟨W.heap.size, 2, none⟩ = some (I y) := by
    rw [hV]
    show (W.alloc _).cell? _ = _; unfold World.cell?; rw [heap_alloc, if_pos rfl]; rfl
  replace hV := Lib.hid hV
  replace hS := Lib.hid hS
  clear hix hA hc1 ho hf0 hf1
  have hs1 : SrcI (V.alloc (.cells #[] 3)) (.slice a1 s.L.length cap1) s.L := by
    rcases hoL.cases with ⟨e, _, e0⟩ | ⟨bb, off, cap, e, _⟩
    · rw [e0] at hi; simp at hi
    · cases e
      exact SrcI.part (hoL.alloc _) 0 _ _ rfl (fun j y hj => by simpa using hj)
  have ho0 := OwnI.fresh V
  have hK1 : Kept (fun j => V.heap.size ≤ j) V (V.alloc (.cells #[] 3)) := (Kept.refl _ V).alloc _
  have gcA : (V.alloc (.cells #[] 3)).cell? ⟨b, 0, none⟩ = some (.slice a1 s.L.length cap1) := (cell_alloc _ _ _ _ hS.out.lt).trans gc
  rw [← hV.out]
  clear gcW gfW
  go_wp2_with (at_builtin; refine wpList_append_many (ys := s.L) rfl _ _ rfl rfl hs1 ho0 (by simp) (by simp; omega) ?_; intro v1 k1 w1 ho1 hk1 hr1 hn1; have hw1 := Kept.news hK1 (fun c e => Nat.le_of_eq (Option.some.inj e)) hk1; have hN1 := hr1.new (w := V) (fun c e => Nat.le_of_eq (Option.some.inj e)) (by simp); simp only [List.nil_append] at ho1; obtain ⟨g, off, cap2, rfl, hg⟩ := (ho1.cases.resolve_left (fun e => by rw [e.2.2] at hi; simp at hi)); have gc1 := hw1.cell_some gc (by have := hS.out.lt; simp; omega); have gf1 := (hw1.frozen (p := ⟨b, 0, none⟩) hS.out.lt (by have := hS.out.lt; simp; omega)).trans gf)
  obtain ⟨w2, hw2⟩ : ∃ w2, w2 = w1.setCell ⟨b, 0, none⟩ (.slice (some ⟨g, off, none⟩) s.L.length cap2) := ⟨_, rfl⟩
  have hR2 : REnds b { s with L := s.L } lL lK lO V w2 := by rw [hw2]; exact hS.out.set_L (hw1.ofNews.mono (G := fun j => lL = some j) (fun _ e => e.elim)) ho1 (.inr hN1)
  have gd : w2.cell? ⟨b, 0, none⟩ = some (.slice (some ⟨g, off, none⟩) s.L.length cap2) := by rw [hw2]; exact cell_set _ _ _ _ (by rw [gc1]; rfl)
  have gy2 : w2.cell? ⟨W.heap.size, 2, none⟩ = some (I y) := by
    rw [hw2]
    have := h.lt
    exact (cell_set_block _ _ _ _ _ _ (by omega)).trans (hw1.cell_some gy (by simp; omega))
  rw [← hw2]
  clear hw2 gc1 gf1 gcA hk1 hr1 hw1 hN1 hn1 ho1 hs1 ho0 hK1
  obtain ⟨k2, l1, l2, l3, r1, f1⟩ := hR2
  obtain ⟨lv2, hd0, hoL2⟩ := r1.c0
  obtain rfl : _ = lv2 := Option.some.inj (gd.symm.trans hd0)
  try dsimp only at hoL2
  obtain ⟨cz, hcz⟩ := Option.isSome_iff_exists.1 (hoL2.some_cell (j := i) (by have := hoL2.row.2.2.1; omega))
  have hfz := hoL2.frozen (off + i)
  have hiz : (0 : Int) ≤ (i : Int) := by omega
  have hilt : (i : Int) < (s.L.length : Int) := by omega
  clear hd0
  replace r1 := Lib.hid r1
  refine wp_region_live 8 (fun V => V.cell? ⟨b, 0, none⟩ = some (.slice (some ⟨g, off, none⟩) s.L.length cap2) ∧ V.cell? ⟨W.heap.size, 2, none⟩ = some (I y)) (by kernel_rfl) ⟨gd, gy2⟩ (fun hHeld => ?_)
  refine wpAnyT_take (i := 0) (oi := _) (v := ?_) rfl (by kernel_rfl) (by kernel_rfl) (by kernel_rfl) (by kernel_rfl) (by kernel_rfl) (fun _ _ _ h => h) (Or.inl ⟨by rfl, ?_⟩) (by with_reducible assumption) ?_
  rotate_left
  · (intro V hSw; obtain ⟨s1, s2⟩ := hSw; go_simp); with_reducible rfl
  try simp only [Act.put, List.setIfInBounds_toArray, List.set_cons_zero, List.set_cons_succ]
  refine wpAnyT_take (i := 1) (oi := _) (v := ?_) rfl (by kernel_rfl) (by kernel_rfl) (by kernel_rfl) (by kernel_rfl) (by kernel_rfl) (fun _ _ _ h => h) (Or.inl ⟨by rfl, ?_⟩) (by with_reducible assumption) ?_
  rotate_left
  · (intro V hSw; obtain ⟨s1, s2⟩ := hSw; go_simp); with_reducible rfl
  try simp only [Act.put, List.setIfInBounds_toArray, List.set_cons_zero, List.set_cons_succ]
  refine wpAnyT_take (i := 2) (oi := _) (v := ?_) rfl (by kernel_rfl) (by kernel_rfl) (by kernel_rfl) (by kernel_rfl) (by kernel_rfl) (fun _ _ _ h => h) (Or.inl ⟨by rfl, ?_⟩) (by with_reducible assumption) ?_
  rotate_left
  · (intro V hSw; obtain ⟨s1, s2⟩ := hSw; go_simp); with_reducible rfl
  try simp only [Act.put, List.setIfInBounds_toArray, List.set_cons_zero, List.set_cons_succ]
  refine wpAnyT_take (i := 3) (oi := _) (v := ?_) rfl (by kernel_rfl) (by kernel_rfl) (by kernel_rfl) (by kernel_rfl) (by kernel_rfl) (fun _ _ _ h => h) (Or.inl ⟨by rfl, ?_⟩) (by with_reducible assumption) ?_
  rotate_left
  · (intro V hSw; obtain ⟨s1, s2⟩ := hSw; go_simp); with_reducible rfl
  try simp only [Act.put, List.setIfInBounds_toArray, List.set_cons_zero, List.set_cons_succ]
  refine wpAnyT_take (i := 4) (oi := _) (v := ?_) rfl (by kernel_rfl) (by kernel_rfl) (by kernel_rfl) (by kernel_rfl) (by kernel_rfl) (fun _ _ _ h => h) (Or.inl ⟨by rfl, ?_⟩) (by with_reducible assumption) ?_
  rotate_left
  · (intro V hSw; obtain ⟨s1, s2⟩ := hSw; go_simp); with_reducible rfl
  try simp only [Act.put, List.setIfInBounds_toArray, List.set_cons_zero, List.set_cons_succ]
  refine wpAnyT_take (i := 5) (oi := _) (v := ?_) rfl (by kernel_rfl) (by kernel_rfl) (by kernel_rfl) (by kernel_rfl) (by kernel_rfl) (fun _ _ _ h => h) (Or.inl ⟨by rfl, ?_⟩) (by with_reducible assumption) ?_
  rotate_left
  · (intro V hSw; obtain ⟨s1, s2⟩ := hSw; go_simp); with_reducible rfl
  try simp only [Act.put, List.setIfInBounds_toArray, List.set_cons_zero, List.set_cons_succ]
  refine wpAnyT_take (i := 6) (oi := _) (v := ?_) rfl (by kernel_rfl) (by kernel_rfl) (by kernel_rfl) (by kernel_rfl) (by kernel_rfl) (fun _ _ _ h => h) (Or.inl ⟨by rfl, ?_⟩) (by with_reducible assumption) ?_
  rotate_left
  · (intro V hSw; obtain ⟨s1, s2⟩ := hSw; go_simp); with_reducible rfl
  try simp only [Act.put, List.setIfInBounds_toArray, List.set_cons_zero, List.set_cons_succ]
  refine wpAnyT_take (i := 7) (oi := _) (v := ?_) rfl (by kernel_rfl) (by kernel_rfl) (by kernel_rfl) (by kernel_rfl) (by kernel_rfl) (fun _ _ _ h => h) (Or.inl ⟨by rfl, ?_⟩) (by with_reducible assumption) ?_
  rotate_left
  · (intro V hSw; obtain ⟨s1, s2⟩ := hSw; go_simp); with_reducible rfl
  try simp only [Act.put, List.setIfInBounds_toArray, List.set_cons_zero, List.set_cons_succ]
  refine wpAnyT_ready (rs := [8]) (by kernel_rfl) (by simp) ?_
  refine AllReadyT.dead (o := _) rfl (by kernel_rfl) (fun K hK => ?_) AllReadyT.nil
  go_simp
  obtain ⟨w3, hw3⟩ : ∃ w3, w3 = w2.setCell ⟨g, off + i, none⟩ (I y) := ⟨_, rfl⟩
  have hR3 : REnds b { s with L := s.L.set i y } l1 l2 l3 w2 w3 := by rw [hw3]; exact r1.out.turn_L gd ((Kept.refl _ _).setCell (fun _ => hoL2.row.2.1) _) (hoL2.store i y)
  rw [← hw3]
  replace hw3 := Lib.hid hw3
  refine hK.out _ _ ?_
  clear hK K
  try simp only [Act.put, List.setIfInBounds_toArray, List.set_cons_zero, List.set_cons_succ]
  refine wpAnyT_done (by kernel_rfl) ?_ _
  go_wp2_with fail
  first | go_end0 | ((try simp only [Exit.inBlock, Exit.then]); refine bodyPost_ret (results_none rfl _ _ _) rfl ?_)
  have hR := (REnds.join k2 f1 hR3).to_drew
  rw [hV.out] at hR
  exact ⟨rfl, hR.drewN.alloc⟩
end Go.Proofs.Bm
