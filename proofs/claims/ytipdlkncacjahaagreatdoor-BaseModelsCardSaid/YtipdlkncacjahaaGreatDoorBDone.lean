/- The deferred function of (*model).done: it recovers a stop. Conditions: the two results' variables. -/
import Derived.Test.YtipdlkncacjahaaGreatDoorBKit
import Derived.Recover
import Derived.Defers
import Derived.BigRegion
import Derived.Deep.RegionHeld3
import Derived.Handy
set_option linter.unusedSimpArgs false
set_option linter.unusedVariables false
namespace Go.Proofs.Bm
open Go.RowKit

theorem ta_stop (f e : Int) (w : World) : (Instr.typeAssert (.iface 52 (.agg #[.int .i64 f, .int .i64 e])) 20 52 true).run Tryz.prog w = .ok (.tuple #[.agg #[.int .i64 f, .int .i64 e], .bool true]) w := by kernel_rfl

set_option maxHeartbeats 1000000 in
theorem catch_stop (b c : Nat) (f e0 x y z : Int) (older : List PanicEntry) (w : World) (hb : w.cell? ⟨b, 0, none⟩ = some (.int .i64 x)) (hc0 : w.cell? ⟨c, 0, none⟩ = some (.int .i64 y)) (hc1 : w.cell? ⟨c, 1, none⟩ = some (.int .i64 z))
    (hfb : w.frozen? ⟨b, 0, none⟩ = false) (hf0 : w.frozen? ⟨c, 0, none⟩ = false) (hf1 : w.frozen? ⟨c, 1, none⟩ = false) (hne : b ≠ c) :
    CallsD Tryz.prog 71 #[.pointer (some ⟨b, 0, none⟩), .pointer (some ⟨c, 0, none⟩)] (.panicking ({ v := stopV f e0, recovered := false } :: older)) w fun e u' w' =>
      e = .returned (.tuple #[]) ∧ u' = .panicking ({ v := stopV f e0, recovered := true } :: older) ∧ Kept (fun k => k = b ∨ k = c) w w' ∧
        w'.cell? ⟨b, 0, none⟩ = some (.int .i64 0) ∧ w'.cell? ⟨c, 0, none⟩ = some (.int .i64 f) ∧ w'.cell? ⟨c, 1, none⟩ = some (.int .i64 e0) := by
  have hta := ta_stop f e0
  refine callsD_of_wpS Tryz.func71 rfl fun c₀ cs hu => ?_
  apply wpS_seq
  apply wpS_region
  simp [wpOpsS, go_sem, recoverD, hu, Tryz.ntmps71, Exit.thenS]
  refine wpS_of_wp ?_
  simp only [List.size_toArray, List.length_cons, List.length_nil, Nat.reduceAdd, Nat.reduceSub, Array.replicate_succ, Array.replicate_zero, List.push_toArray, List.append_toArray, List.nil_append, List.cons_append, List.setIfInBounds_toArray, List.set_cons_zero, List.set_cons_succ]
  have hlb := World.block_lt_of_cell? w _ hb
  have hlc := World.block_lt_of_cell? w _ hc0
  go_wp2
  go_region
  all_goals
    refine ⟨rfl, _, rfl, .tuple #[], by simp [results, Tryz.results71], rfl, rfl, ?_, ?_, ?_, ?_⟩
    · exact ((((Kept.refl _ w).setCell (fun _ => .inl rfl) _).setCell (fun _ => .inr rfl) _).setCell (fun _ => .inr rfl) _).alloc _ |>.drew
    all_goals simp (disch := first | omega | (simp only [size_setCell]; omega) | simp [cell_set_off, hb, hc0, hc1]) only [World.cell?_drew, cell_alloc, size_setCell, cell_set, cell_set_block, cell_set_off]
    all_goals exact cell_set _ _ _ _ (by rw [cell_set_block _ _ _ _ _ _ hne]; simp [hc0])

set_option maxHeartbeats 1000000 in
/-- .. of a frame that returns. -/
theorem catch_idle (b c : Nat) (w : World) :
    CallsD Tryz.prog 71 #[.pointer (some ⟨b, 0, none⟩), .pointer (some ⟨c, 0, none⟩)] .returning w fun e u' w' =>
      e = .returned (.tuple #[]) ∧ u' = .returning ∧ w = w' := by
  refine callsD_of_wpS Tryz.func71 rfl fun c₀ cs hu => ?_
  apply wpS_seq
  apply wpS_region
  simp [wpOpsS, go_sem, recoverD, hu, Tryz.ntmps71, Exit.thenS]
  refine wpS_of_wp ?_
  simp only [List.size_toArray, List.length_cons, List.length_nil, Nat.reduceAdd, Nat.reduceSub, Array.replicate_succ, Array.replicate_zero, List.push_toArray, List.append_toArray, List.nil_append, List.cons_append, List.setIfInBounds_toArray, List.set_cons_zero, List.set_cons_succ]
  go_wp2
  cases c₀
  refine ⟨rfl, _, by simp_all, .tuple #[], by simp [results, Tryz.results71], rfl, rfl, rfl⟩
end Go.Proofs.Bm

namespace Go.Proofs.Bm
open Go.RowKit

theorem leaves_congr {P : Program} {fn : Func} {t1 t2 : Array Value} {R : Ending → World → Prop} (h : results fn t1 = results fn t2) : ∀ (ds : List Deferred) (u : FrameMode) (w : World), Leaves P fn t1 R ds u w → Leaves P fn t2 R ds u w
  | [], u, w, hl => by
    cases u with
    | returning =>
      obtain ⟨v, h1, h2⟩ := hl
      exact ⟨v, h ▸ h1, h2⟩
    | panicking c => exact hl
    | run => exact hl
  | d :: ds, u, w, hl => by
    obtain ⟨hu, fv, cap, f, args, hd, hi, hc⟩ := hl
    refine ⟨hu, fv, cap, f, args, hd, hi, hc.mono ?_⟩
    intro e u' w' he
    cases e with
    | returned v => exact leaves_congr h ds _ _ he
    | panicked c => exact leaves_congr h ds _ _ he
    | outgrown => exact he

theorem done_hQ {R : Ending → World → Prop} {d : Nat} (hd : d ≠ 4 ∧ d ≠ 5) (v : Value) (c : List PanicEntry) (a : Act) (w : World) (h : bodyPostD Tryz.prog Tryz.f17 R (.panic c) (a.put (some d) v) w) : bodyPostD Tryz.prog Tryz.f17 R (.panic c) a w := by
  refine leaves_congr ?_ _ _ _ h
  unfold results
  simp only [Tryz.results17, Act.put]
  simp [Array.getD_eq_getD_getElem?, Array.getElem?_setIfInBounds, hd.1, hd.2]

set_option maxRecDepth 100000 in
set_option maxHeartbeats 2000000 in
theorem done_ret (bm bd i g : Nat) (L : List (ByteArray × Value)) (nm : ByteArray) (A B r : Int) (first cap : Array Value) (F : Nat → Prop) (J : World → Prop) (w : World)
    (hc4 : w.cell? ⟨bm, 4, none⟩ = some (.map (some bd))) (hD : DMap w bd L) (hat : at? nm L 0 = some (i, .func (.func g) first cap)) (hF : ∀ k, F k → k < w.heap.size) (hFd : ¬ F bd) (hent : ∀ (args : Array Value) (w : World), (callFunc g args).run Tryz.prog w = .ok (.enter g args) w)
    (hdeed : ∀ W, Kept (fun _ => False) w W → w.heap.size + 3 ≤ W.heap.size → Calls Tryz.prog g (first ++ (#[.int .i64 A, .int .i64 B] ++ cap)) W fun e w' => e = .returned (.int .i64 r) ∧ Kept F W w' ∧ J w' ∧ w'.cell? ⟨bm, 4, none⟩ = some (.map (some bd))) :
    Calls Tryz.prog 17 #[.pointer (some ⟨bm, 0, none⟩), .agg #[.string nm, .int .i64 A, .int .i64 B]] w fun e w' =>
      e = .returned (.tuple #[.int .i64 r, .agg #[.int .i64 0, .int .i64 0]]) ∧ ∃ w1, J w1 ∧ Kept F w w1 ∧ Kept (fun k => k = w.heap.size + 1 ∨ k = w.heap.size + 1 + 1) w1 w' := by
  have hmf : ∀ (fn : Fn) (first cap : Array Value) (w : World), (Instr.makeFunc fn first cap).run Tryz.prog w = .ok (.func fn first cap) w := fun _ _ _ _ => rfl
  have hlb := World.block_lt_of_cell? w _ hc4
  have hlD := (Array.getElem?_eq_some_iff.1 hD).1
  have hdeed' := Lib.hid hdeed
  have hD' := Lib.hid hD
  clear hD hdeed
  go_enter_defers Tryz.func17, Tryz.ntmps17
  go_wp2
  obtain ⟨W, hW⟩ : ∃ W, W = (((w.alloc (.cells #[.string nm, .int .i64 A, .int .i64 B] 40)).alloc (.cells #[.int .i64 0] 3)).alloc (.cells #[.int .i64 0, .int .i64 0] 52)) := ⟨_, rfl⟩
  rw [← hW]
  have hKW : Kept (fun _ => False) w W := by rw [hW]; exact (((Kept.refl _ w).alloc _).alloc _).alloc _
  have hsz : W.heap.size = w.heap.size + 3 := by rw [hW]; simp
  have hb0 : W.heap[w.heap.size]? = some (.cells #[.string nm, .int .i64 A, .int .i64 B] 40 (0, 0)) := by
    rw [hW]; simp only [heap_alloc, World.size_alloc]; repeat (first | rfl | omega | split)
  have hb1 : W.heap[w.heap.size + 1]? = some (.cells #[.int .i64 0] 3 (0, 0)) := by
    rw [hW]; simp only [heap_alloc, World.size_alloc]; repeat (first | rfl | omega | split)
  have hb2 : W.heap[w.heap.size + 1 + 1]? = some (.cells #[.int .i64 0, .int .i64 0] 52 (0, 0)) := by
    rw [hW]; simp only [heap_alloc, World.size_alloc]; repeat (first | rfl | omega | split)
  have sW : (fun V => V.cell? ⟨bm, 4, none⟩ = some (.map (some bd)) ∧ V.cell? ⟨w.heap.size, 0, none⟩ = some (.string nm) ∧ V.cell? ⟨w.heap.size, 1, none⟩ = some (.int .i64 A) ∧ V.cell? ⟨w.heap.size, 2, none⟩ = some (.int .i64 B) ∧ DMap V bd L) W := by
    refine ⟨hKW.cell_some hc4 (by simp), by simp [World.cell?, hb0], by simp [World.cell?, hb0], by simp [World.cell?, hb0], ?_⟩
    exact (hKW.block _ hlD (by simp)).trans hD'.out
  replace hW := Lib.hid hW
  replace hb0 := Lib.hid hb0
  replace hb1 := Lib.hid hb1
  replace hb2 := Lib.hid hb2
  replace hsz := Lib.hid hsz
  refine wp_region_held_drew (S := (fun V => V.cell? ⟨bm, 4, none⟩ = some (.map (some bd)) ∧ V.cell? ⟨w.heap.size, 0, none⟩ = some (.string nm) ∧ V.cell? ⟨w.heap.size, 1, none⟩ = some (.int .i64 A) ∧ V.cell? ⟨w.heap.size, 2, none⟩ = some (.int .i64 B) ∧ DMap V bd L)) (by kernel_rfl) sW (fun hHeld => ?_)
  refine wpAnyH_take (i := 0) (oi := _) (v := ?_) rfl (by kernel_rfl) (by kernel_rfl) (by kernel_rfl) (fun c a w h => done_hQ (d := 7) ⟨by decide, by decide⟩ _ c a w h) (Or.inl ⟨by rfl, ?_⟩) (by with_reducible assumption) ?_
  rotate_left
  · (intro V hSw; obtain ⟨s1, s2, s3, s4, s5⟩ := hSw; have s6 := run_lookup (P := Tryz.prog) Tryz.underlying73 Tryz.underlying9 s5 hat; clear s5; go_simp); with_reducible rfl
  try simp only [Act.put, List.setIfInBounds_toArray, List.set_cons_zero, List.set_cons_succ]
  refine wpAnyH_take (i := 1) (oi := _) (v := ?_) rfl (by kernel_rfl) (by kernel_rfl) (by kernel_rfl) (fun c a w h => done_hQ (d := 8) ⟨by decide, by decide⟩ _ c a w h) (Or.inl ⟨by rfl, ?_⟩) (by with_reducible assumption) ?_
  rotate_left
  · (intro V hSw; obtain ⟨s1, s2, s3, s4, s5⟩ := hSw; have s6 := run_lookup (P := Tryz.prog) Tryz.underlying73 Tryz.underlying9 s5 hat; clear s5; go_simp); with_reducible rfl
  try simp only [Act.put, List.setIfInBounds_toArray, List.set_cons_zero, List.set_cons_succ]
  refine wpAnyH_take (i := 2) (oi := _) (v := ?_) rfl (by kernel_rfl) (by kernel_rfl) (by kernel_rfl) (fun c a w h => done_hQ (d := 9) ⟨by decide, by decide⟩ _ c a w h) (Or.inl ⟨by rfl, ?_⟩) (by with_reducible assumption) ?_
  rotate_left
  · (intro V hSw; obtain ⟨s1, s2, s3, s4, s5⟩ := hSw; have s6 := run_lookup (P := Tryz.prog) Tryz.underlying73 Tryz.underlying9 s5 hat; clear s5; go_simp); with_reducible rfl
  try simp only [Act.put, List.setIfInBounds_toArray, List.set_cons_zero, List.set_cons_succ]
  refine wpAnyH_take (i := 3) (oi := _) (v := ?_) rfl (by kernel_rfl) (by kernel_rfl) (by kernel_rfl) (fun c a w h => done_hQ (d := 10) ⟨by decide, by decide⟩ _ c a w h) (Or.inl ⟨by rfl, ?_⟩) (by with_reducible assumption) ?_
  rotate_left
  · (intro V hSw; obtain ⟨s1, s2, s3, s4, s5⟩ := hSw; have s6 := run_lookup (P := Tryz.prog) Tryz.underlying73 Tryz.underlying9 s5 hat; clear s5; go_simp); with_reducible rfl
  try simp only [Act.put, List.setIfInBounds_toArray, List.set_cons_zero, List.set_cons_succ]
  refine wpAnyH_take (i := 4) (oi := _) (v := ?_) rfl (by kernel_rfl) (by kernel_rfl) (by kernel_rfl) (fun c a w h => done_hQ (d := 11) ⟨by decide, by decide⟩ _ c a w h) (Or.inl ⟨by rfl, ?_⟩) (by with_reducible assumption) ?_
  rotate_left
  · (intro V hSw; obtain ⟨s1, s2, s3, s4, s5⟩ := hSw; have s6 := run_lookup (P := Tryz.prog) Tryz.underlying73 Tryz.underlying9 s5 hat; clear s5; go_simp); with_reducible rfl
  try simp only [Act.put, List.setIfInBounds_toArray, List.set_cons_zero, List.set_cons_succ]
  refine wpAnyH_take (i := 5) (oi := _) (v := ?_) rfl (by kernel_rfl) (by kernel_rfl) (by kernel_rfl) (fun c a w h => done_hQ (d := 12) ⟨by decide, by decide⟩ _ c a w h) (Or.inl ⟨by rfl, ?_⟩) (by with_reducible assumption) ?_
  rotate_left
  · (intro V hSw; obtain ⟨s1, s2, s3, s4, s5⟩ := hSw; have s6 := run_lookup (P := Tryz.prog) Tryz.underlying73 Tryz.underlying9 s5 hat; clear s5; go_simp); with_reducible rfl
  try simp only [Act.put, List.setIfInBounds_toArray, List.set_cons_zero, List.set_cons_succ]
  refine wpAnyH_take (i := 6) (oi := _) (v := ?_) rfl (by kernel_rfl) (by kernel_rfl) (by kernel_rfl) (fun c a w h => done_hQ (d := 13) ⟨by decide, by decide⟩ _ c a w h) (Or.inl ⟨by rfl, ?_⟩) (by with_reducible assumption) ?_
  rotate_left
  · (intro V hSw; obtain ⟨s1, s2, s3, s4, s5⟩ := hSw; have s6 := run_lookup (P := Tryz.prog) Tryz.underlying73 Tryz.underlying9 s5 hat; clear s5; go_simp); with_reducible rfl
  try simp only [Act.put, List.setIfInBounds_toArray, List.set_cons_zero, List.set_cons_succ]
  refine wpAnyH_take (i := 7) (oi := _) (v := ?_) rfl (by kernel_rfl) (by kernel_rfl) (by kernel_rfl) (fun c a w h => done_hQ (d := 14) ⟨by decide, by decide⟩ _ c a w h) (Or.inl ⟨by rfl, ?_⟩) (by with_reducible assumption) ?_
  rotate_left
  · (intro V hSw; obtain ⟨s1, s2, s3, s4, s5⟩ := hSw; have s6 := run_lookup (P := Tryz.prog) Tryz.underlying73 Tryz.underlying9 s5 hat; clear s5; go_simp); with_reducible rfl
  try simp only [Act.put, List.setIfInBounds_toArray, List.set_cons_zero, List.set_cons_succ]
  refine wpAnyH_take (i := 8) (oi := _) (v := ?_) rfl (by kernel_rfl) (by kernel_rfl) (by kernel_rfl) (fun c a w h => done_hQ (d := 15) ⟨by decide, by decide⟩ _ c a w h) (Or.inl ⟨by rfl, ?_⟩) (by with_reducible assumption) ?_
  rotate_left
  · (intro V hSw; obtain ⟨s1, s2, s3, s4, s5⟩ := hSw; have s6 := run_lookup (P := Tryz.prog) Tryz.underlying73 Tryz.underlying9 s5 hat; clear s5; go_simp); with_reducible rfl
  try simp only [Act.put, List.setIfInBounds_toArray, List.set_cons_zero, List.set_cons_succ]
  refine wpAnyH_take (i := 9) (oi := _) (v := ?_) rfl (by kernel_rfl) (by kernel_rfl) (by kernel_rfl) (fun c a w h => done_hQ (d := 16) ⟨by decide, by decide⟩ _ c a w h) (Or.inl ⟨by rfl, ?_⟩) (by with_reducible assumption) ?_
  rotate_left
  · (intro V hSw; obtain ⟨s1, s2, s3, s4, s5⟩ := hSw; have s6 := run_lookup (P := Tryz.prog) Tryz.underlying73 Tryz.underlying9 s5 hat; clear s5; go_simp); with_reducible rfl
  try simp only [Act.put, List.setIfInBounds_toArray, List.set_cons_zero, List.set_cons_succ]
  refine wpAnyH_take (i := 10) (oi := _) (v := ?_) rfl (by kernel_rfl) (by kernel_rfl) (by kernel_rfl) (fun c a w h => done_hQ (d := 17) ⟨by decide, by decide⟩ _ c a w h) (Or.inl ⟨by rfl, ?_⟩) (by with_reducible assumption) ?_
  rotate_left
  · (intro V hSw; obtain ⟨s1, s2, s3, s4, s5⟩ := hSw; have s6 := run_lookup (P := Tryz.prog) Tryz.underlying73 Tryz.underlying9 s5 hat; clear s5; go_simp); with_reducible rfl
  try simp only [Act.put, List.setIfInBounds_toArray, List.set_cons_zero, List.set_cons_succ]
  refine wpAnyH_take (i := 12) (oi := _) (v := ?_) rfl (by kernel_rfl) (by kernel_rfl) (by kernel_rfl) (fun c a w h => done_hQ (d := 19) ⟨by decide, by decide⟩ _ c a w h) (Or.inl ⟨by rfl, ?_⟩) (by with_reducible assumption) ?_
  rotate_left
  · (intro V hSw; obtain ⟨s1, s2, s3, s4, s5⟩ := hSw; have s6 := run_lookup (P := Tryz.prog) Tryz.underlying73 Tryz.underlying9 s5 hat; clear s5; go_simp); with_reducible rfl
  try simp only [Act.put, List.setIfInBounds_toArray, List.set_cons_zero, List.set_cons_succ]
  -- the call
  refine wpAnyH_ready (rs := [11]) (by kernel_rfl) (by simp) ?_
  refine AllReadyH.cons (o := _) rfl (fun K hK => ?_) AllReadyH.nil
  go_simp

  refine (hdeed'.out W.drew hKW.drew (by show _ ≤ W.heap.size; rw [hsz.out]; exact Nat.le_refl _)).mono ?_
  rintro e w1 ⟨rfl, hk1, hJ1, hc1⟩
  have hn0 : ¬ F w.heap.size := fun h => by have := hF _ h; omega
  have hn1 : ¬ F (w.heap.size + 1) := fun h => by have := hF _ h; omega
  have hn2 : ¬ F (w.heap.size + 1 + 1) := fun h => by have := hF _ h; omega
  have k0 := (hk1.block _ (by show _ < W.heap.size; rw [hsz.out]; omega) hn0).trans hb0.out
  have k1 := (hk1.block _ (by show _ < W.heap.size; rw [hsz.out]; omega) hn1).trans hb1.out
  have k2 := (hk1.block _ (by show _ < W.heap.size; rw [hsz.out]; omega) hn2).trans hb2.out
  have kd := (hk1.block _ (by show _ < W.heap.size; rw [hsz.out]; omega) hFd).trans hHeld.2.2.2.2
  have s1 : (fun V => V.cell? ⟨bm, 4, none⟩ = some (.map (some bd)) ∧ V.cell? ⟨w.heap.size, 0, none⟩ = some (.string nm) ∧ V.cell? ⟨w.heap.size, 1, none⟩ = some (.int .i64 A) ∧ V.cell? ⟨w.heap.size, 2, none⟩ = some (.int .i64 B) ∧ DMap V bd L) w1 := ⟨hc1, by simp [World.cell?, k0], by simp [World.cell?, k0], by simp [World.cell?, k0], kd⟩
  dsimp only
  refine hK.out _ _ s1 (fun hHeld1 => ?_)
  clear hK K hHeld
  try simp only [Act.put, List.setIfInBounds_toArray, List.set_cons_zero, List.set_cons_succ]
  have d1 : w1.cell? ⟨w.heap.size + 1, 0, none⟩ = some (.int .i64 0) := by simp [World.cell?, k1]
  have f1 : w1.frozen? ⟨w.heap.size + 1, 0, none⟩ = false := by simp [World.frozen?, k1]
  have d2 : w1.cell? ⟨w.heap.size + 1 + 1, 0, none⟩ = some (.int .i64 0) := by simp [World.cell?, k2]
  have d3 : w1.cell? ⟨w.heap.size + 1 + 1, 1, none⟩ = some (.int .i64 0) := by simp [World.cell?, k2]
  have f2 : w1.frozen? ⟨w.heap.size + 1 + 1, 0, none⟩ = false := by simp [World.frozen?, k2]
  have f3 : w1.frozen? ⟨w.heap.size + 1 + 1, 1, none⟩ = false := by simp [World.frozen?, k2]
  replace k0 := Lib.hid k0
  replace k1 := Lib.hid k1
  replace k2 := Lib.hid k2
  replace kd := Lib.hid kd
  -- the first store
  refine wpAnyH_ready (rs := [13]) (by kernel_rfl) (by simp) ?_
  refine AllReadyH.cons (o := _) rfl (fun K hK => ?_) AllReadyH.nil
  go_simp
  have e1 : Kept (fun k => k = w.heap.size + 1 ∨ k = w.heap.size + 1 + 1) w1 (w1.setCell ⟨w.heap.size + 1, 0, none⟩ (.int .i64 r)) := (Kept.refl _ _).setCell (fun _ => .inl rfl) _
  have hbm : bm < w.heap.size := hlb
  have hbd : bd < w.heap.size := hlD
  obtain ⟨w2, hw2⟩ : ∃ w2, w2 = w1.setCell ⟨w.heap.size + 1, 0, none⟩ (.int .i64 r) := ⟨_, rfl⟩
  rw [← hw2] at e1 ⊢
  have s2 : (fun V => V.cell? ⟨bm, 4, none⟩ = some (.map (some bd)) ∧ V.cell? ⟨w.heap.size, 0, none⟩ = some (.string nm) ∧ V.cell? ⟨w.heap.size, 1, none⟩ = some (.int .i64 A) ∧ V.cell? ⟨w.heap.size, 2, none⟩ = some (.int .i64 B) ∧ DMap V bd L) w2 := ⟨e1.cell_some s1.1 (by simp; omega), e1.cell_some s1.2.1 (by simp; omega), e1.cell_some s1.2.2.1 (by simp; omega), e1.cell_some s1.2.2.2.1 (by simp; omega), (e1.block _ (by have := hk1.size; have : w.heap.size ≤ W.drew.heap.size := by { show _ ≤ W.heap.size; rw [hsz.out]; omega }; omega) (by simp; omega)).trans s1.2.2.2.2⟩
  have g2 : w2.cell? ⟨w.heap.size + 1 + 1, 0, none⟩ = some (.int .i64 0) := by rw [hw2]; rw [cell_set_block _ _ _ _ _ _ (by omega)]; exact d2
  have g3 : w2.cell? ⟨w.heap.size + 1 + 1, 1, none⟩ = some (.int .i64 0) := by rw [hw2]; rw [cell_set_block _ _ _ _ _ _ (by omega)]; exact d3
  have gf2 : w2.frozen? ⟨w.heap.size + 1 + 1, 0, none⟩ = false := by rw [hw2]; rw [World.frozen?_setCell]; exact f2
  have gf3 : w2.frozen? ⟨w.heap.size + 1 + 1, 1, none⟩ = false := by rw [hw2]; rw [World.frozen?_setCell]; exact f3
  have gr : w2.cell? ⟨w.heap.size + 1, 0, none⟩ = some (.int .i64 r) := by rw [hw2]; exact cell_set _ _ _ _ (by simp [d1])
  replace hw2 := Lib.hid hw2
  refine hK.out _ _ s2 (fun hHeld2 => ?_)
  clear hK K hHeld1
  try simp only [Act.put, List.setIfInBounds_toArray, List.set_cons_zero, List.set_cons_succ]
  -- the second store
  refine wpAnyH_ready (rs := [14]) (by kernel_rfl) (by simp) ?_
  refine AllReadyH.cons (o := _) rfl (fun K hK => ?_) AllReadyH.nil
  go_simp
  obtain ⟨w3, hw3⟩ : ∃ w3, w3 = (w2.setCell ⟨w.heap.size + 1 + 1, 0, none⟩ (.int .i64 0)).setCell ⟨w.heap.size + 1 + 1, 1, none⟩ (.int .i64 0) := ⟨_, rfl⟩
  have e2 : Kept (fun k => k = w.heap.size + 1 ∨ k = w.heap.size + 1 + 1) w1 w3 := by rw [hw3]; exact (e1.setCell (fun _ => .inr rfl) _).setCell (fun _ => .inr rfl) _
  rw [← hw3]
  have s3 : (fun V => V.cell? ⟨bm, 4, none⟩ = some (.map (some bd)) ∧ V.cell? ⟨w.heap.size, 0, none⟩ = some (.string nm) ∧ V.cell? ⟨w.heap.size, 1, none⟩ = some (.int .i64 A) ∧ V.cell? ⟨w.heap.size, 2, none⟩ = some (.int .i64 B) ∧ DMap V bd L) w3 := ⟨e2.cell_some s1.1 (by simp; omega), e2.cell_some s1.2.1 (by simp; omega), e2.cell_some s1.2.2.1 (by simp; omega), e2.cell_some s1.2.2.2.1 (by simp; omega), (e2.block _ (by have := hk1.size; have : w.heap.size ≤ W.drew.heap.size := by { show _ ≤ W.heap.size; rw [hsz.out]; omega }; omega) (by simp; omega)).trans s1.2.2.2.2⟩
  have q1 : w3.cell? ⟨w.heap.size + 1, 0, none⟩ = some (.int .i64 r) := by rw [hw3, cell_set_block _ _ _ _ _ _ (by omega), cell_set_block _ _ _ _ _ _ (by omega)]; exact gr
  have q2 : w3.cell? ⟨w.heap.size + 1 + 1, 0, none⟩ = some (.int .i64 0) := by rw [hw3, cell_set_off _ _ _ _ _ _ (by omega)]; exact cell_set _ _ _ _ (by simp [g2])
  have q3 : w3.cell? ⟨w.heap.size + 1 + 1, 1, none⟩ = some (.int .i64 0) := by rw [hw3]; exact cell_set _ _ _ _ (by rw [cell_set_off _ _ _ _ _ _ (by omega)]; simp [g3])
  replace hw3 := Lib.hid hw3
  refine hK.out _ _ s3 (fun hHeld3 => ?_)
  clear hK K hHeld2
  try simp only [Act.put, List.setIfInBounds_toArray, List.set_cons_zero, List.set_cons_succ]
  refine wpAnyH_done (by kernel_rfl) ?_ _
  go_wp2
  refine leaves_cons (f := 71) (args := #[.pointer (some ⟨w.heap.size + 1, 0, none⟩), .pointer (some ⟨w.heap.size + 1 + 1, 0, none⟩)]) (by simp) (by simp [go_sem]) ?_
  refine (catch_idle _ _ _).mono ?_
  rintro e u' w'' ⟨rfl, rfl, rfl⟩
  simp [Leaves, settle, results, Tryz.results17, go_sem, q1, q2, q3]
  exact ⟨w1, hJ1, (hKW.drew.mono (fun _ h => h.elim)).trans' hk1, e2⟩

set_option maxRecDepth 100000 in
set_option maxHeartbeats 2000000 in
theorem done_stop (bm bd i g : Nat) (L : List (ByteArray × Value)) (nm : ByteArray) (A B f e0 : Int) (first cap : Array Value) (F : Nat → Prop) (J : World → Prop) (w : World)
    (hc4 : w.cell? ⟨bm, 4, none⟩ = some (.map (some bd))) (hD : DMap w bd L) (hat : at? nm L 0 = some (i, .func (.func g) first cap)) (hF : ∀ k, F k → k < w.heap.size) (hent : ∀ (args : Array Value) (w : World), (callFunc g args).run Tryz.prog w = .ok (.enter g args) w)
    (hdeed : ∀ W, Kept (fun _ => False) w W → w.heap.size + 3 ≤ W.heap.size → Calls Tryz.prog g (first ++ (#[.int .i64 A, .int .i64 B] ++ cap)) W fun e w' => e = .panicked (stopC f e0) ∧ Kept F W w' ∧ J w') :
    Calls Tryz.prog 17 #[.pointer (some ⟨bm, 0, none⟩), .agg #[.string nm, .int .i64 A, .int .i64 B]] w fun e w' =>
      e = .returned (.tuple #[.int .i64 0, .agg #[.int .i64 f, .int .i64 e0]]) ∧ ∃ w1, J w1 ∧ Kept F w w1 ∧ Kept (fun k => k = w.heap.size + 1 ∨ k = w.heap.size + 1 + 1) w1 w' := by
  have hmf : ∀ (fn : Fn) (first cap : Array Value) (w : World), (Instr.makeFunc fn first cap).run Tryz.prog w = .ok (.func fn first cap) w := fun _ _ _ _ => rfl
  have hlb := World.block_lt_of_cell? w _ hc4
  have hlD := (Array.getElem?_eq_some_iff.1 hD).1
  have hdeed' := Lib.hid hdeed
  have hD' := Lib.hid hD
  clear hD hdeed
  go_enter_defers Tryz.func17, Tryz.ntmps17
  go_wp2
  obtain ⟨W, hW⟩ : ∃ W, W = (((w.alloc (.cells #[.string nm, .int .i64 A, .int .i64 B] 40)).alloc (.cells #[.int .i64 0] 3)).alloc (.cells #[.int .i64 0, .int .i64 0] 52)) := ⟨_, rfl⟩
  rw [← hW]
  have hKW : Kept (fun _ => False) w W := by rw [hW]; exact (((Kept.refl _ w).alloc _).alloc _).alloc _
  have hsz : W.heap.size = w.heap.size + 3 := by rw [hW]; simp
  have hb0 : W.heap[w.heap.size]? = some (.cells #[.string nm, .int .i64 A, .int .i64 B] 40 (0, 0)) := by
    rw [hW]; simp only [heap_alloc, World.size_alloc]; repeat (first | rfl | omega | split)
  have hb1 : W.heap[w.heap.size + 1]? = some (.cells #[.int .i64 0] 3 (0, 0)) := by
    rw [hW]; simp only [heap_alloc, World.size_alloc]; repeat (first | rfl | omega | split)
  have hb2 : W.heap[w.heap.size + 1 + 1]? = some (.cells #[.int .i64 0, .int .i64 0] 52 (0, 0)) := by
    rw [hW]; simp only [heap_alloc, World.size_alloc]; repeat (first | rfl | omega | split)
  have sW : (fun V => V.cell? ⟨bm, 4, none⟩ = some (.map (some bd)) ∧ V.cell? ⟨w.heap.size, 0, none⟩ = some (.string nm) ∧ V.cell? ⟨w.heap.size, 1, none⟩ = some (.int .i64 A) ∧ V.cell? ⟨w.heap.size, 2, none⟩ = some (.int .i64 B) ∧ DMap V bd L) W := by
    refine ⟨hKW.cell_some hc4 (by simp), by simp [World.cell?, hb0], by simp [World.cell?, hb0], by simp [World.cell?, hb0], ?_⟩
    exact (hKW.block _ hlD (by simp)).trans hD'.out
  replace hW := Lib.hid hW
  replace hb0 := Lib.hid hb0
  replace hb1 := Lib.hid hb1
  replace hb2 := Lib.hid hb2
  replace hsz := Lib.hid hsz
  refine wp_region_held_drew (S := (fun V => V.cell? ⟨bm, 4, none⟩ = some (.map (some bd)) ∧ V.cell? ⟨w.heap.size, 0, none⟩ = some (.string nm) ∧ V.cell? ⟨w.heap.size, 1, none⟩ = some (.int .i64 A) ∧ V.cell? ⟨w.heap.size, 2, none⟩ = some (.int .i64 B) ∧ DMap V bd L)) (by kernel_rfl) sW (fun hHeld => ?_)
  refine wpAnyH_take (i := 0) (oi := _) (v := ?_) rfl (by kernel_rfl) (by kernel_rfl) (by kernel_rfl) (fun c a w h => done_hQ (d := 7) ⟨by decide, by decide⟩ _ c a w h) (Or.inl ⟨by rfl, ?_⟩) (by with_reducible assumption) ?_
  rotate_left
  · (intro V hSw; obtain ⟨s1, s2, s3, s4, s5⟩ := hSw; have s6 := run_lookup (P := Tryz.prog) Tryz.underlying73 Tryz.underlying9 s5 hat; clear s5; go_simp); with_reducible rfl
  try simp only [Act.put, List.setIfInBounds_toArray, List.set_cons_zero, List.set_cons_succ]
  refine wpAnyH_take (i := 1) (oi := _) (v := ?_) rfl (by kernel_rfl) (by kernel_rfl) (by kernel_rfl) (fun c a w h => done_hQ (d := 8) ⟨by decide, by decide⟩ _ c a w h) (Or.inl ⟨by rfl, ?_⟩) (by with_reducible assumption) ?_
  rotate_left
  · (intro V hSw; obtain ⟨s1, s2, s3, s4, s5⟩ := hSw; have s6 := run_lookup (P := Tryz.prog) Tryz.underlying73 Tryz.underlying9 s5 hat; clear s5; go_simp); with_reducible rfl
  try simp only [Act.put, List.setIfInBounds_toArray, List.set_cons_zero, List.set_cons_succ]
  refine wpAnyH_take (i := 2) (oi := _) (v := ?_) rfl (by kernel_rfl) (by kernel_rfl) (by kernel_rfl) (fun c a w h => done_hQ (d := 9) ⟨by decide, by decide⟩ _ c a w h) (Or.inl ⟨by rfl, ?_⟩) (by with_reducible assumption) ?_
  rotate_left
  · (intro V hSw; obtain ⟨s1, s2, s3, s4, s5⟩ := hSw; have s6 := run_lookup (P := Tryz.prog) Tryz.underlying73 Tryz.underlying9 s5 hat; clear s5; go_simp); with_reducible rfl
  try simp only [Act.put, List.setIfInBounds_toArray, List.set_cons_zero, List.set_cons_succ]
  refine wpAnyH_take (i := 3) (oi := _) (v := ?_) rfl (by kernel_rfl) (by kernel_rfl) (by kernel_rfl) (fun c a w h => done_hQ (d := 10) ⟨by decide, by decide⟩ _ c a w h) (Or.inl ⟨by rfl, ?_⟩) (by with_reducible assumption) ?_
  rotate_left
  · (intro V hSw; obtain ⟨s1, s2, s3, s4, s5⟩ := hSw; have s6 := run_lookup (P := Tryz.prog) Tryz.underlying73 Tryz.underlying9 s5 hat; clear s5; go_simp); with_reducible rfl
  try simp only [Act.put, List.setIfInBounds_toArray, List.set_cons_zero, List.set_cons_succ]
  refine wpAnyH_take (i := 4) (oi := _) (v := ?_) rfl (by kernel_rfl) (by kernel_rfl) (by kernel_rfl) (fun c a w h => done_hQ (d := 11) ⟨by decide, by decide⟩ _ c a w h) (Or.inl ⟨by rfl, ?_⟩) (by with_reducible assumption) ?_
  rotate_left
  · (intro V hSw; obtain ⟨s1, s2, s3, s4, s5⟩ := hSw; have s6 := run_lookup (P := Tryz.prog) Tryz.underlying73 Tryz.underlying9 s5 hat; clear s5; go_simp); with_reducible rfl
  try simp only [Act.put, List.setIfInBounds_toArray, List.set_cons_zero, List.set_cons_succ]
  refine wpAnyH_take (i := 5) (oi := _) (v := ?_) rfl (by kernel_rfl) (by kernel_rfl) (by kernel_rfl) (fun c a w h => done_hQ (d := 12) ⟨by decide, by decide⟩ _ c a w h) (Or.inl ⟨by rfl, ?_⟩) (by with_reducible assumption) ?_
  rotate_left
  · (intro V hSw; obtain ⟨s1, s2, s3, s4, s5⟩ := hSw; have s6 := run_lookup (P := Tryz.prog) Tryz.underlying73 Tryz.underlying9 s5 hat; clear s5; go_simp); with_reducible rfl
  try simp only [Act.put, List.setIfInBounds_toArray, List.set_cons_zero, List.set_cons_succ]
  refine wpAnyH_take (i := 6) (oi := _) (v := ?_) rfl (by kernel_rfl) (by kernel_rfl) (by kernel_rfl) (fun c a w h => done_hQ (d := 13) ⟨by decide, by decide⟩ _ c a w h) (Or.inl ⟨by rfl, ?_⟩) (by with_reducible assumption) ?_
  rotate_left
  · (intro V hSw; obtain ⟨s1, s2, s3, s4, s5⟩ := hSw; have s6 := run_lookup (P := Tryz.prog) Tryz.underlying73 Tryz.underlying9 s5 hat; clear s5; go_simp); with_reducible rfl
  try simp only [Act.put, List.setIfInBounds_toArray, List.set_cons_zero, List.set_cons_succ]
  refine wpAnyH_take (i := 7) (oi := _) (v := ?_) rfl (by kernel_rfl) (by kernel_rfl) (by kernel_rfl) (fun c a w h => done_hQ (d := 14) ⟨by decide, by decide⟩ _ c a w h) (Or.inl ⟨by rfl, ?_⟩) (by with_reducible assumption) ?_
  rotate_left
  · (intro V hSw; obtain ⟨s1, s2, s3, s4, s5⟩ := hSw; have s6 := run_lookup (P := Tryz.prog) Tryz.underlying73 Tryz.underlying9 s5 hat; clear s5; go_simp); with_reducible rfl
  try simp only [Act.put, List.setIfInBounds_toArray, List.set_cons_zero, List.set_cons_succ]
  refine wpAnyH_take (i := 8) (oi := _) (v := ?_) rfl (by kernel_rfl) (by kernel_rfl) (by kernel_rfl) (fun c a w h => done_hQ (d := 15) ⟨by decide, by decide⟩ _ c a w h) (Or.inl ⟨by rfl, ?_⟩) (by with_reducible assumption) ?_
  rotate_left
  · (intro V hSw; obtain ⟨s1, s2, s3, s4, s5⟩ := hSw; have s6 := run_lookup (P := Tryz.prog) Tryz.underlying73 Tryz.underlying9 s5 hat; clear s5; go_simp); with_reducible rfl
  try simp only [Act.put, List.setIfInBounds_toArray, List.set_cons_zero, List.set_cons_succ]
  refine wpAnyH_take (i := 9) (oi := _) (v := ?_) rfl (by kernel_rfl) (by kernel_rfl) (by kernel_rfl) (fun c a w h => done_hQ (d := 16) ⟨by decide, by decide⟩ _ c a w h) (Or.inl ⟨by rfl, ?_⟩) (by with_reducible assumption) ?_
  rotate_left
  · (intro V hSw; obtain ⟨s1, s2, s3, s4, s5⟩ := hSw; have s6 := run_lookup (P := Tryz.prog) Tryz.underlying73 Tryz.underlying9 s5 hat; clear s5; go_simp); with_reducible rfl
  try simp only [Act.put, List.setIfInBounds_toArray, List.set_cons_zero, List.set_cons_succ]
  refine wpAnyH_take (i := 10) (oi := _) (v := ?_) rfl (by kernel_rfl) (by kernel_rfl) (by kernel_rfl) (fun c a w h => done_hQ (d := 17) ⟨by decide, by decide⟩ _ c a w h) (Or.inl ⟨by rfl, ?_⟩) (by with_reducible assumption) ?_
  rotate_left
  · (intro V hSw; obtain ⟨s1, s2, s3, s4, s5⟩ := hSw; have s6 := run_lookup (P := Tryz.prog) Tryz.underlying73 Tryz.underlying9 s5 hat; clear s5; go_simp); with_reducible rfl
  try simp only [Act.put, List.setIfInBounds_toArray, List.set_cons_zero, List.set_cons_succ]
  refine wpAnyH_take (i := 12) (oi := _) (v := ?_) rfl (by kernel_rfl) (by kernel_rfl) (by kernel_rfl) (fun c a w h => done_hQ (d := 19) ⟨by decide, by decide⟩ _ c a w h) (Or.inl ⟨by rfl, ?_⟩) (by with_reducible assumption) ?_
  rotate_left
  · (intro V hSw; obtain ⟨s1, s2, s3, s4, s5⟩ := hSw; have s6 := run_lookup (P := Tryz.prog) Tryz.underlying73 Tryz.underlying9 s5 hat; clear s5; go_simp); with_reducible rfl
  try simp only [Act.put, List.setIfInBounds_toArray, List.set_cons_zero, List.set_cons_succ]
  -- the call
  refine wpAnyH_ready (rs := [11]) (by kernel_rfl) (by simp) ?_
  refine AllReadyH.cons (o := _) rfl (fun K hK => ?_) AllReadyH.nil
  go_simp

  refine (hdeed'.out W.drew hKW.drew (by show _ ≤ W.heap.size; rw [hsz.out]; exact Nat.le_refl _)).mono ?_
  rintro e w1 ⟨rfl, hk1, hJ1⟩
  have hn1 : ¬ F (w.heap.size + 1) := fun h => by have := hF _ h; omega
  have hn2 : ¬ F (w.heap.size + 1 + 1) := fun h => by have := hF _ h; omega
  have k1 := (hk1.block _ (by show _ < W.heap.size; rw [hsz.out]; omega) hn1).trans hb1.out
  have k2 := (hk1.block _ (by show _ < W.heap.size; rw [hsz.out]; omega) hn2).trans hb2.out
  dsimp only
  refine leaves_cons (f := 71) (args := #[.pointer (some ⟨w.heap.size + 1, 0, none⟩), .pointer (some ⟨w.heap.size + 1 + 1, 0, none⟩)]) (by simp) (by simp [go_sem]) ?_
  refine (catch_stop (w.heap.size + 1) (w.heap.size + 1 + 1) f e0 0 0 0 [] w1 (by simp [World.cell?, k1]) (by simp [World.cell?, k2]) (by simp [World.cell?, k2]) (by simp [World.frozen?, k1]) (by simp [World.frozen?, k2]) (by simp [World.frozen?, k2]) (by omega)).mono ?_
  rintro e u' w'' ⟨rfl, rfl, hk2, q1, q2, q3⟩
  simp [Leaves, settle, results, Tryz.results17, go_sem, q1, q2, q3]
  exact ⟨w1, hJ1, (hKW.drew.mono (fun _ h => h.elim)).trans' hk1, hk2⟩
end Go.Proofs.Bm
