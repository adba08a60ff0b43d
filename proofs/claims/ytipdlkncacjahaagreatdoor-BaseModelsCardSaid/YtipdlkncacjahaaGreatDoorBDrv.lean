/- The lines of the chapter's script. No condition. -/
import Derived.Test.YtipdlkncacjahaaGreatDoorBSh2
import Derived.RangeFuncBox
import Derived.RangeFuncLeaves
import Derived.Shelf.Abstract
import Derived.OwnWalkIn
import Derived.TacticsInMore
import Derived.LoopNIn
import Derived.LoopIn
import Derived.Maps.AppendAt
import Derived.Sort.QuietIn
import Derived.RangeFuncNested
import Derived.Test.YtipdlkncacjahaaGreatDoorBHeads
set_option linter.unusedSimpArgs false
set_option linter.unusedVariables false
namespace Go.Proofs.Bm
open Go.RowKit Go.Maps Go.Shelf
attribute [local go_sem] Oper.semAt_some

def decB (i : Nat) : ByteArray := ⟨(Lib.decDigits i).toArray⟩
theorem number_small (i : Nat) (hi : i < 100) (w : World) : Calls Tryz.prog 91 #[I i] w fun e w' => e = .returned (.string (decB i)) ∧ w' = w := by
  have hi0 : ¬ (i : Int) < 0 := by omega
  go_enter Tryz.func91, Tryz.ntmps91
  go_wp2_with fail
  refine (Tryz.strconv_Itoa_small i hi _).mono ?_
  rintro e w' ⟨rfl, rfl⟩
  go_wp2
  go_ret
  exact ⟨rfl, rfl⟩
theorem number_2 (w : World) : Calls Tryz.prog 91 #[I 2] w fun e w' => e = .returned (.string ⟨#[50]⟩) ∧ w' = w := by
  have := number_small 2 (by omega) w
  rwa [show decB 2 = ⟨#[50]⟩ by decide +kernel] at this
theorem number_0 (w : World) : Calls Tryz.prog 91 #[I 0] w fun e w' => e = .returned (.string ⟨#[48]⟩) ∧ w' = w := by
  have := number_small 0 (by omega) w
  rwa [show decB 0 = ⟨#[48]⟩ by decide +kernel] at this

def SCR : List (ByteArray × Int × Int) := [(⟨#[97, 100, 100]⟩, 2, 0), (⟨#[99, 111, 117, 110, 116]⟩, 0, 0)]
/-- c . add ( 2 ) ; -/
def S0 : ByteArray := ⟨#[99, 32, 46, 32, 97, 100, 100, 32, 40, 32, 50, 32, 41, 32, 59]⟩
/-- put c . count ; -/
def S1 : ByteArray := ⟨#[112, 117, 116, 32, 99, 32, 46, 32, 99, 111, 117, 110, 116, 32, 59]⟩
theorem idx101_1 (x0 x1 x2 : Value) (w : World) : (Instr.index 101 (.agg #[x0, x1, x2]) (.int .i64 1)).run Tryz.prog w = .ok x1 w := by kernel_rfl
theorem idx101_0 (x0 x1 x2 : Value) (w : World) : (Instr.index 101 (.agg #[x0, x1, x2]) (.int .i64 0)).run Tryz.prog w = .ok x0 w := by kernel_rfl
def XS : List ByteArray := [S0, S1]

theorem below_grown {w w' : World} (hb : Below w.heap.size w w') : w.grownBy w' none := ⟨hb.os, hb.tape, hb.output, hb.size, fun k hk _ => hb.block k hk⟩

set_option maxRecDepth 100000 in
set_option maxHeartbeats 2000000 in
theorem lines1_in (n : Nat) (hn : 1 ≤ n) (l Bl Bc bb off cap n₀ : Nat) (J Jx : List ByteArray → World → Prop) (hbb : bb < n₀)
    (hJ : ∀ s W W', J s W → Below W.heap.size W W' → J s W') 
    (hY : ∀ pre x W, J pre W → pre.length < 2 → YieldAt Fence.wide (n - 1) Tryz.prog l #[.string x] W fun e W' =>
      (e = .returned (.bool true) ∧ J (pre ++ [x]) W' ∧ Below n₀ W W' ∧ W'.heap[Bc]? = W.heap[Bc]?) ∨ (e = .returned (.bool false) ∧ Jx (pre ++ [x]) W'))
    (W : World) (h1 : W.cell? ⟨Bl, 0, none⟩ = some (.slice (some ⟨bb, off, none⟩) 2 cap)) (h2 : W.heap[Bc]? = some (.cells #[.string ⟨#[67, 79, 85, 78, 84, 69, 82]⟩] 9 (0, 0)))
    (hc : ∀ (k : Nat) (nm : ByteArray) (A B : Int), SCR[k]? = some (nm, A, B) → W.cell? ⟨bb, off + k * 3, none⟩ = some (.string nm) ∧ W.cell? ⟨bb, off + k * 3 + 1, none⟩ = some (I A) ∧ W.cell? ⟨bb, off + k * 3 + 2, none⟩ = some (I B)) (h0 : J [] W) (hn0 : n₀ ≤ W.heap.size) :
    CallsIn Fence.wide n Tryz.prog 90 #[.func (.yield l) #[] #[], .pointer (some ⟨Bl, 0, none⟩), .pointer (some ⟨Bc, 0, none⟩)] W fun e W' => (∃ v, e = .returned v) ∧
      ((∃ ys, ys = XS ∧ J ys W') ∨ (∃ pre, pre <+: XS ∧ Jx pre W')) := by
  refine callsIn_of_wp Tryz.func90 rfl trivial ?_ rfl
  simp only [Tryz.ntmps90, List.size_toArray, List.length_cons, List.length_nil, Nat.reduceAdd, Nat.reduceSub, Array.replicate_succ, Array.replicate_zero, List.push_toArray, List.append_toArray, List.nil_append, List.cons_append]
  have g2 : W.cell? ⟨Bc, 0, none⟩ = some (.string ⟨#[67, 79, 85, 78, 84, 69, 82]⟩) := by unfold World.cell?; rw [h2]; rfl
  replace h2 := Lib.hid h2
  gi_wp2
  gi_loopw [13] (fun i wr => ∃ k : Nat, k ≤ 2 ∧ i = .int .i64 k ∧ J (XS.take k) wr ∧ Below n₀ W wr ∧ wr.heap[Bc]? = W.heap[Bc]?) (fun i _ => 2 - (intOf i).toNat)
  case atStart => exact ⟨0, by omega, rfl, h0, Below.refl _ _, rfl⟩
  case round =>
    obtain ⟨k, hk, rfl, hJs, hnx, hbc⟩ := hrel
    have g2 : wr.cell? ⟨Bc, 0, none⟩ = some (.string ⟨#[67, 79, 85, 78, 84, 69, 82]⟩) := by unfold World.cell?; rw [hbc, h2.out]; rfl
    have hsc : Bc < wr.heap.size := World.block_lt_of_cell? wr _ g2
    replace hbc := Lib.hid hbc
    obtain rfl | rfl | rfl : k = 0 ∨ k = 1 ∨ k = 2 := by omega
    · obtain ⟨x0, x1, x2⟩ := hc 0 ⟨#[97, 100, 100]⟩ 2 0 rfl
      have y0 := (hnx.cell (p := ⟨bb, off + 0 * 3, none⟩) hbb).trans x0
      have y1 := (hnx.cell (p := ⟨bb, off + 0 * 3 + 1, none⟩) hbb).trans x1
      have y2 := (hnx.cell (p := ⟨bb, off + 0 * 3 + 2, none⟩) hbb).trans x2
      clear x0 x1 x2
      simp only [Nat.zero_mul, Nat.add_zero] at y0 y1 y2
      have hsb : bb < wr.heap.size := World.block_lt_of_cell? wr _ y0
      have c16 : ∀ w, Calls Tryz.prog 16 #[.string ⟨#[67, 79, 85, 78, 84, 69, 82]⟩, .string ⟨#[97, 100, 100]⟩] w fun e w' => e = .returned (.tuple #[.agg #[.string ⟨#[97, 100, 100]⟩, I 1, .bool false], .bool true]) ∧ Below w.heap.size w w' := fun w => callOf_yes .counter 2 ⟨#[97, 100, 100]⟩ 1 false (by decide +kernel) rfl w
      gi_wp2_with fail
      refine ⟨trivial, (callsIn_wide.2 (c16 _)).mono ?_⟩
      rintro e w3 ⟨rfl, hb3⟩
      have q0 : w3.cell? ⟨wr.heap.size, 0, none⟩ = some (.string ⟨#[97, 100, 100]⟩) := (hb3.cell (by simp)).trans (by unfold World.cell?; rw [heap_alloc, if_pos rfl]; rfl)
      have q1 : w3.cell? ⟨wr.heap.size, 1, none⟩ = some (I 2) := (hb3.cell (by simp)).trans (by unfold World.cell?; rw [heap_alloc, if_pos rfl]; rfl)
      have q2 : w3.cell? ⟨wr.heap.size, 2, none⟩ = some (I 0) := (hb3.cell (by simp)).trans (by unfold World.cell?; rw [heap_alloc, if_pos rfl]; rfl)
      have hs3 : wr.heap.size < w3.heap.size := by have := hb3.size; simp at this; omega
      have hJ3 := hJ _ _ _ (hJ _ _ _ hJs ((Below.refl _ wr).alloc (Nat.le_refl _) (.cells #[.string ⟨#[97, 100, 100]⟩, I 2, I 0] 40))) hb3
      have g3 : w3.cell? ⟨Bc, 0, none⟩ = some (.string ⟨#[67, 79, 85, 78, 84, 69, 82]⟩) := (hb3.cell (by simp; omega)).trans ((cell_alloc _ _ _ _ hsc).trans g2)
      have i1 := idx101_1
      gi_wp2_with fail
      refine wpIn_wide.2 ?_
      go_quiet ((go_at_call 91; first | (with_reducible exact Calls.quiet_of_same (number_2 _)) | (with_reducible exact Calls.quiet_of_same (number_0 _))))
      obtain ⟨V, hV⟩ : ∃ V, V = (w3.alloc (.cells #[.string ⟨#[97, 100, 100]⟩, I 1, .bool false] 48)).drewN nq := ⟨_, rfl⟩
      have v0 : V.cell? ⟨wr.heap.size, 0, none⟩ = some (.string ⟨#[97, 100, 100]⟩) := by rw [hV]; exact (cell_alloc _ _ _ _ hs3).trans q0
      have v3 : V.cell? ⟨Bc, 0, none⟩ = some (.string ⟨#[67, 79, 85, 78, 84, 69, 82]⟩) := by rw [hV]; exact (cell_alloc _ _ _ _ (by omega)).trans g3
      have v6 : V.cell? ⟨w3.heap.size, 2, none⟩ = some (.bool false) := by rw [hV]; show (w3.alloc _).cell? _ = _; unfold World.cell?; rw [heap_alloc, if_pos rfl]; rfl
      have hJV : J (XS.take 0) V := by rw [hV]; exact hJ _ _ _ hJ3 (below_drewN' ((Below.refl _ w3).alloc (Nat.le_refl _) _) nq)
      have hnV : Below n₀ W V := by rw [hV]; exact below_drewN' (((hnx.alloc (Nat.le_trans hn0 hnx.size) _).trans (hb3.mono (by have := hnx.size; simp; omega))).alloc (by have := hnx.size; omega) _) nq
      have hbV : V.heap[Bc]? = W.heap[Bc]? := by
        rw [hV]
        exact ((Below.heap_alloc w3 _ _ (by omega)).trans ((hb3.block Bc (by simp; omega)).trans (Below.heap_alloc wr _ _ hsc))).trans hbc.out
      replace hbV := Lib.hid hbV
      rw [← hV]
      replace hV := Lib.hid hV
      clear q0 q1 q2 g3 hJ3 hJs hb3
      obtain ⟨fn, tmps, assign, body, hy, hR⟩ := hY _ ((⟨#[99, 32, 46, 32]⟩ : ByteArray) ++ ⟨#[97, 100, 100]⟩ ++ ⟨#[32]⟩ ++ ((⟨#[40, 32]⟩ : ByteArray) ++ ⟨#[50]⟩ ++ ⟨#[32, 41, 32]⟩) ++ ⟨#[59]⟩) V hJV (by decide)
      gi_wp2
      refine hR.mono ?_
      rintro e W3 (⟨rfl, hJ4, hk4, hk5⟩ | ⟨rfl, hJx4⟩)
      · replace hk5 := Lib.hid hk5
        gi_wp2
        go_roundw
        case rel =>
          have eT : XS.take 1 = XS.take 0 ++ [(⟨#[99, 32, 46, 32]⟩ : ByteArray) ++ ⟨#[97, 100, 100]⟩ ++ ⟨#[32]⟩ ++ ((⟨#[40, 32]⟩ : ByteArray) ++ ⟨#[50]⟩ ++ ⟨#[32, 41, 32]⟩) ++ ⟨#[59]⟩] := by decide +kernel
          exact ⟨1, by omega, by simp, by rw [eT]; exact hJ4, hnV.trans hk4, hk5.out.trans hbV.out⟩
        case measure => simp [intOf]
      · gi_wp2
        refine bodyPost_ret (results_none rfl _ _ _) rfl ?_
        have eT : XS.take 0 ++ [(⟨#[99, 32, 46, 32]⟩ : ByteArray) ++ ⟨#[97, 100, 100]⟩ ++ ⟨#[32]⟩ ++ ((⟨#[40, 32]⟩ : ByteArray) ++ ⟨#[50]⟩ ++ ⟨#[32, 41, 32]⟩) ++ ⟨#[59]⟩] = XS.take 1 := by decide +kernel
        rw [eT] at hJx4
        exact ⟨⟨_, rfl⟩, .inr ⟨_, List.take_prefix _ _, hJx4⟩⟩
    · obtain ⟨x0, x1, x2⟩ := hc 1 ⟨#[99, 111, 117, 110, 116]⟩ 0 0 rfl
      have y0 := (hnx.cell (p := ⟨bb, off + 1 * 3, none⟩) hbb).trans x0
      have y1 := (hnx.cell (p := ⟨bb, off + 1 * 3 + 1, none⟩) hbb).trans x1
      have y2 := (hnx.cell (p := ⟨bb, off + 1 * 3 + 2, none⟩) hbb).trans x2
      clear x0 x1 x2
      simp only [Nat.one_mul] at y0 y1 y2
      have hsb : bb < wr.heap.size := World.block_lt_of_cell? wr _ y0
      have c16 : ∀ w, Calls Tryz.prog 16 #[.string ⟨#[67, 79, 85, 78, 84, 69, 82]⟩, .string ⟨#[99, 111, 117, 110, 116]⟩] w fun e w' => e = .returned (.tuple #[.agg #[.string ⟨#[99, 111, 117, 110, 116]⟩, I 0, .bool true], .bool true]) ∧ Below w.heap.size w w' := fun w => callOf_yes .counter 0 ⟨#[99, 111, 117, 110, 116]⟩ 0 true (by decide +kernel) rfl w
      gi_wp2_with fail
      refine ⟨trivial, (callsIn_wide.2 (c16 _)).mono ?_⟩
      rintro e w3 ⟨rfl, hb3⟩
      have q0 : w3.cell? ⟨wr.heap.size, 0, none⟩ = some (.string ⟨#[99, 111, 117, 110, 116]⟩) := (hb3.cell (by simp)).trans (by unfold World.cell?; rw [heap_alloc, if_pos rfl]; rfl)
      have q1 : w3.cell? ⟨wr.heap.size, 1, none⟩ = some (I 0) := (hb3.cell (by simp)).trans (by unfold World.cell?; rw [heap_alloc, if_pos rfl]; rfl)
      have q2 : w3.cell? ⟨wr.heap.size, 2, none⟩ = some (I 0) := (hb3.cell (by simp)).trans (by unfold World.cell?; rw [heap_alloc, if_pos rfl]; rfl)
      have hs3 : wr.heap.size < w3.heap.size := by have := hb3.size; simp at this; omega
      have hJ3 := hJ _ _ _ (hJ _ _ _ hJs ((Below.refl _ wr).alloc (Nat.le_refl _) (.cells #[.string ⟨#[99, 111, 117, 110, 116]⟩, I 0, I 0] 40))) hb3
      have g3 : w3.cell? ⟨Bc, 0, none⟩ = some (.string ⟨#[67, 79, 85, 78, 84, 69, 82]⟩) := (hb3.cell (by simp; omega)).trans ((cell_alloc _ _ _ _ hsc).trans g2)
      have i1 := idx101_0
      gi_wp2_with fail
      refine wpIn_wide.2 ?_
      go_quiet ((go_at_call 91; first | (with_reducible exact Calls.quiet_of_same (number_2 _)) | (with_reducible exact Calls.quiet_of_same (number_0 _))))
      obtain ⟨V, hV⟩ : ∃ V, V = (w3.alloc (.cells #[.string ⟨#[99, 111, 117, 110, 116]⟩, I 0, .bool true] 48)).drewN nq := ⟨_, rfl⟩
      have v0 : V.cell? ⟨wr.heap.size, 0, none⟩ = some (.string ⟨#[99, 111, 117, 110, 116]⟩) := by rw [hV]; exact (cell_alloc _ _ _ _ hs3).trans q0
      have v3 : V.cell? ⟨Bc, 0, none⟩ = some (.string ⟨#[67, 79, 85, 78, 84, 69, 82]⟩) := by rw [hV]; exact (cell_alloc _ _ _ _ (by omega)).trans g3
      have v6 : V.cell? ⟨w3.heap.size, 2, none⟩ = some (.bool true) := by rw [hV]; show (w3.alloc _).cell? _ = _; unfold World.cell?; rw [heap_alloc, if_pos rfl]; rfl
      have hJV : J (XS.take 1) V := by rw [hV]; exact hJ _ _ _ hJ3 (below_drewN' ((Below.refl _ w3).alloc (Nat.le_refl _) _) nq)
      have hnV : Below n₀ W V := by rw [hV]; exact below_drewN' (((hnx.alloc (Nat.le_trans hn0 hnx.size) _).trans (hb3.mono (by have := hnx.size; simp; omega))).alloc (by have := hnx.size; omega) _) nq
      have hbV : V.heap[Bc]? = W.heap[Bc]? := by
        rw [hV]
        exact ((Below.heap_alloc w3 _ _ (by omega)).trans ((hb3.block Bc (by simp; omega)).trans (Below.heap_alloc wr _ _ hsc))).trans hbc.out
      replace hbV := Lib.hid hbV
      rw [← hV]
      replace hV := Lib.hid hV
      clear q0 q1 q2 g3 hJ3 hJs hb3
      obtain ⟨fn, tmps, assign, body, hy, hR⟩ := hY _ ((⟨#[112, 117, 116, 32]⟩ : ByteArray) ++ ((⟨#[99, 32, 46, 32]⟩ : ByteArray) ++ ⟨#[99, 111, 117, 110, 116]⟩ ++ ⟨#[32]⟩ ++ ⟨#[]⟩ ++ ⟨#[59]⟩)) V hJV (by decide)
      gi_wp2
      refine hR.mono ?_
      rintro e W3 (⟨rfl, hJ4, hk4, hk5⟩ | ⟨rfl, hJx4⟩)
      · replace hk5 := Lib.hid hk5
        gi_wp2
        go_roundw
        case rel =>
          have eT : XS.take 2 = XS.take 1 ++ [(⟨#[112, 117, 116, 32]⟩ : ByteArray) ++ ((⟨#[99, 32, 46, 32]⟩ : ByteArray) ++ ⟨#[99, 111, 117, 110, 116]⟩ ++ ⟨#[32]⟩ ++ ⟨#[]⟩ ++ ⟨#[59]⟩)] := by decide +kernel
          exact ⟨2, by omega, by simp, by rw [eT]; exact hJ4, hnV.trans hk4, hk5.out.trans hbV.out⟩
        case measure => simp [intOf]
      · gi_wp2
        refine bodyPost_ret (results_none rfl _ _ _) rfl ?_
        have eT : XS.take 1 ++ [(⟨#[112, 117, 116, 32]⟩ : ByteArray) ++ ((⟨#[99, 32, 46, 32]⟩ : ByteArray) ++ ⟨#[99, 111, 117, 110, 116]⟩ ++ ⟨#[32]⟩ ++ ⟨#[]⟩ ++ ⟨#[59]⟩)] = XS.take 2 := by decide +kernel
        rw [eT] at hJx4
        exact ⟨⟨_, rfl⟩, .inr ⟨_, List.take_prefix _ _, hJx4⟩⟩
    · gi_wp2
      go_end0
      exact ⟨⟨_, rfl⟩, .inl ⟨_, rfl, hJs⟩⟩
end Go.Proofs.Bm

namespace Go.Proofs.Bm
open Go.RowKit Go.Maps Go.Shelf
attribute [local go_sem] Oper.semAt_some

def PRE : List ByteArray := [⟨#[99, 108, 97, 115, 115, 32, 77, 65, 73, 78, 32, 99, 114, 101, 97, 116, 101, 32, 109, 97, 107, 101, 32, 102, 101, 97, 116, 117, 114, 101, 32, 123, 32, 65, 78, 89, 32, 125, 32, 109, 97, 107, 101, 32, 108, 111, 99, 97, 108]⟩, ((⟨#[99, 32, 58, 32]⟩ : ByteArray) ++ ⟨#[67, 79, 85, 78, 84, 69, 82]⟩), ⟨#[100, 111, 32, 99, 114, 101, 97, 116, 101, 32, 99, 32, 46, 32, 109, 97, 107, 101, 32, 59]⟩]
def ENDW : ByteArray := ⟨#[101, 110, 100, 32, 101, 110, 100]⟩
def DRV0 : ByteArray := ⟨#[99, 108, 97, 115, 115, 32, 77, 65, 73, 78, 32, 99, 114, 101, 97, 116, 101, 32, 109, 97, 107, 101, 32, 102, 101, 97, 116, 117, 114, 101, 32, 123, 32, 65, 78, 89, 32, 125, 32, 109, 97, 107, 101, 32, 108, 111, 99, 97, 108, 32, 99, 32, 58, 32, 67, 79, 85, 78, 84, 69, 82, 32, 100, 111, 32, 99, 114, 101, 97, 116, 101, 32, 99, 32, 46, 32, 109, 97, 107, 101, 32, 59, 32, 99, 32, 46, 32, 97, 100, 100, 32, 40, 32, 50, 32, 41, 32, 59, 32, 112, 117, 116, 32, 99, 32, 46, 32, 99, 111, 117, 110, 116, 32, 59, 32, 101, 110, 100, 32, 101, 110, 100]⟩
def DRV : ByteArray := ⟨#[99, 108, 97, 115, 115, 32, 77, 65, 73, 78, 32, 99, 114, 101, 97, 116, 101, 32, 109, 97, 107, 101, 32, 102, 101, 97, 116, 117, 114, 101, 32, 123, 32, 65, 78, 89, 32, 125, 32, 109, 97, 107, 101, 32, 108, 111, 99, 97, 108, 32, 99, 32, 58, 32, 67, 79, 85, 78, 84, 69, 82, 32, 100, 111, 32, 99, 114, 101, 97, 116, 101, 32, 99, 32, 46, 32, 109, 97, 107, 101, 32, 59, 32, 99, 32, 46, 32, 97, 100, 100, 32, 40, 32, 50, 32, 41, 32, 59, 32, 112, 117, 116, 32, 99, 32, 46, 32, 99, 111, 117, 110, 116, 32, 59, 32, 101, 110, 100, 32, 101, 110, 100, 10]⟩

theorem lines29 (cls : ByteArray) (a : Option Addr) (n cap : Nat) (w : World) : Calls Tryz.prog 29 #[.string cls, .slice a n cap] w fun e w' => e = .returned (.func (.func 90) #[] #[.pointer (some ⟨w.heap.size + 1, 0, none⟩), .pointer (some ⟨w.heap.size, 0, none⟩)]) ∧ w' = (w.alloc (.cells #[.string cls] 9)).alloc (.cells #[.slice a n cap] 22) := by
  have hmf : ∀ (fn : Fn) (first cap : Array Value) (w : World), (Instr.makeFunc fn first cap).run Tryz.prog w = .ok (.func fn first cap) w := fun _ _ _ _ => rfl
  go_enter Tryz.func29, Tryz.ntmps29
  go_wp2
  go_ret
  exact ⟨rfl, rfl⟩
theorem joined30 {w : World} {v : Value} {xs : List ByteArray} (h : ∃ g off cap, v = .slice (some ⟨g, off, none⟩) xs.length cap ∧ xs.length ≤ cap ∧ ∀ (k : Nat) (nm : ByteArray), xs[k]? = some nm → w.cell? ⟨g, off + k, none⟩ = some (.string nm)) (hx : xs.length ≠ 0) (hn : xs.length ≤ 1000) (hl : (Lib.join (xs.map (·.data.toList)) [32]).length ≤ 1000000) :
    Calls Tryz.prog 30 #[v] w fun e w' => e = .returned (.string ⟨(Lib.join (xs.map (·.data.toList)) [32]).toArray⟩) ∧ Below w.heap.size w w' := by
  obtain ⟨g, off, cap, rfl, hcap, hc⟩ := h
  by_cases h0 : xs.length = 0
  · exact absurd h0 hx
  have hg : g < w.heap.size := World.block_lt_of_cell? w _ (hc 0 _ (List.getElem?_eq_getElem (by omega)))
  have hj := Tryz.strings_Join g off cap xs ⟨#[32]⟩ w (fun j x h => hc j x h) hg (by omega) hcap (by exact Nat.le_trans hl (by omega))
  go_enter Tryz.func30, Tryz.ntmps30
  go_wp2_with fail
  refine hj.mono ?_
  rintro e w' ⟨rfl, hb⟩
  go_wp2
  go_ret
  exact ⟨rfl, hb⟩
theorem row_ne {W : World} {B N : Nat} {s v : Value} {n : Nat} {xs : List Value} (hb : Boxed W B 9 s) (hr : W.ownsRow N 9 1 v n xs) (hn : 2 ≤ n) : v.ownBlock ≠ some B := by
  rcases hr.2 with ⟨rfl, _⟩ | ⟨g, cap, cur, rfl, _, hg, h1, _, h2, _⟩
  · simp [Value.ownBlock]
  · intro e
    obtain rfl : g = B := by simpa [Value.ownBlock] using e
    have := (show W.heap[g]? = _ from hb).symm.trans hg
    simp at this
    rw [← this] at h2
    simp at h2
    omega
theorem row_base {W : World} {N : Nat} {v : Value} {n : Nat} {xs : List Value} (hr : W.ownsRow N 9 1 v n xs) (k : Nat) (e : v.ownBlock = some k) : N ≤ k := by
  rcases hr.2 with ⟨rfl, _⟩ | ⟨g, cap, cur, rfl, h, _⟩
  · simp [Value.ownBlock] at e
  · obtain rfl : g = k := by simpa [Value.ownBlock] using e
    exact h
theorem row_ne_defer {W : World} {D N : Nat} {o : Obj} {v : Value} {n : Nat} {xs : List Value} (hb : W.heap[D]? = some o) (ho : o.isCells = false) (hr : W.ownsRow N 9 1 v n xs) : v.ownBlock ≠ some D := by
  rcases hr.2 with ⟨rfl, _⟩ | ⟨g, cap, cur, rfl, _, hg, _⟩
  · simp [Value.ownBlock]
  · intro e
    obtain rfl : g = D := by simpa [Value.ownBlock] using e
    rw [hb] at hg
    cases hg
    cases ho

set_option maxRecDepth 100000 in
set_option maxHeartbeats 4000000 in
theorem driver_in (n : Nat) (hn : 5 ≤ n) (bb off cap : Nat) (w : World) (hL : LC w (some ⟨bb, off, none⟩) SCR) :
    CallsIn Fence.wide n Tryz.prog 10 #[.string ⟨#[67, 79, 85, 78, 84, 69, 82]⟩, .slice (some ⟨bb, off, none⟩) 2 cap] w fun e w' => e = .returned (.tuple #[.string DRV, I 0]) ∧ Below w.heap.size w w' := by
  have h1 : 1 ≤ n := by omega
  have hok : ∀ x ∈ SCR, okC .counter x := by
    intro x hx
    rcases List.mem_cons.1 hx with rfl | hx
    · exact ⟨2, 1, false, rfl, by simp [inR], by simp [inR], by simp, by simp⟩
    · obtain rfl := List.mem_singleton.1 hx
      exact ⟨0, 0, true, rfl, by simp [inR], by simp [inR], by simp, by simp⟩
  have hck : Calls Tryz.prog 14 #[.string ⟨#[67, 79, 85, 78, 84, 69, 82]⟩, .slice (some ⟨bb, off, none⟩) 2 cap] w (ErrPost 0 w) := check_loop .counter _ cap SCR 0 (.inl ⟨rfl, hok⟩) w hL (by decide)
  refine callsIn_of_wp_marks Tryz.func10 rfl trivial ?_ rfl
  simp only [Tryz.ntmps10, List.size_toArray, List.length_cons, List.length_nil, Nat.reduceAdd, Nat.reduceSub, Array.replicate_succ, Array.replicate_zero, List.push_toArray, List.append_toArray, List.nil_append, List.cons_append]
  gi_wp2_with fail
  refine ⟨trivial, (callsIn_wide.2 hck).mono ?_⟩
  rintro e w1 ⟨rfl, hb1⟩
  have hL1 := hL.below hb1
  clear hck hok hL
  gi_wp2_with fail
  refine ⟨trivial, (callsIn_wide.2 (lines29 _ _ _ _ _)).mono ?_⟩
  rintro e w' ⟨rfl, rfl⟩
  gi_wp2_with fail
  have hbb : bb < w1.heap.size := by obtain ⟨b', off', e, c0, _⟩ := hL1.cell 0 _ _ _ rfl; cases e; exact World.block_lt_of_cell? _ _ c0
  obtain ⟨i0, hi, hz0, hz1, hz2⟩ := info_parts info9
  obtain ⟨W0, hW0⟩ : ∃ W0, W0 = (((w1.alloc (.cells #[.string ⟨#[99, 108, 97, 115, 115, 32, 77, 65, 73, 78, 32, 99, 114, 101, 97, 116, 101, 32, 109, 97, 107, 101, 32, 102, 101, 97, 116, 117, 114, 101, 32, 123, 32, 65, 78, 89, 32, 125, 32, 109, 97, 107, 101, 32, 108, 111, 99, 97, 108]⟩, .string ((⟨#[99, 32, 58, 32]⟩ : ByteArray) ++ ⟨#[67, 79, 85, 78, 84, 69, 82]⟩), .string ⟨#[100, 111, 32, 99, 114, 101, 97, 116, 101, 32, 99, 32, 46, 32, 109, 97, 107, 101, 32, 59]⟩] 9)).alloc (.cells #[.slice (some ⟨w1.heap.size, 0, none⟩) 3 3] 34)).alloc (.cells #[.string ⟨#[67, 79, 85, 78, 84, 69, 82]⟩] 9)).alloc (.cells #[.slice (some ⟨bb, off, none⟩) 2 cap] 22) := ⟨_, rfl⟩
  have hs0 : W0.heap.size = w1.heap.size + 4 := by rw [hW0]; simp
  have b0 : W0.heap[w1.heap.size]? = some (.cells #[.string ⟨#[99, 108, 97, 115, 115, 32, 77, 65, 73, 78, 32, 99, 114, 101, 97, 116, 101, 32, 109, 97, 107, 101, 32, 102, 101, 97, 116, 117, 114, 101, 32, 123, 32, 65, 78, 89, 32, 125, 32, 109, 97, 107, 101, 32, 108, 111, 99, 97, 108]⟩, .string ((⟨#[99, 32, 58, 32]⟩ : ByteArray) ++ ⟨#[67, 79, 85, 78, 84, 69, 82]⟩), .string ⟨#[100, 111, 32, 99, 114, 101, 97, 116, 101, 32, 99, 32, 46, 32, 109, 97, 107, 101, 32, 59]⟩] 9 (0, 0)) := by
    rw [hW0]; simp only [heap_alloc, World.size_alloc]; rw [if_neg (by omega), if_neg (by omega), if_neg (by omega), if_pos trivial]
  have b1 : Boxed W0 (w1.heap.size + 1) 34 (.slice (some ⟨w1.heap.size, 0, none⟩) 3 3) := by
    unfold Boxed; rw [hW0]; simp only [heap_alloc, World.size_alloc]; rw [if_neg (by omega), if_neg (by omega), if_pos trivial]
  have b2 : Boxed W0 (w1.heap.size + 1 + 1) 9 (.string ⟨#[67, 79, 85, 78, 84, 69, 82]⟩) := by
    unfold Boxed; rw [hW0]; simp only [heap_alloc, World.size_alloc]; rw [if_neg (by omega), if_pos trivial]
  have b3 : Boxed W0 (w1.heap.size + 1 + 1 + 1) 22 (.slice (some ⟨bb, off, none⟩) 2 cap) := by
    unfold Boxed; rw [hW0]; simp only [heap_alloc, World.size_alloc]; rw [if_pos trivial]
  have hB0 : Below w1.heap.size w1 W0 := by
    rw [hW0]; exact ((((Below.refl _ w1).alloc (Nat.le_refl _) _).alloc (by simp) _).alloc (by simp; omega) _).alloc (by simp; omega) _
  have hL0 := hL1.below hB0
  have hseq : SeqStopsK Fence.wide (n - 1) Tryz.prog 90 #[.pointer (some ⟨w1.heap.size + 1 + 1 + 1, 0, none⟩), .pointer (some ⟨w1.heap.size + 1 + 1, 0, none⟩)] (fun x : ByteArray => #[Value.string x]) (fun A B => Below w1.heap.size A B ∧ B.heap[w1.heap.size + 1 + 1]? = A.heap[w1.heap.size + 1 + 1]?) (fun ys => ys = XS) (fun pre => pre <+: XS) 2 W0 := fun l J Jx W hW hJ hJx hY h0 =>
    lines1_in (n - 1) (by omega) l (w1.heap.size + 1 + 1 + 1) (w1.heap.size + 1 + 1) bb off cap w1.heap.size J Jx hbb (fun s A B hs hb => hJ s A B none hs (below_grown hb) (fun r e => (by cases e))) hY W
      ((hW.cell (p := ⟨_, 0, none⟩) b3.lt).trans b3.cell) ((hW.block _ b2.lt).trans b2)
      (fun k nm A B hk => by obtain ⟨b', off', e, c0, c1, c2⟩ := (hL0.below hW).cell k nm A B hk; cases e; exact ⟨c0, c1, c2⟩) h0 (by have := hW.size; omega)
  rw [← hW0]
  replace hW0 := Lib.hid hW0
  replace hs0 := Lib.hid hs0
  refine wpIn_rangeFunc_ownG rfl h1 (gf := 90) (lb := #[.pointer (some ⟨w1.heap.size + 1 + 1 + 1, 0, none⟩), .pointer (some ⟨w1.heap.size + 1 + 1, 0, none⟩)]) rfl trivial (enters_of Tryz.func90 (by kernel_rfl) rfl)
    hseq (fun h k => ⟨h.1.trans k.1, k.2.trans h.2⟩) (fun W l o o' hl hW ho hw => ⟨belowK_b (w := W0) (by rw [hs0.out]; omega) W l o o' hl hW ho hw, (grownBy_putObj' W l o').block _ (by have := (Array.getElem?_eq_some_iff.1 hW).1; have := hs0.out; omega) (fun e => by have := Option.some.inj e; have := hs0.out; omega)⟩) (Below.refl _ _) (fun _ => rfl)
    (fun pre W => (∃ v, Boxed W (w1.heap.size + 1) 34 v ∧ W.ownsRow w1.heap.size 9 1 v (3 + pre.length) ((PRE ++ pre).map Value.string) ∧ True) ∧ Boxed W (w1.heap.size + 1 + 1) 9 (.string ⟨#[67, 79, 85, 78, 84, 69, 82]⟩) ∧ Below w1.heap.size w1 W)
    (fun _ _ _ => False)
    (OwnFrom.and (Own.from (holdsRow_own w1.heap.size (w1.heap.size + 1) 34 9 1 (fun pre : List ByteArray => 3 + pre.length) (fun pre => (PRE ++ pre).map Value.string) (fun _ _ => True)) _) (OwnFrom.and (Own.from (boxed_own _ _ _) _) (ownFrom_below (Nat.le_refl _) (by rw [hs0.out]; omega))))
    (fun _ _ _ _ _ hs _ _ => hs)
    ⟨⟨_, b1, ⟨rfl, .inr ⟨_, 3, _, rfl, Nat.le_refl _, b0, by simp, by simp [maxLen], rfl, rfl⟩⟩, trivial⟩, b2, hB0⟩
    (fun x => { tmps := #[.string ⟨#[67, 79, 85, 78, 84, 69, 82]⟩, .slice (some ⟨bb, off, none⟩) 2 cap, undef, undef, .string ⟨#[]⟩, .int .i64 0, I 0, .string ((⟨#[99, 32, 58, 32]⟩ : ByteArray) ++ ⟨#[67, 79, 85, 78, 84, 69, 82]⟩), .pointer (some ⟨w1.heap.size + 1, 0, none⟩), .string x, .string ⟨#[67, 79, 85, 78, 84, 69, 82]⟩, .slice (some ⟨bb, off, none⟩) 2 cap, I 0, I 0, .bool false, undef, .string ⟨#[67, 79, 85, 78, 84, 69, 82]⟩, .string ((⟨#[99, 32, 58, 32]⟩ : ByteArray) ++ ⟨#[67, 79, 85, 78, 84, 69, 82]⟩), .string ⟨#[67, 79, 85, 78, 84, 69, 82]⟩, .bool false, .string ((⟨#[99, 32, 58, 32]⟩ : ByteArray) ++ ⟨#[67, 79, 85, 78, 84, 69, 82]⟩), .slice (some ⟨w1.heap.size, 0, none⟩) 3 3, .string ⟨#[67, 79, 85, 78, 84, 69, 82]⟩, .slice (some ⟨bb, off, none⟩) 2 cap, .func (.func 90) #[] #[.pointer (some ⟨w1.heap.size + 1 + 1 + 1, 0, none⟩), .pointer (some ⟨w1.heap.size + 1 + 1, 0, none⟩)], .string x, undef, undef, undef, undef, undef, undef, undef, undef, undef], defers := [] }) ?assign ?body ?done ?stop
  case assign =>
    intro l x W K hK
    gi_wp2
    exact hK
  case body =>
    rintro l pre x W ⟨⟨v, hv, hrow, _⟩, hcb, hB⟩ hlt
    have hc := hv.cell
    have hrne := row_ne hcb hrow (by omega)
    have hcblt := hcb.lt
    have hcb' := Lib.hid hcb
    have hBs := hB.size
    have hlt' : pre.length < 2 := hlt
    clear hcb
    gi_wp2_with (gi_at_builtin; refine wpListIn_append_own _ rfl _ _ 34 rfl w1.heap.size 9 i0 (.string ⟨#[]⟩) 1 16 Tryz.underlying34 hi hz0 hz1 hz2 rfl (by decide) _ _ _ rfl (hrow.alloc _) ⟨W.heap.size, 0, none⟩ 1 1 [.string x] rfl rfl (cell_one_new _ _ _) (by simp [Value.oneCell']) (by simp only [maxLen]; omega) (by omega) (by simp; omega) ?_; intro v' w2 hown' hgrow _; obtain ⟨g', cap', rfl⟩ := ownsRow_succ hown'; obtain ⟨hv1, hv2, hr2, hk2, hb2⟩ := hv.appended (by decide) hrow hBs (by omega) hown' hgrow; have hc1 := hv1.cell; have hf1 := hv1.frozen)
    have hkeep := (heap_setCell w2 ⟨w1.heap.size + 1, 0, none⟩ (.slice (some ⟨g', 0, none⟩) (3 + pre.length + 1) cap') (w1.heap.size + 1 + 1) (by simp)).trans ((hgrow.block _ (by simp; omega) (fun e => hrne e.symm)).trans (Below.heap_alloc W _ _ hcblt))
    have eL : 3 + (pre ++ [x]).length = 3 + pre.length + 1 := by rw [List.length_append]; rfl
    have eM : (PRE ++ (pre ++ [x])).map Value.string = (PRE ++ pre).map Value.string ++ [Value.string x] := by rw [← List.append_assoc, List.map_append]; rfl
    refine ⟨hk2.from _, ⟨hb2, hkeep⟩, ⟨_, hv2, ?_⟩, hkeep.trans hcb'.out, hB.trans hb2⟩
    first
      | (refine ⟨?_, trivial⟩; rw [eL, eM]; exact hr2)
      | (rw [eL, ← List.map_append, eM]; exact hr2)
  case done =>
    rintro D ys W hD rfl ⟨⟨v, hv, hrow, _⟩, hcb, hB⟩ hK
    have hc := hv.cell
    have hBs := hB.size
    have hDl := (Array.getElem?_eq_some_iff.1 hK).1
    have hrD := row_ne_defer hK rfl hrow
    rw [show 3 + XS.length = 5 from rfl] at hrow
    replace hK := Lib.hid hK
    clear hcb
    gi_wp2_with (gi_at_builtin; refine wpListIn_append_own _ rfl _ _ 34 rfl w1.heap.size 9 i0 (.string ⟨#[]⟩) 1 16 Tryz.underlying34 hi hz0 hz1 hz2 rfl (by decide) _ _ _ rfl (hrow.alloc _) ⟨W.heap.size, 0, none⟩ 1 1 [.string ⟨#[101, 110, 100, 32, 101, 110, 100]⟩] rfl rfl (cell_one_new _ _ _) (by simp [Value.oneCell']) (by simp [maxLen]) (by omega) (by simp; omega) ?_; intro v' w2 hown' hgrow _; obtain ⟨g', cap', rfl⟩ := ownsRow_succ hown')
    have hcap : 6 ≤ cap' := by
      rcases hown'.2 with ⟨e, _⟩ | ⟨g, cap, cur, e, _, hg, h1, _, h2, _⟩
      · cases e
      · cases e; omega
    have hb3 : Below w1.heap.size W w2 := ((Below.refl _ W).alloc hBs _).grown hgrow (by simp; omega) (fun k e => row_base hrow k e)
    have eJ : (⟨(Lib.join ((PRE ++ XS ++ [ENDW]).map (·.data.toList)) [32]).toArray⟩ : ByteArray) = DRV0 := by decide +kernel
    have eD : DRV0 ++ (⟨#[10]⟩ : ByteArray) = DRV := by decide +kernel
    refine ⟨trivial, (callsIn_wide.2 (joined30 (xs := PRE ++ XS ++ [ENDW]) ⟨g', 0, cap', rfl, hcap, ?_⟩ (by decide) (by decide) (by decide +kernel))).mono ?_⟩
    · intro k nm hk
      have hk6 : k < 6 := (List.getElem?_eq_some_iff.1 hk).1
      rw [Nat.zero_add, hown'.cellAt k (by omega)]
      have e : (PRE ++ XS).map Value.string ++ [Value.string ENDW] = (PRE ++ XS ++ [ENDW]).map Value.string := by rw [List.map_append]; rfl
      refine (congrArg (·[k]?) e).trans ?_
      rw [List.getElem?_map, hk]
      rfl
    rintro e w4 ⟨rfl, hb4⟩
    rw [eJ]
    have hK4 : w4.heap[D]? = _ := (hb4.block D (by have := hgrow.size; simp at this; omega)).trans ((hgrow.block _ (by simp; omega) (fun e => hrD e.symm)).trans ((Below.heap_alloc W _ _ hDl).trans hK.out))
    gi_wp2
    refine ⟨by simp, .inl ⟨_, _, rfl, run_takeDeferred hK4, ?_⟩⟩
    have hBz : Below w1.heap.size w1 w4 := hB.trans (hb3.trans (hb4.mono (by have := hgrow.size; simp at this; omega)))
    exact ⟨_, results_tmp2 rfl _ _ _, rfl, hb1.trans ((hBz.mono hb1.size).trans (belowK_b (w := w1) hb1.size w4 D _ _ (by have := hs0.out; omega) hK4 rfl rfl))⟩
  case stop =>
    rintro D c pre W _ _ h _
    exact h.elim

theorem driver_plain (bb off cap : Nat) (w : World) (hL : LC w (some ⟨bb, off, none⟩) SCR) :
    Calls Tryz.prog 10 #[.string ⟨#[67, 79, 85, 78, 84, 69, 82]⟩, .slice (some ⟨bb, off, none⟩) 2 cap] w fun e w' => e = .returned (.tuple #[.string DRV, I 0]) ∧ Below w.heap.size w w' :=
  (callsIn_wide (n := 5)).1 (driver_in 5 (by omega) bb off cap w hL)
end Go.Proofs.Bm

namespace Go.Proofs.Bm
open Go.RowKit Go.Maps
theorem do11 (nm : ByteArray) (A B : Int) (w : World) : Calls Tryz.prog 11 #[.string nm, I A, I B] w fun e w' => e = .returned (.agg #[.string nm, I A, I B]) ∧ Below w.heap.size w w' := by
  go_enter Tryz.func11, Tryz.ntmps11
  go_wp2
  refine bodyPost_ret (v := .agg #[.string nm, I A, I B]) (by simp [results, Tryz.results11, go_sem]) rfl ?_
  exact ⟨rfl, (Below.refl _ w).alloc (Nat.le_refl _) _⟩
theorem strS_below {w w' : World} {v : Value} {l : List ByteArray} (h : StrS w v l) (hb : Below w.heap.size w w') : StrS w' v l := by
  obtain ⟨g, off, cap, e, hc⟩ := h
  exact ⟨g, off, cap, e, fun k nm hk => (hb.cell (World.block_lt_of_cell? w _ (hc k nm hk))).trans (hc k nm hk)⟩
theorem strS_new (w : World) (l : List ByteArray) (T : TypeId) (cs : Array Value) (h : cs = (l.map Value.string).toArray) : StrS (w.alloc (.cells cs T)) (.slice (some ⟨w.heap.size, 0, none⟩) l.length l.length) l := by
  subst h
  refine ⟨_, 0, _, rfl, fun k nm hk => ?_⟩
  unfold World.cell?
  rw [heap_alloc, if_pos rfl]
  simp [hk]

theorem says_ints (w : World) : Calls Tryz.prog 13 #[.string ⟨#[73, 78, 84, 83]⟩, .slice (some ⟨w.heap.size, 0, none⟩) 6 6, .slice (some ⟨w.heap.size + 1, 0, none⟩) 2 2, .int .i64 0] ((w.alloc (.cells #[.string ⟨#[112, 117, 115, 104]⟩, I 3, I 0, .string ⟨#[101, 120, 116, 101, 110, 100]⟩, I 5, I 0, .string ⟨#[112, 117, 115, 104]⟩, I 1, I 0, .string ⟨#[115, 117, 109]⟩, I 0, I 0, .string ⟨#[114, 101, 118, 101, 114, 115, 101]⟩, I 0, I 0, .string ⟨#[105, 116, 101, 109]⟩, I 1, I 0] 40)).alloc (.cells #[.int .i64 9, .int .i64 5] 3)) fun e w' => e = .returned (.bool true) ∧ Below w.heap.size w w' := by
  have hL : LC (w.alloc (.cells #[.string ⟨#[112, 117, 115, 104]⟩, I 3, I 0, .string ⟨#[101, 120, 116, 101, 110, 100]⟩, I 5, I 0, .string ⟨#[112, 117, 115, 104]⟩, I 1, I 0, .string ⟨#[115, 117, 109]⟩, I 0, I 0, .string ⟨#[114, 101, 118, 101, 114, 115, 101]⟩, I 0, I 0, .string ⟨#[105, 116, 101, 109]⟩, I 1, I 0] 40)) (some ⟨w.heap.size, 0, none⟩) L_intsS := LC_new w L_intsS 40 _ rfl (by decide) in_ints
  have hO := OwnI_new (w.alloc (.cells #[.string ⟨#[112, 117, 115, 104]⟩, I 3, I 0, .string ⟨#[101, 120, 116, 101, 110, 100]⟩, I 5, I 0, .string ⟨#[112, 117, 115, 104]⟩, I 1, I 0, .string ⟨#[115, 117, 109]⟩, I 0, I 0, .string ⟨#[114, 101, 118, 101, 114, 115, 101]⟩, I 0, I 0, .string ⟨#[105, 116, 101, 109]⟩, I 1, I 0] 40)) [9, 5] #[.int .i64 9, .int .i64 5] rfl (by decide)
  rw [World.size_alloc] at hO
  have hs := says_yes .ints _ 6 L_intsS [9, 5] 0 _ _ _ (hL.below ((Below.refl _ _).alloc (Nat.le_refl _) (.cells #[.int .i64 9, .int .i64 5] 3))) (by decide) ok_ints play_ints hO
  have hw := ((Below.refl _ w).alloc (Nat.le_refl _) (.cells #[.string ⟨#[112, 117, 115, 104]⟩, I 3, I 0, .string ⟨#[101, 120, 116, 101, 110, 100]⟩, I 5, I 0, .string ⟨#[112, 117, 115, 104]⟩, I 1, I 0, .string ⟨#[115, 117, 109]⟩, I 0, I 0, .string ⟨#[114, 101, 118, 101, 114, 115, 101]⟩, I 0, I 0, .string ⟨#[105, 116, 101, 109]⟩, I 1, I 0] 40)).alloc (by simp) (.cells #[.int .i64 9, .int .i64 5] 3)
  exact hs.mono fun e w' ⟨h, g⟩ => ⟨h, hw.trans (g.mono hw.size)⟩
theorem says_sorted (w : World) : Calls Tryz.prog 13 #[.string ⟨#[83, 79, 82, 84, 69, 68]⟩, .slice (some ⟨w.heap.size, 0, none⟩) 5 5, .slice (some ⟨w.heap.size + 1, 0, none⟩) 1 1, .int .i64 1] ((w.alloc (.cells #[.string ⟨#[112, 117, 115, 104]⟩, I 3, I 0, .string ⟨#[101, 120, 116, 101, 110, 100]⟩, I 1, I 0, .string ⟨#[112, 117, 115, 104]⟩, I 2, I 0, .string ⟨#[105, 116, 101, 109]⟩, I 2, I 0, .string ⟨#[105, 116, 101, 109]⟩, I 4, I 0] 40)).alloc (.cells #[.int .i64 2] 3)) fun e w' => e = .returned (.bool true) ∧ Below w.heap.size w w' := by
  have hL : LC (w.alloc (.cells #[.string ⟨#[112, 117, 115, 104]⟩, I 3, I 0, .string ⟨#[101, 120, 116, 101, 110, 100]⟩, I 1, I 0, .string ⟨#[112, 117, 115, 104]⟩, I 2, I 0, .string ⟨#[105, 116, 101, 109]⟩, I 2, I 0, .string ⟨#[105, 116, 101, 109]⟩, I 4, I 0] 40)) (some ⟨w.heap.size, 0, none⟩) L_sortedS := LC_new w L_sortedS 40 _ rfl (by decide) in_sorted
  have hO := OwnI_new (w.alloc (.cells #[.string ⟨#[112, 117, 115, 104]⟩, I 3, I 0, .string ⟨#[101, 120, 116, 101, 110, 100]⟩, I 1, I 0, .string ⟨#[112, 117, 115, 104]⟩, I 2, I 0, .string ⟨#[105, 116, 101, 109]⟩, I 2, I 0, .string ⟨#[105, 116, 101, 109]⟩, I 4, I 0] 40)) [2] #[.int .i64 2] rfl (by decide)
  rw [World.size_alloc] at hO
  have hs := says_yes .sorted _ 5 L_sortedS [2] 1 _ _ _ (hL.below ((Below.refl _ _).alloc (Nat.le_refl _) (.cells #[.int .i64 2] 3))) (by decide) ok_sorted play_sorted hO
  have hw := ((Below.refl _ w).alloc (Nat.le_refl _) (.cells #[.string ⟨#[112, 117, 115, 104]⟩, I 3, I 0, .string ⟨#[101, 120, 116, 101, 110, 100]⟩, I 1, I 0, .string ⟨#[112, 117, 115, 104]⟩, I 2, I 0, .string ⟨#[105, 116, 101, 109]⟩, I 2, I 0, .string ⟨#[105, 116, 101, 109]⟩, I 4, I 0] 40)).alloc (by simp) (.cells #[.int .i64 2] 3)
  exact hs.mono fun e w' ⟨h, g⟩ => ⟨h, hw.trans (g.mono hw.size)⟩
theorem says_table (w : World) : Calls Tryz.prog 13 #[.string ⟨#[84, 65, 66, 76, 69]⟩, .slice (some ⟨w.heap.size, 0, none⟩) 5 5, .slice (some ⟨w.heap.size + 1, 0, none⟩) 3 3, .int .i64 0] ((w.alloc (.cells #[.string ⟨#[102, 111, 114, 99, 101]⟩, I 1, I 7, .string ⟨#[102, 111, 114, 99, 101]⟩, I 1, I 8, .string ⟨#[99, 111, 117, 110, 116]⟩, I 0, I 0, .string ⟨#[118, 97, 108, 117, 101, 95, 111, 102]⟩, I 1, I 0, .string ⟨#[118, 97, 108, 117, 101, 95, 111, 102]⟩, I 2, I 0] 40)).alloc (.cells #[.int .i64 1, .int .i64 8, .int .i64 0] 3)) fun e w' => e = .returned (.bool true) ∧ Below w.heap.size w w' := by
  have hL : LC (w.alloc (.cells #[.string ⟨#[102, 111, 114, 99, 101]⟩, I 1, I 7, .string ⟨#[102, 111, 114, 99, 101]⟩, I 1, I 8, .string ⟨#[99, 111, 117, 110, 116]⟩, I 0, I 0, .string ⟨#[118, 97, 108, 117, 101, 95, 111, 102]⟩, I 1, I 0, .string ⟨#[118, 97, 108, 117, 101, 95, 111, 102]⟩, I 2, I 0] 40)) (some ⟨w.heap.size, 0, none⟩) L_tableS := LC_new w L_tableS 40 _ rfl (by decide) in_table
  have hO := OwnI_new (w.alloc (.cells #[.string ⟨#[102, 111, 114, 99, 101]⟩, I 1, I 7, .string ⟨#[102, 111, 114, 99, 101]⟩, I 1, I 8, .string ⟨#[99, 111, 117, 110, 116]⟩, I 0, I 0, .string ⟨#[118, 97, 108, 117, 101, 95, 111, 102]⟩, I 1, I 0, .string ⟨#[118, 97, 108, 117, 101, 95, 111, 102]⟩, I 2, I 0] 40)) [1, 8, 0] #[.int .i64 1, .int .i64 8, .int .i64 0] rfl (by decide)
  rw [World.size_alloc] at hO
  have hs := says_yes .table _ 5 L_tableS [1, 8, 0] 0 _ _ _ (hL.below ((Below.refl _ _).alloc (Nat.le_refl _) (.cells #[.int .i64 1, .int .i64 8, .int .i64 0] 3))) (by decide) ok_table play_table hO
  have hw := ((Below.refl _ w).alloc (Nat.le_refl _) (.cells #[.string ⟨#[102, 111, 114, 99, 101]⟩, I 1, I 7, .string ⟨#[102, 111, 114, 99, 101]⟩, I 1, I 8, .string ⟨#[99, 111, 117, 110, 116]⟩, I 0, I 0, .string ⟨#[118, 97, 108, 117, 101, 95, 111, 102]⟩, I 1, I 0, .string ⟨#[118, 97, 108, 117, 101, 95, 111, 102]⟩, I 2, I 0] 40)).alloc (by simp) (.cells #[.int .i64 1, .int .i64 8, .int .i64 0] 3)
  exact hs.mono fun e w' ⟨h, g⟩ => ⟨h, hw.trans (g.mono hw.size)⟩
theorem says_arith (w : World) : Calls Tryz.prog 13 #[.string ⟨#[65, 82, 73, 84, 72]⟩, .slice (some ⟨w.heap.size, 0, none⟩) 5 5, .slice (some ⟨w.heap.size + 1, 0, none⟩) 4 4, .int .i64 107] ((w.alloc (.cells #[.string ⟨#[103, 99, 100]⟩, I 12, I 18, .string ⟨#[112, 111, 119, 101, 114]⟩, I 2, I 10, .string ⟨#[102, 97, 99, 116]⟩, I 5, I 0, .string ⟨#[116, 114, 105, 101, 115]⟩, I 3, I 0, .string ⟨#[116, 114, 105, 101, 115]⟩, I 21, I 0] 40)).alloc (.cells #[.int .i64 6, .int .i64 1024, .int .i64 120, .int .i64 3] 3)) fun e w' => e = .returned (.bool true) ∧ Below w.heap.size w w' := by
  have hL : LC (w.alloc (.cells #[.string ⟨#[103, 99, 100]⟩, I 12, I 18, .string ⟨#[112, 111, 119, 101, 114]⟩, I 2, I 10, .string ⟨#[102, 97, 99, 116]⟩, I 5, I 0, .string ⟨#[116, 114, 105, 101, 115]⟩, I 3, I 0, .string ⟨#[116, 114, 105, 101, 115]⟩, I 21, I 0] 40)) (some ⟨w.heap.size, 0, none⟩) L_arithS := LC_new w L_arithS 40 _ rfl (by decide) in_arith
  have hO := OwnI_new (w.alloc (.cells #[.string ⟨#[103, 99, 100]⟩, I 12, I 18, .string ⟨#[112, 111, 119, 101, 114]⟩, I 2, I 10, .string ⟨#[102, 97, 99, 116]⟩, I 5, I 0, .string ⟨#[116, 114, 105, 101, 115]⟩, I 3, I 0, .string ⟨#[116, 114, 105, 101, 115]⟩, I 21, I 0] 40)) [6, 1024, 120, 3] #[.int .i64 6, .int .i64 1024, .int .i64 120, .int .i64 3] rfl (by decide)
  rw [World.size_alloc] at hO
  have hs := says_yes .arith _ 5 L_arithS [6, 1024, 120, 3] 107 _ _ _ (hL.below ((Below.refl _ _).alloc (Nat.le_refl _) (.cells #[.int .i64 6, .int .i64 1024, .int .i64 120, .int .i64 3] 3))) (by decide) ok_arith play_arith hO
  have hw := ((Below.refl _ w).alloc (Nat.le_refl _) (.cells #[.string ⟨#[103, 99, 100]⟩, I 12, I 18, .string ⟨#[112, 111, 119, 101, 114]⟩, I 2, I 10, .string ⟨#[102, 97, 99, 116]⟩, I 5, I 0, .string ⟨#[116, 114, 105, 101, 115]⟩, I 3, I 0, .string ⟨#[116, 114, 105, 101, 115]⟩, I 21, I 0] 40)).alloc (by simp) (.cells #[.int .i64 6, .int .i64 1024, .int .i64 120, .int .i64 3] 3)
  exact hs.mono fun e w' ⟨h, g⟩ => ⟨h, hw.trans (g.mono hw.size)⟩
theorem says_range (w : World) : Calls Tryz.prog 13 #[.string ⟨#[82, 65, 78, 71, 69]⟩, .slice (some ⟨w.heap.size, 0, none⟩) 4 4, .slice (some ⟨w.heap.size + 1, 0, none⟩) 2 2, .int .i64 1] ((w.alloc (.cells #[.string ⟨#[115, 112, 97, 110]⟩, I 3, I 6, .string ⟨#[115, 105, 122, 101]⟩, I 0, I 0, .string ⟨#[115, 117, 109]⟩, I 0, I 0, .string ⟨#[115, 112, 97, 110]⟩, I 5, I 3] 40)).alloc (.cells #[.int .i64 4, .int .i64 18] 3)) fun e w' => e = .returned (.bool true) ∧ Below w.heap.size w w' := by
  have hL : LC (w.alloc (.cells #[.string ⟨#[115, 112, 97, 110]⟩, I 3, I 6, .string ⟨#[115, 105, 122, 101]⟩, I 0, I 0, .string ⟨#[115, 117, 109]⟩, I 0, I 0, .string ⟨#[115, 112, 97, 110]⟩, I 5, I 3] 40)) (some ⟨w.heap.size, 0, none⟩) L_rangeS := LC_new w L_rangeS 40 _ rfl (by decide) in_range
  have hO := OwnI_new (w.alloc (.cells #[.string ⟨#[115, 112, 97, 110]⟩, I 3, I 6, .string ⟨#[115, 105, 122, 101]⟩, I 0, I 0, .string ⟨#[115, 117, 109]⟩, I 0, I 0, .string ⟨#[115, 112, 97, 110]⟩, I 5, I 3] 40)) [4, 18] #[.int .i64 4, .int .i64 18] rfl (by decide)
  rw [World.size_alloc] at hO
  have hs := says_yes .range _ 4 L_rangeS [4, 18] 1 _ _ _ (hL.below ((Below.refl _ _).alloc (Nat.le_refl _) (.cells #[.int .i64 4, .int .i64 18] 3))) (by decide) ok_range play_range hO
  have hw := ((Below.refl _ w).alloc (Nat.le_refl _) (.cells #[.string ⟨#[115, 112, 97, 110]⟩, I 3, I 6, .string ⟨#[115, 105, 122, 101]⟩, I 0, I 0, .string ⟨#[115, 117, 109]⟩, I 0, I 0, .string ⟨#[115, 112, 97, 110]⟩, I 5, I 3] 40)).alloc (by simp) (.cells #[.int .i64 4, .int .i64 18] 3)
  exact hs.mono fun e w' ⟨h, g⟩ => ⟨h, hw.trans (g.mono hw.size)⟩

set_option maxRecDepth 100000 in
set_option maxHeartbeats 2000000 in
theorem head_yes (w : World) : Calls Tryz.prog 4 #[] w fun e w' => e = .returned (.bool true) ∧ Below w.heap.size w w' := by
  go_enter Tryz.func4, Tryz.ntmps4
  go_wp2_with fail
  refine (needs_set _).mono ?_
  rintro e w1 ⟨v, rfl, hS, hb1⟩
  go_wp2_with fail
  refine (do11 _ _ _ _).mono ?_
  rintro e w2 ⟨rfl, h2⟩
  go_wp2_with fail
  refine (do11 _ _ _ _).mono ?_
  rintro e w3 ⟨rfl, h3⟩
  have hb3 : Below w.heap.size w w3 := hb1.trans ((h2.mono hb1.size).trans (h3.mono (Nat.le_trans hb1.size h2.size)))
  have hS3 : StrS w3 v SETn := strS_below (strS_below hS h2) h3
  clear h2 h3 hS hb1
  have hL : LC (w3.alloc (.cells #[.string ⟨#[97, 100, 100]⟩, I 2, I 0, .string ⟨#[99, 111, 117, 110, 116]⟩, I 0, I 0] 40)) (some ⟨w3.heap.size, 0, none⟩) SCR := LC_new w3 SCR 40 _ rfl (by decide) (fun x hx => by
    rcases List.mem_cons.1 hx with rfl | hx
    · simp [inR]
    · obtain rfl := List.mem_singleton.1 hx
      simp [inR])
  have hd := driver_plain _ _ 2 _ hL
  clear hL
  go_wp2_with fail
  refine hd.mono ?_
  rintro e w4 ⟨rfl, h4⟩
  clear hd
  have ha := (Below.refl w3.heap.size w3).alloc (Nat.le_refl _) (.cells #[.string ⟨#[97, 100, 100]⟩, I 2, I 0, .string ⟨#[99, 111, 117, 110, 116]⟩, I 0, I 0] 40)
  have h4' : Below w3.heap.size w3 w4 := ha.trans (h4.mono ha.size)
  have hb4 : Below w.heap.size w w4 := hb3.trans (h4'.mono hb3.size)
  have hS4 := strS_below hS3 h4'
  clear h4 ha h4' hb3 hS3
  have hs := same_names (by decide) (strS_below hS4 ((Below.refl _ w4).alloc (Nat.le_refl _) (.cells #[.string ⟨#[76, 73, 78, 75]⟩, .string ⟨#[73, 78, 84, 83]⟩, .string ⟨#[83, 69, 84]⟩] 9))) (strS_new w4 SETn 9 _ rfl)
  have hdrv : (DRV.toList == [99, 108, 97, 115, 115, 32, 77, 65, 73, 78, 32, 99, 114, 101, 97, 116, 101, 32, 109, 97, 107, 101, 32, 102, 101, 97, 116, 117, 114, 101, 32, 123, 32, 65, 78, 89, 32, 125, 32, 109, 97, 107, 101, 32, 108, 111, 99, 97, 108, 32, 99, 32, 58, 32, 67, 79, 85, 78, 84, 69, 82, 32, 100, 111, 32, 99, 114, 101, 97, 116, 101, 32, 99, 32, 46, 32, 109, 97, 107, 101, 32, 59, 32, 99, 32, 46, 32, 97, 100, 100, 32, 40, 32, 50, 32, 41, 32, 59, 32, 112, 117, 116, 32, 99, 32, 46, 32, 99, 111, 117, 110, 116, 32, 59, 32, 101, 110, 100, 32, 101, 110, 100, 10]) = true := by decide +kernel
  go_wp2_with fail
  refine hs.mono ?_
  rintro e w5 ⟨rfl, n5, rfl⟩
  have hb5 : Below w.heap.size w ((w4.alloc (.cells #[.string ⟨#[76, 73, 78, 75]⟩, .string ⟨#[73, 78, 84, 83]⟩, .string ⟨#[83, 69, 84]⟩] 9)).drewN n5) := below_drewN' (hb4.alloc hb4.size _) n5
  clear hs
  go_wp2_with fail
  refine (do11 _ _ _ _).mono ?_
  rintro e x0 ⟨rfl, g⟩
  have hb := hb5.trans (g.mono hb5.size)
  clear g
  go_wp2_with fail
  refine (do11 _ _ _ _).mono ?_
  rintro e x1 ⟨rfl, g⟩
  replace hb := hb.trans (g.mono hb.size)
  clear g
  go_wp2_with fail
  refine (do11 _ _ _ _).mono ?_
  rintro e x2 ⟨rfl, g⟩
  replace hb := hb.trans (g.mono hb.size)
  clear g
  go_wp2_with fail
  refine (do11 _ _ _ _).mono ?_
  rintro e x3 ⟨rfl, g⟩
  replace hb := hb.trans (g.mono hb.size)
  clear g
  go_wp2_with fail
  refine (do11 _ _ _ _).mono ?_
  rintro e x4 ⟨rfl, g⟩
  replace hb := hb.trans (g.mono hb.size)
  clear g
  go_wp2_with fail
  refine (do11 _ _ _ _).mono ?_
  rintro e x5 ⟨rfl, g⟩
  replace hb := hb.trans (g.mono hb.size)
  clear g
  go_wp2_with fail
  refine (says_ints _).mono ?_
  rintro e z ⟨rfl, g⟩
  have hw := hb.trans (g.mono hb.size)
  clear g hb
  go_wp2_with fail
  refine (do11 _ _ _ _).mono ?_
  rintro e x0 ⟨rfl, g⟩
  have hb := hw.trans (g.mono hw.size)
  clear g
  go_wp2_with fail
  refine (do11 _ _ _ _).mono ?_
  rintro e x1 ⟨rfl, g⟩
  replace hb := hb.trans (g.mono hb.size)
  clear g
  go_wp2_with fail
  refine (do11 _ _ _ _).mono ?_
  rintro e x2 ⟨rfl, g⟩
  replace hb := hb.trans (g.mono hb.size)
  clear g
  go_wp2_with fail
  refine (do11 _ _ _ _).mono ?_
  rintro e x3 ⟨rfl, g⟩
  replace hb := hb.trans (g.mono hb.size)
  clear g
  go_wp2_with fail
  refine (do11 _ _ _ _).mono ?_
  rintro e x4 ⟨rfl, g⟩
  replace hb := hb.trans (g.mono hb.size)
  clear g
  go_wp2_with fail
  refine (says_sorted _).mono ?_
  rintro e z ⟨rfl, g⟩
  have hw := hb.trans (g.mono hb.size)
  clear g hb
  go_wp2_with fail
  refine (do11 _ _ _ _).mono ?_
  rintro e x0 ⟨rfl, g⟩
  have hb := hw.trans (g.mono hw.size)
  clear g
  go_wp2_with fail
  refine (do11 _ _ _ _).mono ?_
  rintro e x1 ⟨rfl, g⟩
  replace hb := hb.trans (g.mono hb.size)
  clear g
  go_wp2_with fail
  refine (do11 _ _ _ _).mono ?_
  rintro e x2 ⟨rfl, g⟩
  replace hb := hb.trans (g.mono hb.size)
  clear g
  go_wp2_with fail
  refine (do11 _ _ _ _).mono ?_
  rintro e x3 ⟨rfl, g⟩
  replace hb := hb.trans (g.mono hb.size)
  clear g
  go_wp2_with fail
  refine (do11 _ _ _ _).mono ?_
  rintro e x4 ⟨rfl, g⟩
  replace hb := hb.trans (g.mono hb.size)
  clear g
  go_wp2_with fail
  refine (says_table _).mono ?_
  rintro e z ⟨rfl, g⟩
  have hw := hb.trans (g.mono hb.size)
  clear g hb
  go_wp2_with fail
  refine (do11 _ _ _ _).mono ?_
  rintro e x0 ⟨rfl, g⟩
  have hb := hw.trans (g.mono hw.size)
  clear g
  go_wp2_with fail
  refine (do11 _ _ _ _).mono ?_
  rintro e x1 ⟨rfl, g⟩
  replace hb := hb.trans (g.mono hb.size)
  clear g
  go_wp2_with fail
  refine (do11 _ _ _ _).mono ?_
  rintro e x2 ⟨rfl, g⟩
  replace hb := hb.trans (g.mono hb.size)
  clear g
  go_wp2_with fail
  refine (do11 _ _ _ _).mono ?_
  rintro e x3 ⟨rfl, g⟩
  replace hb := hb.trans (g.mono hb.size)
  clear g
  go_wp2_with fail
  refine (do11 _ _ _ _).mono ?_
  rintro e x4 ⟨rfl, g⟩
  replace hb := hb.trans (g.mono hb.size)
  clear g
  go_wp2_with fail
  refine (says_arith _).mono ?_
  rintro e z ⟨rfl, g⟩
  have hw := hb.trans (g.mono hb.size)
  clear g hb
  go_wp2_with fail
  refine (do11 _ _ _ _).mono ?_
  rintro e x0 ⟨rfl, g⟩
  have hb := hw.trans (g.mono hw.size)
  clear g
  go_wp2_with fail
  refine (do11 _ _ _ _).mono ?_
  rintro e x1 ⟨rfl, g⟩
  replace hb := hb.trans (g.mono hb.size)
  clear g
  go_wp2_with fail
  refine (do11 _ _ _ _).mono ?_
  rintro e x2 ⟨rfl, g⟩
  replace hb := hb.trans (g.mono hb.size)
  clear g
  go_wp2_with fail
  refine (do11 _ _ _ _).mono ?_
  rintro e x3 ⟨rfl, g⟩
  replace hb := hb.trans (g.mono hb.size)
  clear g
  go_wp2_with fail
  refine (says_range _).mono ?_
  rintro e z ⟨rfl, g⟩
  have hw := hb.trans (g.mono hb.size)
  clear g hb
  go_wp2_with fail
  go_ret
  exact ⟨rfl, hw⟩
end Go.Proofs.Bm
