/- quiet's function. No condition but the deed's. -/
import Derived.Test.YtipdlkncacjahaaGreatDoorBD3
import Derived.Test.YtipdlkncacjahaaGreatDoorBDone
import Derived.Maps.OwnOps
import Derived.Maps.OwnSet
import Derived.WalkArith
set_option linter.unusedSimpArgs false
set_option linter.unusedVariables false
namespace Go.Proofs.Bm
open Go.RowKit Go.Maps
variable {n q q' : Nat} {L : List (ByteArray × Value)} {Q : List Value} {s s' : St} {lk : Option Nat} {W : World}

/-- quiet's own function does what the one that it has captured does, and returns 0. -/
theorem quiet_ret (hM : MS n L Q s q lk W) (j g : Nat) (first cap : Array Value) (hj : Q[j]? = some (.func (.func g) first cap)) (hent : ∀ (args : Array Value) (w : World), (callFunc g args).run Tryz.prog w = .ok (.enter g args) w) (x y : Int)
    (hd : Calls Tryz.prog g (first ++ (#[I x, I y] ++ cap)) W fun e w' => Ends n L Q s' q' lk W (.ret 0) N0 e w') :
    Calls Tryz.prog 97 #[I x, I y, .pointer (some ⟨n + 4 + j, 0, none⟩)] W fun e w' => Ends n L Q s' q' lk W (.ret 0) I e w' := by
  have hc := hM.cq hj
  go_enter Tryz.func97, Tryz.ntmps97
  go_wp2_with (refine hd.mono ?_; rintro e w' ⟨hk, rfl, lk', hM', hr⟩)
  go_ret
  exact ⟨hk, rfl, lk', hM', hr⟩
theorem quiet_stop (hM : MS n L Q s q lk W) (j g : Nat) (first cap : Array Value) (hj : Q[j]? = some (.func (.func g) first cap)) (hent : ∀ (args : Array Value) (w : World), (callFunc g args).run Tryz.prog w = .ok (.enter g args) w) (x y f e0 : Int)
    (hd : Calls Tryz.prog g (first ++ (#[I x, I y] ++ cap)) W fun e w' => Ends n L Q s' q' lk W (.stop f e0) N0 e w') :
    Calls Tryz.prog 97 #[I x, I y, .pointer (some ⟨n + 4 + j, 0, none⟩)] W fun e w' => Ends n L Q s' q' lk W (.stop f e0) I e w' := by
  have hc := hM.cq hj
  go_enter Tryz.func97, Tryz.ntmps97
  go_wp2_with (refine hd.mono ?_; rintro e w' ⟨hk, rfl⟩)
  exact ⟨rfl, hk, rfl⟩
end Go.Proofs.Bm

namespace Go.Proofs.Bm
open Go.RowKit Go.Maps

/-- What done hands back, and its world. -/
def Done (n : Nat) (L : List (ByteArray × Value)) (Q : List Value) (s' : St) (q' : Nat) (lk : Option Nat) (W : World) (o : Out) (e : Ending) (w' : World) : Prop :=
  Kept (F n lk) W w' ∧ match o with
    | .ret r => e = .returned (.tuple #[I r, .agg #[I 0, I 0]]) ∧ ∃ lk', MS n L Q s' q' lk' w' ∧ Row W lk lk'
    | .stop f e0 => e = .returned (.tuple #[I 0, .agg #[I f, I e0]])

theorem done_deed {n q q' i g : Nat} {L : List (ByteArray × Value)} {Q : List Value} {s s' : St} {lk : Option Nat} {w : World} {nm : ByteArray} {A B : Int} {first cap : Array Value} {o : Out}
    (hM : MS n L Q s q lk w) (hat : at? nm L 0 = some (i, .func (.func g) first cap)) (hent : ∀ (args : Array Value) (w : World), (callFunc g args).run Tryz.prog w = .ok (.enter g args) w)
    (hdeed : ∀ W, MS n L Q s q lk W → Calls Tryz.prog g (first ++ (#[I A, I B] ++ cap)) W fun e w' => Ends n L Q s' q' lk W o I e w') :
    Calls Tryz.prog 17 #[P1 n, .agg #[.string nm, I A, I B]] w fun e w' => Done n L Q s' q' lk w o e w' := by
  have hsz := hM.size
  have hF : ∀ k, F n lk k → k < w.heap.size := by
    intro k hk
    rcases hk with rfl | rfl | hk
    · omega
    · omega
    · exact hM.lt k hk
  have hFd : ¬ F n lk (n + 1 + 1 + 1) := by
    intro hk
    rcases hk with hk | hk | hk
    · omega
    · omega
    · have := hM.far _ hk; omega
  have hMW : ∀ W, Kept (fun _ => False) w W → MS n L Q s q lk W := fun W hk => hM.kept hk (fun _ _ _ e => e) (fun _ _ e => e)
  have hKD : ∀ w1 w', Kept (F n lk) w w1 → Kept (fun k => k = w.heap.size + 1 ∨ k = w.heap.size + 1 + 1) w1 w' → Kept (F n lk) w w' := fun w1 w' h1 h2 => h1.trans h2 fun i hi e => by rcases e with e | e <;> omega
  cases o with
  | ret r =>
    refine (done_ret (n + 1) (n + 1 + 1 + 1) i g L nm A B r first cap (F n lk) (fun w1 => ∃ lk', MS n L Q s' q' lk' w1 ∧ (lk' = lk ∨ ∀ b, lk' = some b → w.heap.size + 3 ≤ b)) w hM.c4 hM.D hat hF hFd hent ?_).mono ?_
    · intro W hk hs
      refine (hdeed W (hMW W hk)).mono ?_
      rintro e w' ⟨hk', rfl, lk', hM', hr⟩
      exact ⟨rfl, hk', ⟨lk', hM', hr.imp id fun h b e => Nat.le_trans hs (h b e)⟩, hM'.c4⟩
    · rintro e w' ⟨rfl, w1, ⟨lk', hM', hr⟩, h1, h2⟩
      refine ⟨hKD w1 w' h1 h2, rfl, lk', hM'.kept h2 (fun j hj _ e => ?_) (fun b hb e => ?_), hr.imp id fun h b e => by have := h b e; omega⟩
      · rcases e with e | e <;> omega
      · rcases hr with rfl | hr
        · have := hM.lt b hb
          rcases e with e | e <;> omega
        · have := hr b hb
          rcases e with e | e <;> omega
  | stop f e0 =>
    refine (done_stop (n + 1) (n + 1 + 1 + 1) i g L nm A B f e0 first cap (F n lk) (fun _ => True) w hM.c4 hM.D hat hF hent ?_).mono ?_
    · intro W hk hs
      refine (hdeed W (hMW W hk)).mono ?_
      rintro e w' ⟨hk', rfl⟩
      exact ⟨rfl, hk', trivial⟩
    · rintro e w' ⟨rfl, w1, _, h1, h2⟩
      exact ⟨hKD w1 w' h1 h2, rfl⟩

/-- .. of a quiet deed. -/
theorem done_quiet {n q q' i j g : Nat} {L : List (ByteArray × Value)} {Q : List Value} {s s' : St} {lk : Option Nat} {w : World} {nm : ByteArray} {A B : Int} {first cap : Array Value} {o : Out}
    (hM : MS n L Q s q lk w) (hat : at? nm L 0 = some (i, quietV (n + 4 + j))) (hj : Q[j]? = some (.func (.func g) first cap)) (hent : ∀ (args : Array Value) (w : World), (callFunc g args).run Tryz.prog w = .ok (.enter g args) w)
    (ho : match o with | .ret r => r = 0 | .stop _ _ => True)
    (hdeed : ∀ W, MS n L Q s q lk W → Calls Tryz.prog g (first ++ (#[I A, I B] ++ cap)) W fun e w' => Ends n L Q s' q' lk W o N0 e w') :
    Calls Tryz.prog 17 #[P1 n, .agg #[.string nm, I A, I B]] w fun e w' => Done n L Q s' q' lk w o e w' := by
  refine done_deed hM hat Tryz.call97 fun W hMW => ?_
  cases o with
  | ret r =>
    obtain rfl : r = 0 := ho
    exact quiet_ret hMW j g first cap hj hent A B (hdeed W hMW)
  | stop f e0 => exact quiet_stop hMW j g first cap hj hent A B f e0 (hdeed W hMW)
end Go.Proofs.Bm

namespace Go.Proofs.Bm
open Go.RowKit Go.Maps
variable {n q : Nat} {L : List (ByteArray × Value)} {Q : List Value} {s : St} {lk : Option Nat} {W : World}

abbrev K1 (x : Int) : Lit := .int .i64 x
theorem keyed3 : Keyed Tryz.prog 3 := int_keyed Tryz.underlying3
theorem wf_in {x : Int} (h : inR x) : (Lit.int .i64 x).wf = true := WalkArith.wf_i64 (by unfold inR at h; omega)
theorem key_in {x : Int} (h : inR x) : keyOf Tryz.prog 3 (I x) = some (K1 x) := keyOf_int_mk Tryz.underlying3 (wf_in h)
theorem zero3 (w : World) : (zeroValue 3).run Tryz.prog w = .ok (.int .i64 0) w := by kernel_rfl

theorem d_known (hM : MS n L Q s q lk W) (x y : Int) (hx : inR x) : Calls Tryz.prog 50 #[P1 n, I x, I y] W fun e w' => Ends n L Q s q lk W (.ret (bi (has s.D (K1 x)))) I e w' := by
  have hc := hM.c1
  have hK := hM.K
  have hkey := key_in hx
  generalize hb : has s.D (K1 x) = b
  go_enter Tryz.func50, Tryz.ntmps50
  go_wp2_with (first
    | (at_lookup; refine wpList_lookup_own_ok_int _ rfl _ _ 72 rfl 3 3 .i64 keyed3 Tryz.underlying72 Tryz.underlying3 (zero3 _) n q _ rfl hK _ _ rfl hkey ?_; intro c hat hwc; clear hat hwc; rw [hb])
    | (go_at_call 94; refine (truth_bi _ _).mono ?_; rintro e w' ⟨rfl, rfl⟩))
  go_ret
  exact .same hM I _
theorem d_value (hM : MS n L Q s q lk W) (x y c : Int) (hx : inR x) (hat : s.D.atKey (K1 x) (.lit (K1 0)) = .lit (K1 c)) : Calls Tryz.prog 51 #[P1 n, I x, I y] W fun e w' => Ends n L Q s q lk W (.ret c) I e w' := by
  have hc := hM.c1
  have hK := hM.K
  have hkey := key_in hx
  go_enter Tryz.func51, Tryz.ntmps51
  go_wp2_with (first
    | (at_lookup; refine wpList_lookup_own_int _ rfl _ _ 72 rfl 3 3 .i64 keyed3 Tryz.underlying72 Tryz.underlying3 (zero3 _) n q _ rfl hK _ _ rfl hkey ?_; intro c' hat' hwc; obtain rfl : c' = c := (by rw [hat] at hat'; simpa using hat'.symm)))
  go_ret
  exact .same hM I _
theorem d_many (hM : MS n L Q s q lk W) (x y : Int) : Calls Tryz.prog 53 #[P1 n, I x, I y] W fun e w' => Ends n L Q s q lk W (.ret (size s.D)) I e w' := by
  have hc := hM.c1
  have hK := hM.K
  go_enter Tryz.func53, Tryz.ntmps53
  go_wp2_with (first
    | (at_len; refine wpList_len_own _ rfl _ 72 rfl 3 3 Tryz.underlying72 _ n q _ rfl hK ?_))
  go_ret
  exact .same hM I _
theorem d_lose (hM : MS n L Q s q lk W) (x y : Int) (hx : inR x) : Calls Tryz.prog 52 #[P1 n, I x, I y] W fun e w' => Ends n L Q { s with D := s.D.del (K1 x) } q lk W (.ret 0) N0 e w' := by
  have hc := hM.c1
  have hK := hM.K
  have hkey := key_in hx
  go_enter Tryz.func52, Tryz.ntmps52
  go_wp2_with (first
    | (at_delete; refine wpList_delete_own _ rfl _ _ 72 3 rfl 3 keyed3 Tryz.underlying72 _ n q _ rfl hK _ _ rfl hkey ?_; intro w1 hown1 hturn1))
  go_end0
  have hk : Kept (fun j => j = n) W w1 := (Kept.refl _ W).grown hturn1.grown (fun k e _ => (Option.some.inj e).symm)
  exact ⟨hk.mono (fun j e => .inl e), rfl, lk, hM.set_D hk hown1, .inl rfl⟩
theorem d_force (hM : MS n L Q s q lk W) (x y : Int) (hx : inR x) (hy : inR y) (hq : q ≤ 1000) : Calls Tryz.prog 49 #[P1 n, I x, I y] W fun e w' => Ends n L Q { s with D := s.D.put (K1 x) (.lit (K1 y)) } (q + 1) lk W (.ret 0) N0 e w' := by
  have hc := hM.c1
  have hK := hM.K
  have hkey := key_in hx
  have hval : plainElem (H := Unit) Tryz.prog 3 (I y) = some (.lit (K1 y), []) := plainElem_int Tryz.underlying3 (wf_in hy)
  go_enter Tryz.func49, Tryz.ntmps49
  go_wp2_with (first
    | (at_mapUpdate; refine wpList_mapUpdate_own _ rfl _ _ _ 72 rfl 3 3 keyed3 Tryz.underlying72 _ n q _ rfl hK (by unfold maxLen; omega) _ _ _ rfl rfl hkey _ [] hval ?_; intro w1 hown1 hgrow1))
  go_end0
  have hk : Kept (fun j => j = n) W w1 := (Kept.refl _ W).grown hgrow1 (fun k e _ => (Option.some.inj e).symm)
  exact ⟨hk.mono (fun j e => .inl e), rfl, lk, hM.set_D hk hown1, .inl rfl⟩
end Go.Proofs.Bm
