/- The library functions that Driver and Needs call, laid at this program. No condition. -/
import Derived.Shelf.Lay
import Derived.Shelf.Strings.Builder1
import Derived.Shelf.Strings.Builder2
import Derived.Shelf.Strings.OnBuilder
import Derived.Shelf.Strconv.Itoa0
import Derived.Shelf.Strconv.Itoa1
import Derived.Shelf.LaysM
import Derived.Shelf.Strconv.Itoa2
import Derived.Shelf.Strconv.Itoa3
import Derived.Shelf.Slices.Turned
import Derived.Test.YtipdlkncacjahaaGreatDoorProg
import Derived.Test.YtipdlkncacjahaaGreatDoorBMdR
import Derived.OwnWalk
import Derived.Deep.AppendLies
set_option linter.unusedSimpArgs false
set_option linter.unusedVariables false
namespace Go.Proofs
open Go.Shelf
def Tryz.lays156_ren : Go.Shelf.Ren := ⟨fun | 156 => 93 | 165 => 109 | 166 => 110 | 169 => 111 | 240 => 115 | 241 => 116 | 276 => 122 | 277 => 123 | n => n, fun | 31 => 34 | 9 => 9 | 3 => 3 | 4 => 4 | 0 => 0 | 20 => 20 | 72 => 115 | 76 => 118 | 70 => 112 | 37 => 113 | 75 => 117 | 127 => 123 | 164 => 130 | 5 => 5 | 80 => 120 | n => n, fun | n => n⟩
theorem Tryz.lays156 : Go.Proofs.Lays.n156 Tryz.prog Tryz.lays156_ren := {
  mixed := by kernel_rfl
  f156 := Tryz.func93.trans (congrArg some (by kernel_rfl))
  f165 := Tryz.func109.trans (congrArg some (by kernel_rfl))
  f166 := Tryz.func110.trans (congrArg some (by kernel_rfl))
  f169 := Tryz.func111.trans (congrArg some (by kernel_rfl))
  f240 := Tryz.func115.trans (congrArg some (by kernel_rfl))
  f241 := Tryz.func116.trans (congrArg some (by kernel_rfl))
  f276 := Tryz.func122.trans (congrArg some (by kernel_rfl))
  f277 := Tryz.func123.trans (congrArg some (by kernel_rfl))
  t0 := Tryz.underlying0
  a0 := Tryz.isAgg0
  z0 := Tryz.sizeOf0
  v0 := Tryz.zeroValue0
  t3 := Tryz.underlying3
  a3 := Tryz.isAgg3
  z3 := Tryz.sizeOf3
  v3 := Tryz.zeroValue3
  t4 := Tryz.underlying4
  a4 := Tryz.isAgg4
  z4 := Tryz.sizeOf4
  v4 := Tryz.zeroValue4
  t9 := Tryz.underlying9
  a9 := Tryz.isAgg9
  z9 := Tryz.sizeOf9
  v9 := Tryz.zeroValue9
  t20 := Tryz.underlying20
  a20 := Tryz.isAgg20
  z20 := Tryz.sizeOf20
  v20 := Tryz.zeroValue20
  t31 := Tryz.underlying34
  a31 := Tryz.isAgg34
  z31 := Tryz.sizeOf34
  v31 := Tryz.zeroValue34
  t37 := Tryz.underlying113
  a37 := Tryz.isAgg113
  z37 := Tryz.sizeOf113
  v37 := Tryz.zeroValue113
  t70 := Tryz.underlying112
  a70 := Tryz.isAgg112
  z70 := Tryz.sizeOf112
  v70 := Tryz.zeroValue112
  t72 := Tryz.underlying115
  a72 := Tryz.isAgg115
  z72 := Tryz.sizeOf115
  v72 := Tryz.zeroValue115
  t75 := Tryz.underlying117
  a75 := Tryz.isAgg117
  z75 := Tryz.sizeOf117
  v75 := Tryz.zeroValue117
  t76 := Tryz.underlying118
  a76 := Tryz.isAgg118
  z76 := Tryz.sizeOf118
  v76 := Tryz.zeroValue118
  t127 := Tryz.underlying123
  a127 := Tryz.isAgg123
  z127 := Tryz.sizeOf123
  v127 := Tryz.zeroValue123
  t164 := Tryz.underlying130
  a164 := Tryz.isAgg130
  z164 := Tryz.sizeOf130
  v164 := Tryz.zeroValue130 }
theorem Tryz.Builder_Extra_156 : Builder.Extra Tryz.prog Tryz.lays156_ren := {
  sizeBuilder := by kernel_rfl
  liesBuilder := by kernel_rfl
  t5 := Tryz.underlying5
  a5 := Tryz.isAgg5
  z5 := Tryz.sizeOf5
  v5 := Tryz.zeroValue5
  infoByte := by kernel_rfl
  cellsByte := by kernel_rfl
  sizeByte := by kernel_rfl
  neB5 := by decide }
open Go.RowKit in
theorem Tryz.strings_Join (bk o c : Nat) (xs : List ByteArray) (sep : ByteArray) (w : World) (hcells : ∀ (j : Nat) x, xs[j]? = some x → w.cell? ⟨bk, o + j, none⟩ = some (.string x)) (hbk : bk < w.heap.size) (hN : xs.length ≤ 140737488355328) (hcap : xs.length ≤ c) (hlen : (Lib.join (xs.map (·.data.toList)) sep.data.toList).length ≤ 140737488355328) :
    Calls Tryz.prog 93 #[.slice (some ⟨bk, o, none⟩) xs.length c, .string sep] w fun e w' => e = .returned (.string ⟨(Lib.join (xs.map (·.data.toList)) sep.data.toList).toArray⟩) ∧ Below w.heap.size w w' := Any.strings_Join Tryz.lays156 Tryz.Builder_Extra_156 bk o c xs sep w hcells hbk hN hcap hlen
def Tryz.lays171_ren : Go.Shelf.Ren := ⟨fun | 171 => 92 | 243 => 108 | 246 => 114 | 283 => 118 | 284 => 119 | 285 => 120 | 286 => 121 | 129 => 125 | 317 => 124 | 318 => 126 | 319 => 127 | 320 => 128 | 337 => 129 | 338 => 130 | n => n, fun | 3 => 3 | 9 => 9 | 2 => 2 | 4 => 4 | 171 => 124 | 0 => 0 | 53 => 125 | 37 => 113 | 5 => 5 | 173 => 128 | 212 => 133 | 51 => 134 | 20 => 20 | 213 => 135 | 46 => 136 | 232 => 139 | 233 => 140 | n => n, fun | 17 => 0 | 18 => 2 | 19 => 3 | n => n⟩
theorem Tryz.lays171 : Go.Proofs.Lays.n171 Tryz.prog Tryz.lays171_ren := {
  mixed := by kernel_rfl
  f129 := Tryz.func125.trans (congrArg some (by kernel_rfl))
  f171 := Tryz.func92.trans (congrArg some (by kernel_rfl))
  f243 := Tryz.func108.trans (congrArg some (by kernel_rfl))
  f246 := Tryz.func114.trans (congrArg some (by kernel_rfl))
  f283 := Tryz.func118.trans (congrArg some (by kernel_rfl))
  f284 := Tryz.func119.trans (congrArg some (by kernel_rfl))
  f285 := Tryz.func120.trans (congrArg some (by kernel_rfl))
  f286 := Tryz.func121.trans (congrArg some (by kernel_rfl))
  f317 := Tryz.func124.trans (congrArg some (by kernel_rfl))
  f318 := Tryz.func126.trans (congrArg some (by kernel_rfl))
  f319 := Tryz.func127.trans (congrArg some (by kernel_rfl))
  f320 := Tryz.func128.trans (congrArg some (by kernel_rfl))
  f337 := Tryz.func129.trans (congrArg some (by kernel_rfl))
  f338 := Tryz.func130.trans (congrArg some (by kernel_rfl))
  t0 := Tryz.underlying0
  a0 := Tryz.isAgg0
  z0 := Tryz.sizeOf0
  v0 := Tryz.zeroValue0
  t2 := Tryz.underlying2
  a2 := Tryz.isAgg2
  z2 := Tryz.sizeOf2
  v2 := Tryz.zeroValue2
  t3 := Tryz.underlying3
  a3 := Tryz.isAgg3
  z3 := Tryz.sizeOf3
  v3 := Tryz.zeroValue3
  t4 := Tryz.underlying4
  a4 := Tryz.isAgg4
  z4 := Tryz.sizeOf4
  v4 := Tryz.zeroValue4
  t5 := Tryz.underlying5
  a5 := Tryz.isAgg5
  z5 := Tryz.sizeOf5
  v5 := Tryz.zeroValue5
  t9 := Tryz.underlying9
  a9 := Tryz.isAgg9
  z9 := Tryz.sizeOf9
  v9 := Tryz.zeroValue9
  t20 := Tryz.underlying20
  a20 := Tryz.isAgg20
  z20 := Tryz.sizeOf20
  v20 := Tryz.zeroValue20
  t37 := Tryz.underlying113
  a37 := Tryz.isAgg113
  z37 := Tryz.sizeOf113
  v37 := Tryz.zeroValue113
  t46 := Tryz.underlying136
  a46 := Tryz.isAgg136
  z46 := Tryz.sizeOf136
  v46 := Tryz.zeroValue136
  t51 := Tryz.underlying134
  a51 := Tryz.isAgg134
  z51 := Tryz.sizeOf134
  v51 := Tryz.zeroValue134
  t53 := Tryz.underlying125
  a53 := Tryz.isAgg125
  z53 := Tryz.sizeOf125
  v53 := Tryz.zeroValue125
  t171 := Tryz.underlying124
  a171 := Tryz.isAgg124
  z171 := Tryz.sizeOf124
  v171 := Tryz.zeroValue124
  t173 := Tryz.underlying128
  a173 := Tryz.isAgg128
  z173 := Tryz.sizeOf128
  v173 := Tryz.zeroValue128
  t212 := Tryz.underlying133
  a212 := Tryz.isAgg133
  z212 := Tryz.sizeOf133
  v212 := Tryz.zeroValue133
  t213 := Tryz.underlying135
  a213 := Tryz.isAgg135
  z213 := Tryz.sizeOf135
  t232 := Tryz.underlying139
  a232 := Tryz.isAgg139
  z232 := Tryz.sizeOf139
  v232 := Tryz.zeroValue139
  t233 := Tryz.underlying140
  a233 := Tryz.isAgg140
  z233 := Tryz.sizeOf140
  v233 := Tryz.zeroValue140
  g17 := by kernel_rfl
  g18 := by kernel_rfl
  g19 := by kernel_rfl }
open Go.RowKit Go.Sort Go.Lib in
theorem Tryz.strconv_Itoa_small (i : Nat) (hi : i < 100) (w : World) :
    Calls Tryz.prog 92 #[.int .i64 i] w fun e w' => e = .returned (.string ⟨(Lib.decDigits i).toArray⟩) ∧ w' = w := Any.strconv_Itoa_small Tryz.lays171 i hi w
def Tryz.lays110_ren : Go.Shelf.Ren := ⟨fun | 110 => 89 | 109 => 107 | n => n, fun | 31 => 34 | 9 => 9 | 4 => 4 | 3 => 3 | 0 => 0 | n => n, fun | n => n⟩
theorem Tryz.lays110 : Go.Proofs.Lays.n110 Tryz.prog Tryz.lays110_ren := {
  mixed := by kernel_rfl
  f109 := Tryz.func107.trans (congrArg some (by kernel_rfl))
  f110 := Tryz.func89.trans (congrArg some (by kernel_rfl))
  t0 := Tryz.underlying0
  a0 := Tryz.isAgg0
  z0 := Tryz.sizeOf0
  v0 := Tryz.zeroValue0
  t3 := Tryz.underlying3
  a3 := Tryz.isAgg3
  z3 := Tryz.sizeOf3
  v3 := Tryz.zeroValue3
  t4 := Tryz.underlying4
  a4 := Tryz.isAgg4
  z4 := Tryz.sizeOf4
  v4 := Tryz.zeroValue4
  t9 := Tryz.underlying9
  a9 := Tryz.isAgg9
  z9 := Tryz.sizeOf9
  v9 := Tryz.zeroValue9
  t31 := Tryz.underlying34
  a31 := Tryz.isAgg34
  z31 := Tryz.sizeOf34
  v31 := Tryz.zeroValue34 }
open Go.Lib in
theorem Tryz.slices_Contains_string (b off n c : Nat) (zs : List ByteArray) (x : ByteArray) (w : World) (hz : n ≤ zs.length) (hbig : n ≤ 9223372036854775807) (hc : ∀ j, j < zs.length → w.cell? ⟨b, off + j, none⟩ = some (.string (zs.getD j ByteArray.empty))) :
    Calls Tryz.prog 89 #[.slice (some ⟨b, off, none⟩) n c, .string x] w fun e w' => e = .returned (.bool (Lib.containsS (zs.take n) x)) ∧ w' = w := Any.slices_Contains_string Tryz.lays110 b off n c zs x w hz hbig hc
end Go.Proofs

namespace Go.Proofs.Bm
open Go.RowKit Go.Maps

/-- A slice of strings that the call has made. -/
def OwnS (B : Nat) (w : World) (v : Value) (xs : List ByteArray) : Prop := w.ownsRow B 9 1 v xs.length (xs.map Value.string)
namespace OwnS
variable {B : Nat} {w w' : World} {v : Value} {xs : List ByteArray}
theorem nil (B : Nat) (w : World) : OwnS B w (.slice none 0 0) [] := World.ownsRow_nil w B 9 1
theorem alloc (h : OwnS B w v xs) (o : Obj) : OwnS B (w.alloc o) v xs := World.ownsRow.alloc h o
theorem below (h : OwnS B w v xs) (hb : Below w.heap.size w w') : OwnS B w' v xs :=
  World.ownsRow.kept (row := none) h ⟨hb.os, hb.tape, hb.output, hb.size, fun k hk _ => hb.block k hk⟩ (by cases hv : v.ownBlock <;> simp)
theorem form (h : OwnS B w v xs) : ∃ a cap, v = .slice a xs.length cap := by
  rcases h.2 with ⟨rfl, h0⟩ | ⟨g, cap, _, rfl, _⟩
  · exact ⟨none, 0, by rw [h0]⟩
  · exact ⟨_, cap, rfl⟩
theorem strS (h : OwnS B w v xs) (hx : xs ≠ []) : StrS w v xs := by
  obtain ⟨g, cap, rfl, _⟩ := World.ownsRow.form h (List.length_pos_iff.2 hx)
  refine ⟨g, 0, cap, rfl, fun k nm hk => ?_⟩
  have hlt := (List.getElem?_eq_some_iff.1 hk).1
  have := World.ownsRow.cellAt h k (by omega)
  rw [Nat.zero_add, this, List.getElem?_map, hk]; rfl
end OwnS
theorem info9 : (Tryz.prog.info? 9).map (fun i => (i.zero, i.size, i.bytes)) = some (some (.string ⟨#[]⟩), 1, 16) := by kernel_rfl

theorem run_append_S {B : Nat} {w : World} {v : Value} {xs : List ByteArray} (t0 : TypeId) (h : OwnS B w v xs) (hn : xs.length ≤ 1000000) (y : ByteArray) (vb c : Nat) (hy : w.cell? ⟨vb, 0, none⟩ = some (.string y)) (hB : B ≤ w.heap.size) :
    ∃ v' w', (Builtin.append_ #[34, 34] t0 #[v, .slice (some ⟨vb, 0, none⟩) 1 c]).run Tryz.prog w = .ok v' w' ∧ OwnS B w' v' (xs ++ [y]) ∧ Below B w w' := by
  obtain ⟨i, hi, hz, hsz, hby⟩ := info_parts info9
  obtain ⟨v', w', hrun, r1, r2, _⟩ := run_append_own (P := Tryz.prog) w B 34 t0 9 i _ 1 16 Tryz.underlying34 hi hz hsz hby rfl (by omega) v xs.length _ h ⟨vb, 0, none⟩ 1 c [.string y] rfl (fun j u hj => by
    cases j with
    | zero => simp at hj; subst hj; simpa [Addr.add] using hy
    | succ j => simp at hj) (by intro u hu; simp at hu; subst hu; rfl) (by simp only [maxLen]; omega) (by omega) hB
  refine ⟨v', w', hrun, by unfold OwnS; simpa using r1, (Below.refl B w).grown r2 hB ?_⟩
  intro k hk
  rcases h.2 with ⟨rfl, _⟩ | ⟨g, cap, _, rfl, hg, _⟩
  · cases hk
  · simp [Value.ownBlock] at hk; omega
theorem wpList_append_S {B : Nat} {w : World} {v : Value} {xs : List ByteArray} {ops : Array Oper} {rest : List Oper} {o : Oper} {a : Act} {Q : Exit → Act → World → Prop} (hg : o.guard = none) (s x : Operand) (hop : o.op = Op.call { callee := Callee.builtin Builtin.append, args := #[s, x], argTypes := #[34, 34] })
    (hs : a.eval s = v) (y : ByteArray) (vb c : Nat) (hx : a.eval x = .slice (some ⟨vb, 0, none⟩) 1 c) (h : OwnS B w v xs) (hn : xs.length ≤ 1000000) (hy : w.cell? ⟨vb, 0, none⟩ = some (.string y)) (hB : B ≤ w.heap.size)
    (hK : ∀ v' w', OwnS B w' v' (xs ++ [y]) → Below B w w' → wpList Tryz.prog ops Q rest (a.put o.dst v') w') :
    wpList Tryz.prog ops Q (o :: rest) a w := by
  refine wpList_plain hg fun K hK' => ?_
  obtain ⟨v', w', hrun, r1, r2⟩ := run_append_S o.type h hn y vb c hy hB
  unfold Oper.wp
  simp [execOp, hop, resolve, invoke, builtin, hs, hx, hrun, Result.andThen]
  exact hK' _ _ (hK v' w' r1 r2)
theorem cell_newS (w : World) (y : ByteArray) (T : TypeId) : (w.alloc (.cells #[.string y] T)).cell? ⟨w.heap.size, 0, none⟩ = some (.string y) := by
  unfold World.cell?; rw [heap_alloc, if_pos rfl]; rfl

theorem name106 (nm : ByteArray) (nd tx : Value) (w : World) : Calls Tryz.prog 106 #[.agg #[.string nm, nd, tx]] w fun e w' => e = .returned (.string nm) ∧ w' = w.alloc (.cells #[.string nm, nd, tx] 61) := by
  go_enter Tryz.func106, Tryz.ntmps106
  go_wp2
  go_ret
  exact ⟨rfl, rfl⟩

set_option maxHeartbeats 1000000 in
theorem mapped105 (g : Nat) (A : Nat → Option Addr) (M : Nat → Nat) (X : Nat → ByteArray) (w : World) (hL : LibAt w g A M X) :
    Calls Tryz.prog 105 #[.slice (some ⟨g, 0, none⟩) 12 12, .func (.func 106) #[] #[]] w fun e w' => ∃ v, e = .returned v ∧ OwnS w.heap.size w' v N12 ∧ Below w.heap.size w w' := by
  replace hL := Lib.hid hL
  go_enter Tryz.func105, Tryz.ntmps105
  go_wp2
  go_loopg [5, 10] 12 (fun gg s5 s10 wr => ∃ kk : Nat, kk ≤ 12 ∧ 12 - kk ≤ gg ∧ s10 = I kk ∧ OwnS w.heap.size wr s5 (N12.take kk) ∧ Below w.heap.size w wr)
  case atStart => exact ⟨0, by omega, by omega, rfl, OwnS.nil _ _, Below.refl _ _⟩
  case round =>
    obtain ⟨kk, hkk, hg, rfl, ho, hb⟩ := hrel
    have hl0 : (N12.take kk).length = kk := by rw [List.length_take]; exact Nat.min_eq_left hkk
    obtain ⟨a5, c5, rfl⟩ := ho.form
    rw [hl0] at ho ⊢
    by_cases hlt : kk < 12
    · have hltz : (kk : Int) < 12 := by omega
      have hkz : (0 : Int) ≤ (kk : Int) := by omega
      have hlN : kk < N12.length := hlt
      have hz := List.getElem?_eq_getElem hlN
      have htk : N12.take (kk + 1) = N12.take kk ++ [N12[kk]] := List.take_succ_eq_append_getElem hlN
      generalize N12[kk] = nm at hz htk
      obtain ⟨h0, h1, h2⟩ := hL.out kk nm hz
      have g0 := (hb.cell (World.block_lt_of_cell? w _ h0)).trans h0
      have g1 := (hb.cell (World.block_lt_of_cell? w _ h1)).trans h1
      have g2 := (hb.cell (World.block_lt_of_cell? w _ h2)).trans h2
      replace htk := Lib.hid htk
      clear hz h0 h1 h2
      replace hl0 := Lib.hid hl0
      have hbs := hb.size
      go_wp2_with (first
        | (go_at_call 106; refine (name106 nm _ _ _).mono ?_; rintro e w' ⟨rfl, rfl⟩)
        | (at_builtin; refine wpList_append_S rfl _ _ rfl rfl nm (wr.heap.size + 1 + 1) 1 rfl (((ho.alloc _).alloc _).alloc (.cells #[.string nm] 9)) (by rw [hl0.out]; omega) (by rw [show wr.heap.size + 1 + 1 = ((wr.alloc (.cells #[.string nm, .slice (A kk) (M kk) (M kk), .string (X kk)] 61)).alloc (.cells #[.string nm, .slice (A kk) (M kk) (M kk), .string (X kk)] 61)).heap.size by simp]; exact cell_newS _ _ _) (by simp; omega) ?_; intro v' w' ho' hb'; obtain ⟨a', c', rfl⟩ := ho'.form; rw [show (N12.take kk ++ [nm]).length = kk + 1 by rw [List.length_append, hl0.out]; rfl] at ho' ⊢))
      go_roundg (12 - (kk + 1))
      case measure => omega
      case rel => exact ⟨kk + 1, by omega, by omega, by go_num, by rw [htk.out]; exact ho', (((hb.alloc hb.size _).alloc (by simp; omega) _).alloc (by simp; omega) _).trans hb'⟩
    · have hltz : ¬ (kk : Int) < 12 := by omega
      obtain rfl : kk = 12 := by omega
      go_wp2
      go_ret
      exact ⟨_, rfl, ho, hb⟩
theorem names88 (w : World) : Calls Tryz.prog 88 #[] w fun e w' => ∃ v, e = .returned v ∧ OwnS w.heap.size w' v N12 ∧ Below w.heap.size w w' := by
  go_enter Tryz.func88, Tryz.ntmps88
  go_wp2_with fail
  refine (lib85 _).mono ?_
  rintro e w1 ⟨g, m, A, M, X, rfl, hg, hb, hL, _⟩
  go_wp2_with fail
  refine (mapped105 g A M X _ hL).mono ?_
  rintro e w2 ⟨v, rfl, ho, hb2⟩
  obtain ⟨a, c, rfl⟩ := ho.form
  go_wp2
  go_ret
  refine ⟨_, rfl, ?_, hb.trans (hb2.mono hb.size)⟩
  refine ⟨ho.1, ?_⟩
  rcases ho.2 with h | ⟨g', cap', cur, h1, h2, h3⟩
  · exact .inl h
  · exact .inr ⟨g', cap', cur, h1, Nat.le_trans hb.size h2, h3⟩
end Go.Proofs.Bm

namespace Go.Proofs.Bm
open Go.RowKit Go.Maps

def selL (nm : ByteArray) (nd : List ByteArray) (l : List ByteArray) : List ByteArray := l.filter fun n => decide (n = nm ∨ n ∈ nd)

theorem contains89 (m : Nat) (nd : List ByteArray) (x : ByteArray) (w : World) (hn : nd.length ≤ 1000) (h : StrAt w m nd) : Calls Tryz.prog 89 #[.slice (some ⟨m, 0, none⟩) nd.length nd.length, .string x] w fun e w' => e = .returned (.bool (decide (x ∈ nd))) ∧ w = w' := by
  refine (Tryz.slices_Contains_string m 0 nd.length nd.length nd x w (Nat.le_refl _) (by omega) (fun j hj => ?_)).mono ?_
  · rw [Nat.zero_add]
    exact h j _ (by rw [List.getD_eq_getElem?_getD, List.getElem?_eq_getElem hj]; rfl)
  · rintro e w' ⟨rfl, rfl⟩
    refine ⟨?_, rfl⟩
    rw [List.take_length]
    have := Lib.containsS_iff nd x
    by_cases hx : x ∈ nd
    · rw [this.2 hx, decide_eq_true hx]
    · rw [decide_eq_false hx]
      have h0 : Lib.containsS nd x = false := by
        cases hc : Lib.containsS nd x with
        | false => rfl
        | true => exact absurd (this.1 hc) hx
      rw [h0]

set_option maxHeartbeats 2000000 in
set_option maxRecDepth 100000 in
theorem all28 (nm t : ByteArray) (m : Nat) (nd : List ByteArray) (hn : nd.length ≤ 1000) (w : World) (hS : StrAt w m nd) :
    Calls Tryz.prog 28 #[.agg #[.string nm, .slice (some ⟨m, 0, none⟩) nd.length nd.length, .string t]] w fun e w' => ∃ v, e = .returned v ∧ OwnS w.heap.size w' v (selL nm nd N12) ∧ Below w.heap.size w w' := by
  replace hS := Lib.hid hS
  have x0 : ∀ j, (w.alloc (.cells #[.string nm, .slice (some ⟨m, 0, none⟩) nd.length nd.length, .string t] 61)).cell? ⟨w.heap.size, j, none⟩ = (#[.string nm, .slice (some ⟨m, 0, none⟩) nd.length nd.length, .string t] : Array Value)[j]? := fun j => by
    unfold World.cell?; rw [heap_alloc, if_pos rfl]; rfl
  have hb0 : Below w.heap.size w (w.alloc (.cells #[.string nm, .slice (some ⟨m, 0, none⟩) nd.length nd.length, .string t] 61)) := (Below.refl _ w).alloc (Nat.le_refl _) _
  replace x0 := Lib.hid x0
  go_enter Tryz.func28, Tryz.ntmps28
  go_wp2_with fail
  refine (names88 _).mono ?_
  rintro e w1 ⟨v1, rfl, ho1, hb1⟩
  obtain ⟨g1, off1, cap1, rfl, hC⟩ := ho1.strS (by decide)
  replace hC := Lib.hid hC
  rw [show N12.length = 12 from rfl]
  have hB := hb0.trans (hb1.mono (by simp))
  have y0 := (hb1.cell (by simp)).trans (x0.out 0)
  have y1 := (hb1.cell (by simp)).trans (x0.out 1)
  have hwg : w.heap.size < w1.heap.size := by have := hb1.size; simp at this; omega
  go_wp2_with fail
  go_loopg [3, 8] 12 (fun gg s3 s8 wr => ∃ kk : Nat, kk ≤ 12 ∧ 12 - kk ≤ gg ∧ s8 = I kk ∧ OwnS w1.heap.size wr s3 (selL nm nd (N12.take kk)) ∧ Below w1.heap.size w1 wr)
  case atStart => exact ⟨0, by omega, by omega, rfl, OwnS.nil _ _, Below.refl _ _⟩
  case round =>
    obtain ⟨kk, hkk, hg, rfl, ho, hb⟩ := hrel
    have hl0 : (selL nm nd (N12.take kk)).length ≤ 12 := by
      have h1 := List.length_filter_le (fun n => decide (n = nm ∨ n ∈ nd)) (N12.take kk)
      have h2 : (N12.take kk).length ≤ 12 := by rw [List.length_take]; omega
      unfold selL; omega
    obtain ⟨a5, c5, rfl⟩ := ho.form
    by_cases hlt : kk < 12
    · have hltz : (kk : Int) < 12 := by omega
      have hkz : (0 : Int) ≤ (kk : Int) := by omega
      have hlN : kk < N12.length := hlt
      have hz := List.getElem?_eq_getElem hlN
      have htk : selL nm nd (N12.take (kk + 1)) = selL nm nd (N12.take kk) ++ (if N12[kk] = nm ∨ N12[kk] ∈ nd then [N12[kk]] else []) := by
        rw [List.take_succ_eq_append_getElem hlN]
        unfold selL
        rw [List.filter_append]
        congr 1
        by_cases h : N12[kk] = nm ∨ N12[kk] ∈ nd
        · rw [if_pos h]; simp [List.filter, h]
        · rw [if_neg h]; simp [List.filter, h]
      generalize N12[kk] = n at hz htk
      have h0 := hC.out kk n hz
      have g0 := (hb.cell (World.block_lt_of_cell? w1 _ h0)).trans h0
      have z0 := (hb.cell (World.block_lt_of_cell? w1 _ y0)).trans y0
      have z1 := (hb.cell (World.block_lt_of_cell? w1 _ y1)).trans y1
      have hSr : StrAt wr m nd := (hS.out.below hB).below hb
      have hc := contains89 m nd n wr hn hSr
      clear hz h0
      replace hl0 := Lib.hid hl0
      by_cases hq : n = nm
      · have htk2 : selL nm nd (N12.take (kk + 1)) = selL nm nd (N12.take kk) ++ [n] := by rw [htk, if_pos (.inl hq)]
        replace htk2 := Lib.hid htk2
        clear htk hc
        subst hq
        go_wp2_with (at_builtin; refine wpList_append_S rfl _ _ rfl rfl n wr.heap.size 1 rfl (ho.alloc (.cells #[.string n] 9)) (by have := hl0.out; omega) (cell_newS _ _ _) (by have := hb.size; simp; omega) ?_; intro v' w' ho' hb'; obtain ⟨a', c', rfl⟩ := ho'.form)
        go_roundg (12 - (kk + 1))
        case measure => omega
        case rel => exact ⟨kk + 1, by omega, by omega, by go_num, by rw [htk2.out]; simpa using ho', (hb.alloc hb.size _).trans hb'⟩
      · have hqs := str_ne hq
        by_cases hm : n ∈ nd
        · have htk2 : selL nm nd (N12.take (kk + 1)) = selL nm nd (N12.take kk) ++ [n] := by rw [htk, if_pos (.inr hm)]
          replace htk2 := Lib.hid htk2
          rw [show decide (n ∈ nd) = true by simpa using hm] at hc
          clear htk hm
          go_wp2_with fail
          refine hc.mono ?_
          rintro e w' ⟨rfl, rfl⟩
          go_wp2_with (at_builtin; refine wpList_append_S rfl _ _ rfl rfl n wr.heap.size 1 rfl (ho.alloc (.cells #[.string n] 9)) (by have := hl0.out; omega) (cell_newS _ _ _) (by have := hb.size; simp; omega) ?_; intro v' w' ho' hb'; obtain ⟨a', c', rfl⟩ := ho'.form)
          go_roundg (12 - (kk + 1))
          case measure => omega
          case rel => exact ⟨kk + 1, by omega, by omega, by go_num, by rw [htk2.out]; simpa using ho', (hb.alloc hb.size _).trans hb'⟩
        · have htk2 : selL nm nd (N12.take (kk + 1)) = selL nm nd (N12.take kk) := by rw [htk, if_neg (by rintro (h | h); exact hq h; exact hm h)]; simp
          replace htk2 := Lib.hid htk2
          rw [show decide (n ∈ nd) = false by simpa using hm] at hc
          clear htk hm
          go_wp2_with fail
          refine hc.mono ?_
          rintro e w' ⟨rfl, rfl⟩
          go_wp2_with fail
          go_roundg (12 - (kk + 1))
          case measure => omega
          case rel => exact ⟨kk + 1, by omega, by omega, by go_num, by rw [htk2.out]; exact ho, hb⟩
    · have hltz : ¬ (kk : Int) < 12 := by omega
      obtain rfl : kk = 12 := by omega
      go_wp2
      go_ret
      refine ⟨_, rfl, ?_, hB.trans (hb.mono (by omega))⟩
      refine ⟨ho.1, ?_⟩
      rcases ho.2 with h | ⟨g', cap', cur, h1, h2, h3⟩
      · exact .inl h
      · exact .inr ⟨g', cap', cur, h1, by omega, h3⟩

def SETn : List ByteArray := [⟨#[76, 73, 78, 75]⟩, ⟨#[73, 78, 84, 83]⟩, ⟨#[83, 69, 84]⟩]
theorem needs_set (w : World) : Calls Tryz.prog 9 #[.string ⟨#[83, 69, 84]⟩] w fun e w' => ∃ v, e = .returned (.tuple #[v, I 0]) ∧ StrS w' v SETn ∧ Below w.heap.size w w' := by
  go_enter Tryz.func9, Tryz.ntmps9
  go_wp2_with fail
  refine (found_yes 8 _ (by decide +kernel) rfl _).mono ?_
  rintro e w1 ⟨m, a, n, t, rfl, hb, h8⟩
  obtain ⟨rfl, rfl, hm, hm8⟩ := h8 rfl
  have hS : StrAt (w1.alloc (.cells #[.string ⟨#[83, 69, 84]⟩, .slice (some ⟨m, 0, none⟩) 2 2, .string t] 61)) m [⟨#[76, 73, 78, 75]⟩, ⟨#[73, 78, 84, 83]⟩] := by
    have hlt := (Array.getElem?_eq_some_iff.1 hm8).1
    intro k nm hk
    unfold World.cell?
    rw [heap_alloc, if_neg (by dsimp only; omega), hm8]
    match k, hk with
    | 0, hk => cases hk; rfl
    | 1, hk => cases hk; rfl
    | k + 2, hk => simp at hk
  go_wp2_with fail
  refine (all28 ⟨#[83, 69, 84]⟩ t m [⟨#[76, 73, 78, 75]⟩, ⟨#[73, 78, 84, 83]⟩] (by decide) _ hS).mono ?_
  rintro e w2 ⟨v, rfl, ho, hb2⟩
  rw [show selL ⟨#[83, 69, 84]⟩ [⟨#[76, 73, 78, 75]⟩, ⟨#[73, 78, 84, 83]⟩] N12 = SETn by decide +kernel] at ho
  obtain ⟨a, c, rfl⟩ := ho.form
  go_wp2
  go_ret2
  exact ⟨_, rfl, ho.strS (by decide), (hb.alloc hb.size _).trans (hb2.mono (by have := hb.size; simp; omega))⟩
end Go.Proofs.Bm
