/- A part of the proof of BaseDrivers. No condition. -/
import Derived.Deep.AppendLies
import Derived.Deep.DeepCutAuto
import Derived.Deep.DeepHandedRow
import Derived.Deep.Fields
import Derived.Deep.RegionHeld3
import Derived.Deep.WholeRow
import Derived.Handy
import Derived.Laws.AppendOwnNone
import Derived.Lay
import Derived.LoopIn
import Derived.LoopNIn
import Derived.OwnWalkIn
import Derived.RangeFuncNested
import Derived.Shelf.Slices.Cells
import Derived.Shelf.Slices.Clone
import Derived.Shelf.Slices.Empties
import Derived.Shelf.Slices.Turned
import Derived.Shelf.SlicesE.Clone
import Derived.Shelf.Spec.SlicesInsertGrow
import Derived.Shelf.Strconv.Itoa3
import Derived.Shelf.Strings.Explode
import Derived.Shelf.Strings.LastIndex
import Derived.Shelf.Strings.OnBuilder
import Derived.Shelf.Strings.Prefix
import Derived.Shelf.Strings.Shaped
import Derived.Shelf.Strings.SplitShaped
import Derived.Shelf.Unicode.DecodeAny
import Derived.Shelf.Unicode.ExclAny
import Derived.Shelf.Unicode.IsSpaceAny
import Derived.Shelf.Utf8.RuneCount
import Derived.Sort.QuietIn
import Derived.StillTailTactics
import Derived.Stop.LaidErr
import Derived.WalkLawsBesides
import Derived.WalkSpells
import Derived.Test.YtibajhihfaggfaaGreatDoorProg
set_option linter.all false
set_option maxRecDepth 100000
set_option maxHeartbeats 8000000
namespace Go.Proofs
open Go Go.RowKit Go.Maps
abbrev Y9:=List (List Nat)
abbrev Yz:=List Nat
abbrev YC:=World
abbrev YE:=Value
abbrev YR:=ByteArray
abbrev YS:=Option Addr
abbrev YT:=List Value
abbrev Zt:=Array Value
abbrev UB:=TypeId
abbrev Wq:=Nat->Prop
abbrev Wr:=Option Nat
abbrev Ws:=Array Oper
abbrev WV:=List Int
abbrev VL:=Array Bool
abbrev VN:=Exit->Act->World->Prop
abbrev VV:=Option Value
abbrev VW:=Ending->World->Prop
abbrev T1:=Program
abbrev T2:=World->Prop
abbrev TC:=String
abbrev TG:=Bool
abbrev TP:=Ending
abbrev TV:=Region.Mode
abbrev TY:=Nat->Value
abbrev R0:=Act->World->Prop
abbrev Ri:=Nat->Bool
abbrev Rj:=Operand
abbrev RB:=FuncId
abbrev RG:=Nat×Nat
abbrev RM:=List Oper
abbrev RZ:=Oper
structure lx(l:List UInt8)where
instance{l}:CoeOut (lx l) ByteArray:=⟨λ_=>⟨l.toArray⟩⟩
def eQ:lx [78,79,78,69]:={}
def cM:lx [99,111,117,110,116]:={}
def nG:lx [115,117,109]:={}
def lP:lx [112,117,115,104]:={}
def gG:lx [73,78,84,83]:={}
def qu:lx [44]:={}
def gj:lx [73,78,84,69,71,69,82]:={}
def gn:lx [66,79,79,76,69,65,78]:={}
def fI:lx [76,73,78,75]:={}
def mz:lx [10]:={}
def jt:lx [101,120,116,101,110,100]:={}
def nP:lx [105,116,101,109]:={}
def tq:lx [110,111,116]:={}
def tu:lx [104,97,115]:={}
def o9:lx [115,105,122,101]:={}
def jW:lx [114,101,118,101,114,115,101]:={}
def l7:lx [114,101,109,111,118,101]:={}
def kf:lx [82,101,115,117,108,116]:={}
def jY:lx [97,116,116,97,99,104,101,100]:={}
def AV:lx [111,108,100]:={}
def nH:lx [99,114,101,97,116,101]:={}
def MH:lx [105,102]:={}
def tw:lx [102,114,111,109]:={}
def qw:lx [99,104,101,99,107]:={}
def jZ:lx [115,101,112,97,114,97,116,101]:={}
def qx:lx [114,101,116,114,121]:={}
def qy:lx [114,97,105,115,101]:={}
def AW:lx [112,117,116]:={}
def rv:lx [84,114,117,101]:={}
def nZ:lx [70,97,108,115,101]:={}
def ry:lx [86,111,105,100]:={}
def jX:lx [67,117,114,114,101,110,116]:={}
def l8:lx [83,79,82,84,69,68]:={}
def od:lx [84,65,66,76,69]:={}
def oe:lx [82,65,78,71,69]:={}
def og:lx [65,82,73,84,72]:={}
def IV:lx [83,69,84]:={}
def sH:lx [102,111,114,99,101]:={}
def ju:lx [118,97,108,117,101,95,111,102]:={}
def zo:lx [115,112,97,110]:={}
def sI:lx [116,114,105,101,115]:={}
def BT:lx [119,105,112,101]:={}
def BU:lx [116,114,117,101]:={}
def xH:lx [102,97,108,115,101]:={}
def BV:lx [118,111,105,100]:={}
def qA:lx [99,117,114,114,101,110,116]:={}
def sJ:lx [114,101,115,117,108,116]:={}
def MI:lx [65,78,89]:={}
def aX:lx [67,79,85,78,84,69,82]:={}
def MJ:lx [103,99,100]:={}
def xI:lx [112,111,119,101,114]:={}
def BW:lx [102,97,99,116]:={}
def Rk:lx [97,110,100]:={}
def tA:lx [78,79,68,69]:={}
def qz:lx [69,78,84,82,89]:={}
def BX:lx [83,84,65,67,75]:={}
def BY:lx [81,85,69,85,69]:={}
def AX:lx [105,109,112,108,105,101,115]:={}
def xJ:lx [99,111,110,116,97,105,110,115]:={}
def aT:lx [99,108,97,115,115,32,77,65,73,78,32,99,114,101,97,116,101,32,109,97,107,101,32,102,101,97,116,117,114,101,32,123,32,65,78,89,32,125,32,109,97,107,101,32,108,111,99,97,108]:={}
def dm:lx [100,111,32,99,114,101,97,116,101,32,99,32,46,32,109,97,107,101,32,59]:={}
def Ac:lx [100,101,116,97,99,104,97,98,108,101]:={}
def dB := @World.size_alloc
def aQ := @Array.getElem?_eq_some_iff
def j0 := @List.length_append
def abi := @List.length_singleton
def ah := @Lib.hid
def ac4 := @List.length_pos_iff
def aM := @Nat.le_refl
def Pr := @Ne.symm
def bG := @bodyPost_ret
def aI := @if_pos
def lF := @IntWalk.i64_in
def fi := @Nat.zero_add
def eB := @World.size_drew
def jm := @Below.heap_alloc
def bw := @trivial
def ma := @List.setIfInBounds_toArray
def mb := @List.set_cons_zero
def lj := @List.set_cons_succ
def j4 := @Nat.lt_succ_self
def ck := @List.getElem?_eq_getElem
def cm := @List.mem_of_getElem?
def Ad := @List.take_succ
def Qq := @Option.toList_some
def JF := @List.any_cons
def Ub := @List.any_nil
def wX := @Bool.or_false
def Qr := @Bool.or_eq_false_iff
def gH := @beq_eq_false_iff_ne
def MK := @List.contains_iff_mem
def qB := @List.take_length
def cA := @World.block_lt_of_cell?
def ll := @Below.heap_setCell
def lp := @List.map_cons
def eC := @List.mem_cons_of_mem
def rz := @List.flatMap_cons
def dC := @List.length_cons
def mc := @List.length_nil
def BZ := @List.mem_range
def Uc := @List.mem_filter
def Qs := @List.length_filter_le
def Zk := @Nat.mul_le_mul_right
def oU := @List.mem_append
def dk := @List.getElem?_eq_some_iff
def rA := @List.getD_eq_getElem?_getD
def Ae := @Option.bind_some
def Ud := @Nat.add_mul
def B3 := @List.getElem?_take
def B4 := @decide_eq_true
def aE := @if_neg
def B5 := @decide_eq_false
def MM := @List.map_append
def Qt := @List.flatMap_append
def xK := @List.map_nil
def gp := @List.append_nil
def rB := @results_tmp
def oh := @List.take_of_length_le
def B6 := @Nat.mul_one
def fS := @Nat.add_zero
def Zl := @Array.size_append
def JG := @List.size_toArray
def Zm := @size_zeroCells
def Af := @List.length_map
def sK := @List.length_take
def dD := @Bool.and_eq_true
def dU := @beq_iff_eq
def JH := @List.mem_singleton
def JI := @List.getElem?_of_mem
def j5 := @Bool.or_eq_true
def dV := @List.all_eq_true
def MN := @List.drop_eq_getElem_cons
def aw := @Option.bind_eq_some_iff
def Ue := @Option.map_eq_some_iff
def MO := @Nat.min_eq_left
def B7 := @run_underlying
def JJ := @MapKept.run_getObj_map
def gq := @congrArg
def B8 := @results_tmp2
def MP := @Addr.add_lit
def j6 := @Option.some.inj
def JK := @List.eq_nil_of_length_eq_zero
def Zn := @Array.getElem?_modify
def Qu := @Array.getElem?_toList
def gI := @Bool.not_eq_true
def sL := @List.drop_of_length_le
def dW := @Go.ByteArray.toList_eq
def Ag := @wp_region_held_drew
def cn := @Nat.le_trans
def xL := @Nat.zero_mul
def dE := @Nat.zero_le
def Uf := @Option.ite_none_right_eq_some
def wY := @Option.some.injEq
def sM := @Bool.eq_iff_iff
def MQ := @List.contains_cons
def Ug := @List.getElem_mem
def Uh := @List.mem_of_mem_take
def Qv := @List.getElem?_drop
def qC := @List.getElem?_map
def iG := @Below.refl
def wZ := @List.take_add_one
def MR := @Bool.false_or
def xM := @mem_ready
def MT := @getD_set_ne
def cZ := @List.mem_cons
def MU := @wpAnyH_ready
def tB := @AllReadyH.cons
def MV := @AllReadyH.nil
def qD := @Nat.lt_of_lt_of_le
def WX := @World.cell?_of_block
def AY := @List.map_map
def AZ := @List.map_id
def Rl := @List.map_congr_left
def Rm := @World.ownsRow_nil
def IW := @List.flatten_cons
def rU := @List.getElem?_append_left
def A0 := @List.getElem?_append_right
def MW := @run_append_own
def WY := @run_append_arg_grows
def MX := @wpList_plain
def MY := @World.frozen?_setCell
def A1 := @List.mem_of_mem_drop
def A2 := @World.cell?_alloc_lt
def nI := @Int.toNat_natCast
def MZ := @MapKept.run_setObj_map
def Rn := @Array.ext_getElem?
def IX := @Array.getElem?_setIfInBounds
def rV := @not_or
def rW := @Bool.false_eq_true
def qE := @if_false
def cF := @Option.bind_eq_bind
def dN := @info_parts
def A3 := @Bool.and_false
def dO := @List.mem_map
def WZ := @List.getElem?_set_self
def Ro := @Bool.false_and
def xN := @if_true
def IY := @List.contains_nil
def W6 := @List.getElem?_eq_none
def tC := @Nat.le_of_lt
def IZ := @List.cons.injEq
def xO := @and_true
def M0 := @Bool.eq_false_iff
def xP := @Nat.add_assoc
def A4 := @bodyPost_end
def Rp := @grownCap_le_maxLen
def oM := @decide_eq_true_eq
def xQ := @Bool.not_eq_true'
def tD := @List.all_cons
def W7 := @List.take_succ_cons
def Rq := @List.take_append_drop
def W8 := @List.mem_of_find?_eq_some
def M2 := @List.nodup_cons
def lz := @setRow_heap
def eu := @List.mem_cons_self
def tE := @Bool.eq_false_or_eq_true
def qF := @List.cons_append
def Rr := @Option.isSome_iff_exists
def I0 := @Addr.mk.injEq
def W9 := @List.length_eq_zero_iff
def A5 := @List.exists_cons_of_ne_nil
def Rs := @Oper.semAt_some
def I1 := @Array.replicate_succ
def I2 := @Array.replicate_zero
def I3 := @List.push_toArray
def I4 := @List.append_toArray
def xR := @List.nil_append
def mA := @callsIn_wide
def Rt := @of_decide_eq_true
def I5 := @List.append_assoc
def M3 := @grownBy_putObj'
def Xd := @wpListIn_append_own
def Xe := @List.getElem?_toArray
def M4 := @Array.getElem?_append_left
def Ru := @Int.mul_nonneg
def Rv := @Int.eq_ofNat_of_zero_le
def Xf := @List.mem_iff_getElem?
def jE := @List.forall_mem_cons
def M5 := @laidMet.tail
def aus := @List.flatMap_nil
def as5 := @List.not_mem_nil
def as6 := @or_false
def avD := @List.getElem_of_mem
def at5 := @List.drop_eq_nil_of_le
def auT := @List.drop_zero
def aut := @List.tail_cons
def auU := @Bool.true_and
def auV := @List.mem_flatMap
def at6 := @List.lookup_cons
def avE := @List.map_eq_nil_iff
def auW := @Nat.le_succ
open Go.Proofs.Tryz
open Go.RowKit
def ct{a0 a1 P:Prop}(k:Hid a0->Hid a1->P):a0->a1->P:=k
def jk{a0 a1 a2 P:Prop}(k:Hid a0->Hid a1->Hid a2->P):a0->a1->a2->P:=k
def jU{a0 a1 a2 a3 P:Prop}(k:Hid a0->Hid a1->Hid a2->Hid a3->P):a0->a1->a2->a3->P:=k
def nx{a0 a1 a2 a3 a4 P:Prop}(k:Hid a0->Hid a1->Hid a2->Hid a3->Hid a4->P):a0->a1->a2->a3->a4->P:=k
def LX{a0 a1 a2 a3 a4 a5 P:Prop}(k:Hid a0->Hid a1->Hid a2->Hid a3->Hid a4->Hid a5->P):a0->a1->a2->a3->a4->a5->P:=k
def Wy{a0 a1 a2 a3 a4 a5 a6 P:Prop}(k:Hid a0->Hid a1->Hid a2->Hid a3->Hid a4->Hid a5->Hid a6->P):a0->a1->a2->a3->a4->a5->a6->P:=k
def TR{a0 a1 a2 a3 a4 a5 a6 a7 P:Prop}(k:Hid a0->Hid a1->Hid a2->Hid a3->Hid a4->Hid a5->Hid a6->Hid a7->P):a0->a1->a2->a3->a4->a5->a6->a7->P:=k
def hd9{a0 a1 a2 a3 a4 a5 a6 a7 a8 P:Prop}(k:Hid a0->Hid a1->Hid a2->Hid a3->Hid a4->Hid a5->Hid a6->Hid a7->Hid a8->P):a0->a1->a2->a3->a4->a5->a6->a7->a8->P:=k
def zQ{a0 a1 a2 a3 a4 a5 a6 a7 a8 a9 P:Prop}(k:Hid a0->Hid a1->Hid a2->Hid a3->Hid a4->Hid a5->Hid a6->Hid a7->Hid a8->Hid a9->P):a0->a1->a2->a3->a4->a5->a6->a7->a8->a9->P:=k
def ahi{a0 a1 a2 a3 a4 a5 a6 a7 a8 a9 oN P:Prop}(k:Hid a0->Hid a1->Hid a2->Hid a3->Hid a4->Hid a5->Hid a6->Hid a7->Hid a8->Hid a9->Hid oN->P):a0->a1->a2->a3->a4->a5->a6->a7->a8->a9->oN->P:=k
def amN{a0 a1 a2 a3 a4 a5 a6 a7 a8 a9 oN nJ P:Prop}(k:Hid a0->Hid a1->Hid a2->Hid a3->Hid a4->Hid a5->Hid a6->Hid a7->Hid a8->Hid a9->Hid oN->Hid nJ->P):a0->a1->a2->a3->a4->a5->a6->a7->a8->a9->oN->nJ->P:=k
def amO{a0 a1 a2 a3 a4 a5 a6 a7 a8 a9 oN nJ a12 j7 P:Prop}(k:Hid a0->Hid a1->Hid a2->Hid a3->Hid a4->Hid a5->Hid a6->Hid a7->Hid a8->Hid a9->Hid oN->Hid nJ->Hid a12->Hid j7->P):a0->a1->a2->a3->a4->a5->a6->a7->a8->a9->oN->nJ->a12->j7->P:=k
def amP{a0 a1 a2 a3 a4 a5 a6 a7 a8 a9 oN nJ a12 j7 ti P:Prop}(k:Hid a0->Hid a1->Hid a2->Hid a3->Hid a4->Hid a5->Hid a6->Hid a7->Hid a8->Hid a9->Hid oN->Hid nJ->Hid a12->Hid j7->Hid ti->P):a0->a1->a2->a3->a4->a5->a6->a7->a8->a9->oN->nJ->a12->j7->ti->P:=k
def apm{a0 a1 a2 a3 a4 a5 a6 a7 a8 a9 oN nJ a12 j7 ti xz P:Prop}(k:Hid a0->Hid a1->Hid a2->Hid a3->Hid a4->Hid a5->Hid a6->Hid a7->Hid a8->Hid a9->Hid oN->Hid nJ->Hid a12->Hid j7->Hid ti->Hid xz->P):a0->a1->a2->a3->a4->a5->a6->a7->a8->a9->oN->nJ->a12->j7->ti->xz->P:=k
def akd{a0 a1 a2 a3 a4 a5 a6 a7 a8 a9 oN nJ a12 j7 ti xz zR P:Prop}(k:Hid a0->Hid a1->Hid a2->Hid a3->Hid a4->Hid a5->Hid a6->Hid a7->Hid a8->Hid a9->Hid oN->Hid nJ->Hid a12->Hid j7->Hid ti->Hid xz->Hid zR->P):a0->a1->a2->a3->a4->a5->a6->a7->a8->a9->oN->nJ->a12->j7->ti->xz->zR->P:=k
def apn{a0 a1 a2 a3 a4 a5 a6 a7 a8 a9 oN nJ a12 j7 ti xz zR Ui P:Prop}(k:Hid a0->Hid a1->Hid a2->Hid a3->Hid a4->Hid a5->Hid a6->Hid a7->Hid a8->Hid a9->Hid oN->Hid nJ->Hid a12->Hid j7->Hid ti->Hid xz->Hid zR->Hid Ui->P):a0->a1->a2->a3->a4->a5->a6->a7->a8->a9->oN->nJ->a12->j7->ti->xz->zR->Ui->P:=k
def apo{a0 a1 a2 a3 a4 a5 a6 a7 a8 a9 oN nJ a12 j7 ti xz zR Ui a18 P:Prop}(k:Hid a0->Hid a1->Hid a2->Hid a3->Hid a4->Hid a5->Hid a6->Hid a7->Hid a8->Hid a9->Hid oN->Hid nJ->Hid a12->Hid j7->Hid ti->Hid xz->Hid zR->Hid Ui->Hid a18->P):a0->a1->a2->a3->a4->a5->a6->a7->a8->a9->oN->nJ->a12->j7->ti->xz->zR->Ui->a18->P:=k
def apq{a0 a1 a2 a3 a4 a5 a6 a7 a8 a9 oN nJ a12 j7 ti xz zR Ui a18 avj P:Prop}(k:Hid a0->Hid a1->Hid a2->Hid a3->Hid a4->Hid a5->Hid a6->Hid a7->Hid a8->Hid a9->Hid oN->Hid nJ->Hid a12->Hid j7->Hid ti->Hid xz->Hid zR->Hid Ui->Hid a18->Hid avj->P):a0->a1->a2->a3->a4->a5->a6->a7->a8->a9->oN->nJ->a12->j7->ti->xz->zR->Ui->a18->avj->P:=k
def apr{a0 a1 a2 a3 a4 a5 a6 a7 a8 a9 oN nJ a12 j7 ti xz zR Ui a18 avj a20 a21 P:Prop}(k:Hid a0->Hid a1->Hid a2->Hid a3->Hid a4->Hid a5->Hid a6->Hid a7->Hid a8->Hid a9->Hid oN->Hid nJ->Hid a12->Hid j7->Hid ti->Hid xz->Hid zR->Hid Ui->Hid a18->Hid avj->Hid a20->Hid a21->P):a0->a1->a2->a3->a4->a5->a6->a7->a8->a9->oN->nJ->a12->j7->ti->xz->zR->Ui->a18->avj->a20->a21->P:=k
def axg{a0 a1 a2 a3 a4 a5 a6 a7 a8 a9 oN nJ a12 j7 ti xz zR Ui a18 avj a20 a21 a22 a23 a24 a25 P:Prop}(k:Hid a0->Hid a1->Hid a2->Hid a3->Hid a4->Hid a5->Hid a6->Hid a7->Hid a8->Hid a9->Hid oN->Hid nJ->Hid a12->Hid j7->Hid ti->Hid xz->Hid zR->Hid Ui->Hid a18->Hid avj->Hid a20->Hid a21->Hid a22->Hid a23->Hid a24->Hid a25->P):a0->a1->a2->a3->a4->a5->a6->a7->a8->a9->oN->nJ->a12->j7->ti->xz->zR->Ui->a18->avj->a20->a21->a22->a23->a24->a25->P:=k
structure Bx (Q:Prop):Prop where
 out:Q
variable {P Q:Prop}(k:Q)
def asz(h:P:=by
 clear ak jG ik e4 e5;rintro V ⟨ak,q4,q5⟩;refine rdT 6 λK hK=>?_;obtain⟨b0,b1,b2,b3,-⟩:=cc (W:=V) (b:=g4) q4;have f0:∀j,V.frozen? ⟨g4,j,none⟩=false:=al q4;go_simp;have q4':=eI q4 (.int .i64 (aZ l).k) (.string (bs (aZ l).t)) (.int .i64 xa) (.int .i64 ya);have q5':=fw q5 (Pr l45) (.int .i64 (aZ l).k) (.string (bs (aZ l).t)) (.int .i64 xa) (.int .i64 ya);refine hK _ _ (ak.step (cG V g4 (.int .i64 (aZ l).k) (.string (bs (aZ l).t)) (.int .i64 xa) (.int .i64 ya)) dF) (λak=>?_);clear hK K;refine sp ?_;refine ddT 7 λK hK=>?_;obtain⟨sN,sO,tF,tG,-⟩:=cc (W:=A7 V g4 (.int .i64 (aZ l).k) (.string (bs (aZ l).t)) (.int .i64 xa) (.int .i64 ya)) (b:=g5) q5';have sP:∀j,(A7 V g4 (.int .i64 (aZ l).k) (.string (bs (aZ l).t)) (.int .i64 xa) (.int .i64 ya)).frozen? ⟨g5,j,none⟩=false:=al q5';go_simp;refine hK _ _ ?_;clear hK K;refine sp ?_;refine dnT ?_;go_wp2_with fail;go_meet
 case rel=>exact⟨g4,g5,xa,ya,xb,yb,rfl,rfl,ak.step (cG _ g5 (.int .i64 (aZ l.tail).k) (.string (bs (aZ l.tail).t)) (.int .i64 xb) (.int .i64 yb)) dF,fw q4' l45 (.int .i64 (aZ l.tail).k) (.string (bs (aZ l.tail).t)) (.int .i64 xb) (.int .i64 yb),eI q5' (.int .i64 (aZ l.tail).k) (.string (bs (aZ l.tail).t)) (.int .i64 xb) (.int .i64 yb)⟩):=h
def B9(h:P:=by
 refine(Qw hts ab eF _).mono ?_;rintro e w5 ⟨rfl,K5⟩;have KA:Kept aK wr (w5.alloc (cO #[iV kk,iV 0] 192)):=((((Kept.refl aK wr).alloc (cO #[iV ln,iV ((i:Int) - bg+1)] 42)).trans' K2).trans' K5).alloc (cO #[iV kk,iV 0] 192);have jV:=aJ hb KA;have hr5:=aJ hr KA;have hp5:(w5.alloc (cO #[iV kk,iV 0] 192)).heap[wr.heap.size]?=some (.cells #[iV ln,iV ((i:Int) - bg+1)] 42 (0,0)):=aD (aJ (aJ ao K2) K5);have x0:(w5.alloc (cO #[iV kk,iV 0] 192)).cell? ⟨w5,0,none⟩=(some (iV kk):Option Value):=eR;have x1:(w5.alloc (cO #[iV kk,iV 0] 192)).cell? ⟨w5,1,none⟩=(some (iV 0):Option Value):=eR;obtain⟨p0,p1,-⟩:=cc (W:=w5.alloc (cO #[iV kk,iV 0] 192)) (b:=wr) hp5;have q0:=bc (W:=w5.alloc (cO #[iV kk,iV 0] 192)) (bx:=w.heap.size+1) jV 0;obtain⟨V,hV⟩:∃V,V=(w5.alloc (cO #[iV kk,iV 0] 192)).alloc (cO #[iV kk,.string (bs tt),iV ln,iV ((i:Int) - bg+1)] 187):=⟨_,rfl⟩
 have KV:Kept aK wr V:=by rw[hV];exact KA.alloc _
 have zp:=aJ hb KV;have hrV:=aJ hr KV;have Ah:=hO.kept KV (λ_ _ _ e=>e) (λ_ _ e=>e);have hRV:aP (λb=>w.heap.size+2<=b/\Value.ownBlock (sV va rows.length vc)≠some b) V [.int kk,.str tt,.int ln,.int ((i:Int) - bg+1)] [iV kk,.string (bs tt),iV ln,iV ((i:Int) - bg+1)]:=.cons (.int _) (.cons (.str _) (.cons (.int _) (.cons (.int _) .nil)));have eG:∀(j:Nat) (u:YE),([Value.int .i64 kk,.string (bs tt),iV ln,iV ((i:Int) - bg+1)]:YT)[j]?=some u->V.cell? ((⟨w5.heap.size+1,0,none⟩:Addr).add j)=some u:=by rw[hV];have:=eH (w:=(w5.alloc (cO #[iV kk,iV 0] 192))) (cs:=[iV kk,.string (bs tt),iV ln,iV ((i:Int) - bg+1)]) (T:=187);simpa only[dB] using this
 have lD:w.heap.size+2<=V.heap.size:=by have:=(aQ.1 zp).1;omega
 have hrn:rows.length<=1000000:=by have h1:=ee hF;have h2:=ake;omega
 revert hV KV zp hrV Ah hRV eG;refine Wy ?_;intro hV KV zp hrV Ah hRV eG;go_wp2_with (at_builtin;refine bu (P:=prog) underlying84 hi A6 cL dY rfl ab ab rfl (.tmp 117) (.tmp 123) rfl rfl ⟨w5.heap.size+1,0,none⟩ 1 rfl _ _ (hV.out▸Ah) (by have h:=lD;rw[hV.out] at h;exact h) hrn rfl (hV.out▸eG) (hV.out▸hRV) ?_);intro v' W' iH lE aL;rw[<-hV.out] at lE;obtain⟨Wz,vc2,jo⟩:=iH.form;rw[j0,abi] at jo;subst jo;have hlb:=Ah.lt;have hbW:=(lE.block _ (aQ.1 zp).1 Aj).trans zp;have hrW:=(lE.block _ (aQ.1 hrV).1 Aj).trans hrV;have c9:=bc (W:=W') (bx:=w.heap.size+1) hbW 0;have f9:=al hbW 0;have aps:(W'.setCell ⟨w.heap.size+1,0,none⟩ (sV Wz (rows.length+1) vc2)).heap[w.heap.size+1]?=some (.cells #[sV Wz (rows.length+1) vc2,sV none 0 0,iV 0,iV 0,iV 0] 86 (0,0)):=heap_setCell_same W' _ 0 _ hbW;have oK:=au (W:=W') (w.heap.size+1) 0 (sV Wz (rows.length+1) vc2);have apt:=(oK.block _ (aQ.1 hrW).1 (show ¬(w.heap.size=w.heap.size+1) by omega)).trans hrW;have qY:=iH.kept oK Ak Al;have gu:Kept aK w (W'.setCell ⟨w.heap.size+1,0,none⟩ (sV Wz (rows.length+1) vc2)):=((K.trans' KV).trans lE (λb hb e=>by have:=(hlb b e).1;omega)).trans oK bH;have xd:Hid (RRd w s L f (iV ln) (iV bg) (iV ((i:Int)+(tt.length:Int))) (W'.setCell ⟨w.heap.size+1,0,none⟩ (sV Wz (rows.length+1) vc2))):=
  ah ⟨i+tt.length,ln,bg,f,rest',dn++[⟨kk,tt⟩],rows++[[.int kk,.str tt,.int ln,.int ((i:Int) - bg+1)]],_,by push_cast;rfl,rfl,rfl,by push_cast;omega,by push_cast;omega,(by have:=ac4.2 htn;simp;omega),aps,apt,qY,Ca hF ⟨ln,(i:Int) - bg+1,rfl⟩,gu,Qx,by rw[hL.out];simp,by omega,aM _⟩
 have htz:=dp tt;go_wp2_with fail;go_roundg f
 case measure=>omega
 case rel=>exact xd):=h
def JL(h:P:=by
 rintro W ⟨gJ,S2,h6⟩;revert oO S2;refine ct ?_;intro oO S2;clear h6 gJ;go_wp2_with fail;refine(ew S2.ps "(" hnp).mono ?_;rintro e w2 ⟨rfl,P2,K2⟩;have S3:=ah (S2.aB P2 K2);go_wp2_with fail;refine bY (fj S3.ps "attached" hma) λw3 P3 K3=>?_;have S4:=ah (S3.aB P3 K3);go_wp2_with fail;refine(ih C w3 _ _ _ _ _ S4.ps hx hy).mono ?_;rintro e w4 ⟨⟨v,rfl,ky,ny,my,rX,ay,ly,cy,rfl,rfl,qZ⟩,P4,K4⟩;have hly:=ah S4.out.lt;have eo:=ah S4.out.pw;have Zo:=K4.size;have I6:=(S4.aB P4 K4).lt;have S5:=(S4.aB P4 K4).alloc (cO #[ky,ny,my,sV ay ly cy] 181);revert qZ S5;refine Cc ?_;intro tH S5 h9 qZ;revert Zo I6;refine ct ?_;intro Zo I6;clear tH;go_wp2_with fail;refine bY (fj S5.ps "as" xA) λw5 P5 K5=>?_;have S6:=S5.aB P5 K5;obtain⟨g9,hg9⟩:∃g9,g9=w4.heap.size:=⟨_,rfl⟩
 have Rw:g9≠C.p:=pc;have IL:=cu h9 K5 Cd;rw[<-hg9] at IL;have Rx:=qZ.kept K5 fT;replace qZ:=ah Rx;have hl5:=ah S6.lt;replace S5:=ah S6;replace h9:=ah IL;replace Rw:=ah Rw;clear IL Rx;revert hg9;refine Ce ?_;intro bC bX FF ak;refine rT2 1 3 (λK hK=>?_) λK hK=>?_
 .go_simp;refine bY (qG (S5.drew).ps hnw) λwB P6 K6=>?_;dsimp only;have S6:=(S5.drew).aB P6 K6;have hy6:=qZ.kept (w':=wB) (F:=ch C) ((Kept.refl _ w5).drew.trans' K6) fT;refine hK _ _ (cu ak K6 Rw) (λak=>?_);clear hK K;refine sp ?_;refine rdT 3 λK hK=>?_;revert K hK;refine Cf ?_;intro S7 b0 b1 b2 b3 f0 ak;refine bG (v:=.agg #[iV 10,nm,oZ,sV wB 1 1]) eU rfl ?_;exact Cg
 .go_simp;have h3a:(w5.alloc (.cells #[ky,ny,my,.slice ay ly cy] 181)).drew.heap[w5.heap.size]?=some (.cells #[ky,ny,my,.slice ay ly cy] 181):=(show(w5.alloc (.cells #[ky,ny,my,.slice ay ly cy] 181)).heap[w5.heap.size]?=some (.cells #[ky,ny,my,.slice ay ly cy] 181) by rw[heap_alloc,aI rfl])
  refine hK _ _ (aD ak) (λak=>?_);clear hK K;refine sp ?_;refine rdT 1 λK hK=>?_;go_simp;refine bY (qG ((S5.alloc (cO #[ky,ny,my,sV ay ly cy] 181)).drew).ps hnw) λwB P6 K6=>?_;dsimp only;have S6:=((S5.alloc (cO #[ky,ny,my,sV ay ly cy] 181)).drew).aB P6 K6;have hy6:=qZ.kept (w':=wB) (F:=ch C) (((Kept.refl _ w5).alloc _).drew.trans' K6) fT;have h3b:=cu h3a K6 (by have:=hl5.out;have:=eo.out;omega);revert K hK;refine Ch ?_;intro b0 b1 b2 b3 f0 ak;refine bG (v:=.agg #[iV 10,nm,oZ,sV w5 1 1]) eU rfl ?_;exact S6.akf hy6 hly 10 nm h3b hl5):=h
def tI(h:P:=by
 go_wp2_with fail;go_loopg [4,5] s.length (λgg s4 s5 wr=>Zp W s gg s4 s5 wr)
 case atStart=>exact⟨0,rfl,by simp[num],by omega,rfl⟩
 case round=>
  obtain⟨k,rfl,rfl,hkg,rfl⟩:=hrel;by_cases hk:k < s.length
  .refine Ci ?_;intro g1 g2 d LY M6 lG akg Cj A Qy abj hA B hle jq hB e1;have e3:IntKind.i64.wrap (d:Int)=(d:Int):=lF _ ab;have e4:IntKind.i64.wrap (10*A+(d:Int))=10*A+(d:Int):=lF _ ab;have e6:IntKind.i64.wrap (10*A+(d:Int) - 48)=B:=by rw[lF _ ab,jq];omega
   have e5:¬(B > 1099511627776):=ab;have oV:Hid (Zp wr s (gk - 1) (iV B) (iV ((k:Int)+1)) wr):=ah ⟨k+1,rfl,by rw[hB],by omega,rfl⟩;exact Ck
  .have Am:k=s.length:=by omega
   have g1:¬(k:Int) < (s.length:Int):=ab;subst Am;rw[Xg.out];obtain⟨M,hM⟩:∃M,M=num s:=⟨_,rfl⟩
   rw[<-hM];have z0:=aC ey 0;have z1:=aC ey 1;have y0:=al ey;replace hM:=ah hM;go_wp2;refine bG (v:=.agg #[iV M,oZ]) (by simp[results,results192,go_sem,z0,z1]) rfl ?_;exact⟨by rw[hM.out],dZ.trans ((au w.heap.size 0 (iV M)).trans' (au w.heap.size 1 (iV 0))) bH⟩):=h
def Cl(h:P:=by
 rw[<-jQ];rintro W ⟨gJ,S2,h6⟩;have S3:=S2.alloc (cO #[.string jY,.string tq,.string AV,.string nH,.string MH,.string tw,.string qw,.string jZ,.string qx,.string qy,.string AW] 9);have Cm:=aD (x:=cO #[.string jY,.string tq,.string AV,.string nH,.string MH,.string tw,.string qw,.string jZ,.string qx,.string qy,.string AW] 9) gJ;have d1:=bc (W:=W.alloc (cO #[.string jY,.string tq,.string AV,.string nH,.string MH,.string tw,.string qw,.string jZ,.string qx,.string qy,.string AW] 9)) (bx:=w1.heap.size) Cm 1;have hc:∀j,j < xS.length->(W.alloc (cO #[.string jY,.string tq,.string AV,.string nH,.string MH,.string tw,.string qw,.string jZ,.string qx,.string qy,.string AW] 9)).cell? ⟨W,0+j,none⟩=some (.string (xS.getD j ByteArray.empty)):=by
  intro j hj;rw[fi,Cn];have WA:j < 11:=hj
  match j,WA with
  |0,_=>rfl
  |1,_=>rfl
  |2,_=>rfl
  |3,_=>rfl
  |4,_=>rfl
  |5,_=>rfl
  |6,_=>rfl
  |7,_=>rfl
  |8,_=>rfl
  |9,_=>rfl
  |10,_=>rfl
 have ahj:=Tryz.slices_Contains_string W.heap.size 0 11 11 xS (bs (aZ l).t) _ aj ab hc;rw[ahk dQ.out] at ahj;revert S3 ahj;refine ct ?_;intro S3 ahj;go_wp2_with fail;refine ahj.mono ?_;rintro e w2 ⟨rfl,rfl⟩;go_wp2;go_ret;exact⟨rfl,S3.ps,S3.kp⟩):=h
def xT(h:P:=by
 go_wp2_with fail;go_loopg [4,21] s.length (λgg s4 s21 wr=>Xh w1 s gg s4 s21 wr)
 case atStart=>exact jr
 case round=>
  obtain⟨k,rfl,rfl,hkg,rfl⟩:=hrel;clear jr;by_cases hk:k < s.length
  .refine Ci ?_;intro g1 g2 d LY M6 lG akg Cj A Qy abj hA B hle jq hB e1;have e2:IntKind.u8.wrap ((d:Int) - 48)=(d:Int) - 48:=by have hb8:IntKind.u8.bits=8:=rfl;simp only[IntKind.wrap,hb8];(try simp);omega
   have e3:IntKind.i64.wrap ((d:Int) - 48)=(d:Int) - 48:=lF _ ab;have e4:IntKind.i64.wrap (10*A+((d:Int) - 48))=B:=by rw[lF _ ab,jq]
   have e5:¬(B > 1099511627776):=ab;have oV:Hid (Xh wr s (gk - 1) (iV B) (iV ((k:Int)+1)) wr):=ah ⟨k+1,rfl,by rw[hB],by omega,rfl⟩;exact Ck
  .have Am:k=s.length:=by omega
   have g1:¬(k:Int) < (s.length:Int):=ab;subst Am;rw[Xg.out];exact Co):=h
def Cp(h:P:=by
 rintro e wB ⟨⟨aa,ac,rfl,Cq,hlen⟩,P4,K4⟩;dsimp only;have S4:=(S3.drew).aB P4 K4;have apu:=(S3.drew).lt;have apv:=K4.size;have apw:=(aQ.1 ak).1;refine hK _ _ (cu ak K4 Cr) (λak=>?_);refine sp ?_;refine rdT 2 λK hK=>?_;go_simp;have Ps:(wB.alloc (.cells #[xk,xn,xm,.slice xa xl xc] 181)).heap[wB.heap.size]?=some (.cells #[xk,xn,xm,.slice xa xl xc] 181):=ao;refine hK _ _ (aD ak) (λak=>?_);refine sp ?_;refine rdT 5 λK hK=>?_;have S5:St C w r2 lA (wB.alloc (cO #[xk,xn,xm,sV xa xl xc] 181)):=S4.alloc (cO #[xk,xn,xm,sV xa xl xc] 181);have KX:Kept (ch C) w3 (wB.alloc (cO #[xk,xn,xm,sV xa xl xc] 181)):=((Kept.refl _ w3).drew.trans' K4).alloc (cO #[xk,xn,xm,sV xa xl xc] 181);have hO:OwnR (g3+1) (λb=>w.heap.size < b/\b≠g3) (wB.alloc (cO #[xk,xn,xm,sV xa xl xc] 181)) 181 4 (sV wB 1 1) [[xk,xn,xm,kids]]:=by refine OwnR.Ry (arr:=#[xk,xn,xm,sV xa xl xc]) Ps rfl rfl JM ?_;have hk:=oP.kept KX An;have jF:an (λb=>(λb=>w.heap.size < b/\b≠g3) b/\b≠wB.heap.size) (wB.alloc (cO #[xk,xn,xm,sV xa xl xc] 181)) (.sl kids) (sV xa xl xc):=oP.keep (λb hb hl=>⟨hb,by have:=Xi.out;simp only[dB,eB] at*;omega⟩) KX.size λb hb hl=>KX.block b hl Ao;exact Cs
 have hA:an (λb=>(λb=>w.heap.size < b/\b≠g3) b/\Value.ownBlock (sV wB 1 1)≠some b) (wB.alloc (cO #[xk,xn,xm,sV xa xl xc] 181)) (.sl ags) (sV aa ags.length ac):=by refine Cq.keep (λb hb hl=>⟨⟨by simp only[dB,eB] at*;omega,by simp only[dB,eB] at*;omega⟩,λe=>?_⟩) ai (λb _ hl=>jm _ _ _ hl);exact Ct
 have Ph:g3+1<=((wB.alloc (cO #[xk,xn,xm,sV xa xl xc] 181))).heap.size:=JN;refine JO ?_;intro hlA W' lE va vc iH aL;have rY:∀b,Value.ownBlock (sV wB 1 1)=some b->b≠g3:=λb e=>by have:=(hO.lt b e).1;omega
 exact Cu):=h
def Cv(h:P:=by
 rintro e wB ⟨⟨aa,ac,rfl,Cq,hlen⟩,P4,K4⟩;dsimp only;have S4:=((S3.alloc (cO #[xk,xn,xm,sV xa xl xc] 181)).drew).aB P4 K4;have apu:=((S3.alloc (cO #[xk,xn,xm,sV xa xl xc] 181)).drew).lt;have apv:=K4.size;have apw:=(aQ.1 ak).1;have Ps:=cu ahl K4 (by have:=S4.pw;have:=Xi.out;have:=M7.out;omega);refine hK _ _ (cu ak K4 Cr) (λak=>?_);refine sp ?_;refine rdT 5 λK hK=>?_;have S5:St C w r2 lA wB:=S4;have KX:Kept (ch C) w3 wB:=((Kept.refl _ w3).alloc _).drew.trans' K4;have hO:OwnR (g3+1) (λb=>w.heap.size < b/\b≠g3) wB 181 4 (sV w3 1 1) [[xk,xn,xm,kids]]:=by refine OwnR.Ry (arr:=#[xk,xn,xm,sV xa xl xc]) Ps rfl rfl JM ?_;have hk:=oP.kept KX An;have jF:an (λb=>(λb=>w.heap.size < b/\b≠g3) b/\b≠w3.heap.size) wB (.sl kids) (sV xa xl xc):=oP.keep (λb hb hl=>⟨hb,by have:=Xi.out;simp only[dB,eB] at*;omega⟩) KX.size λb hb hl=>KX.block b hl Ao;exact Cs
 have hA:an (λb=>(λb=>w.heap.size < b/\b≠g3) b/\Value.ownBlock (sV w3 1 1)≠some b) wB (.sl ags) (sV aa ags.length ac):=by refine Cq.keep (λb hb hl=>⟨⟨by simp only[dB,eB] at*;omega,by simp only[dB,eB] at*;omega⟩,λe=>?_⟩) (aM _) (λ_ _ _=>rfl);exact Ct
 have Ph:g3+1<=(wB).heap.size:=JN;refine JO ?_;intro hlA W' lE va vc iH aL;have rY:∀b,Value.ownBlock (sV w3 1 1)=some b->b≠g3:=λb e=>by have:=(hO.lt b e).1;omega
 exact Cu):=h
def asn(h:P:=by
 repeat' first|apply Bm.be.cons|exact Bm.be.nil
 all_goals intro lb u V K hl hn Pj hI j8
 .exact eV
 .exact fJ
 .exact iL
 .exact tJ
 .have e3:=hI.2 3 _ rfl (hn 3 af);have d0:=hI.1.aq p0' (λe=>e);exact pd
 .exact gK
 .exact tK
 .exact tM
 .exact Cx
 .have e8:=hI.2 8 _ rfl (hn 8 af);have d0:=hI.1.aq q0' (λe=>e);exact mB
 .exact Cy
 .exact JP
 .have xU:=hI.2 11 _ rfl (hn 11 af);go_simp;exact j8 _ _ _ ⟨hI.1,hI.2.yes 12⟩ asH
 .have xU:=hI.2 11 _ rfl (hn 11 af);have Qz:=hI.2 12 _ rfl (hn 12 af);go_simp;exact j8 _ _ _ ⟨hI.1,hI.2.yes 13⟩ (by rw[xU,Qz];try rfl)
 .have xU:=hI.2 11 _ rfl (hn 11 af);have QA:=hI.2 13 _ rfl (hn 13 af);go_simp;exact j8 _ _ _ ⟨hI.1,hI.2.yes 14⟩ (by rw[xU,QA];try rfl)):=h
def Cz(h:P:=by
 go_simp;refine hK _ _ bw (λ_=>?_);refine sp ?_;refine jR 8 λK hK=>?_;go_simp;refine ht.mono ?_;rintro e w' ⟨v',k',rfl,WB,A8,hr⟩;obtain⟨a',xV,rfl,_⟩:=WB.form;rw[Zq] at WB;refine JQ ?_;intro jF zr gc' gf' bC K hK;obtain⟨w2,TS⟩:∃w2,w2=w'.setCell ⟨n+1,0,none⟩ (sV a' (s.l.length+1) xV):=⟨_,rfl⟩
 have hKf:Kept (F n lk) W w2:=CA;have aL:Row W lk k':=hr.of_le CC;have hMf:MS n L Q {s with l:=s.l.take s.l.length++x::s.l.drop s.l.length} q k' w2:=CD;exact CF):=h
def CG(h:P:=by
 go_simp;refine hK _ _ bw (λ_=>?_);refine sp ?_;refine jR 8 λK hK=>?_;go_simp;refine ht.mono ?_;rintro e w' ⟨v',k',rfl,WB,A8,hr⟩;obtain⟨a',xV,rfl,_⟩:=WB.form;rw[hlen] at WB;refine JQ ?_;intro jF zr gc' gf' bC K hK;obtain⟨w2,TS⟩:∃w2,w2=w'.setCell ⟨n+1,0,none⟩ (sV a' (i+(s.l.length - i+1)) xV):=⟨_,rfl⟩
 have hKf:Kept (F n lk) W w2:=CA;have aL:Row W lk k':=hr.of_le CC;have hMf:MS n L Q {s with l:=s.l.take i++x::s.l.drop i} q k' w2:=CD;exact CF):=h
def bK(h:P:=by simp only[zS,Act.put,ma,mb,lj,Nat.reduceAdd];with_reducible rfl):=h
def CH(h:P:=by refine mC ?_;intro W S2 n2 bC cp2 fp2 Pt Pu b0 b1 b2 b3 f0 sN sO tF tG sP S3;refine bG (v:=.agg #[iV 2,eS,iV 1,nS]) eU rfl ?_;exact S3.fin (B:=w.heap.size+1) .nil (j4 _) 2 [] 1):=h
def CI(h:P:=by refine mC ?_;intro W S2 n2 bC cp2 fp2 Pt Pu b0 b1 b2 b3 f0 sN sO tF tG sP S3;refine bG (v:=.agg #[iV 5,eS,oZ,nS]) eU rfl ?_;exact S3.fin (B:=w.heap.size+1) .nil (j4 _) 5 [] 0):=h
def CJ(h:P:=by refine mC ?_;intro W S2 n2 bC cp2 fp2 Pt Pu b0 b1 b2 b3 f0 sN sO tF tG sP S3;refine bG (v:=.agg #[iV 4,eS,oZ,nS]) eU rfl ?_;exact S3.fin (B:=w.heap.size+1) .nil (j4 _) 4 [] 0):=h
def CK(h:P:=by refine mC ?_;intro W S2 n2 bC cp2 fp2 Pt Pu b0 b1 b2 b3 f0 sN sO tF tG sP S3;refine bG (v:=.agg #[iV 3,eS,oZ,nS]) eU rfl ?_;exact S3.fin (B:=w.heap.size+1) .nil (j4 _) 3 [] 0):=h
def CL(h:P:=by refine mC ?_;intro W S2 n2 bC cp2 fp2 Pt Pu b0 b1 b2 b3 f0 sN sO tF tG sP S3;refine bG (v:=.agg #[iV 2,eS,oZ,nS]) eU rfl ?_;exact CM):=h
def as8(h:P:=by
 repeat' first|apply Bm.be.cons|exact Bm.be.nil
 all_goals intro lb u V K hl hn hf hI hK
 .exact fV
 .exact uQ
 .have e1:=hI.2 1 _ rfl (hn 1 af);go_simp;refine bD (ih' V) λwA KA=>?_;dsimp only;exact hK _ _ _ ⟨⟨hI.1.1.trans' KA,λe1=>(by obtain⟨g,e,hg,hb⟩:=hI.1.2 (by rw[jJ aj] at e1;exact e1);exact⟨g,e,hg,aJ hb KA⟩)⟩,hI.2.yes 2⟩ tX
 .exact Kh
 .have e3:=hI.2 3 _ rfl (hn 3 af);exact as9
 .exact ue
 .exact ata
 .have e6:=hI.2 6 _ rfl (hn 6 af);go_simp;exact hK _ _ _ ⟨⟨hI.1.1.alloc _,λ_=>⟨_,rfl,hI.1.1.size,by rw[heap_alloc,aI rfl]⟩⟩,hI.2.no 7⟩ pt
 .obtain⟨g,eg,hg,hb⟩:=hI.1.2 (hn 7 af);have hc:=aaI hb;rw[Qy] at hc;go_simp;exact hK _ _ _ ⟨⟨hI.1.1,λe1=>(by rw[jJ aj] at e1;exact⟨g,eg,hg,hb⟩)⟩,hI.2.yes 8⟩ (by rw[eg];try rfl)
 .have e2:=hI.2 2 _ rfl (hn 2 af);have e8:=hI.2 8 _ rfl (hn 8 af);go_simp;exact hK _ _ _ ⟨hI.1,hI.2.yes 9⟩ (by rw[e2,e8];try simp only[aaK];try rfl)
 .exact EW):=h
def CN(h:P:=by refine CO ?_;intro pb8 bC bX FF ak K hK w7 ba bc hvb Uj P7 K7 jx Mn;have akh:=gC ac5 ((Kept.refl _ _).drew.trans' K7) rf ij;refine CP ?_;intro Rz ac6 ac7 RA mx Mo;have aki:=A9 akh ij 6 (sV ba body.length bc);refine CQ ?_;intro RC RD ak K hK ahm bC bX w8 P8 K8 qo CS;have akj:=gC aki K8 rf ij;refine M8 ?_;intro M9 Na up;exact⟨rfl,_,_,_,_,_,_,_,_,_,_,_,_,qo.s,qo.ps,qo.kp,(M9).mono (up _),(ac8 akj).mono (up _),(ac8 CS).mono (up _),(Na).mono (up _)⟩):=h
def CT(h:P:=by
 go_wp2_with fail;go_loopg [5] fs.length (λgg s5 wr=>akk w fs s gg s5 wr)
 case atStart=>exact⟨0,rfl,by omega,rfl,rfl⟩
 case round=>
  obtain⟨k,rfl,hkg,rfl,eK⟩:=hrel;by_cases hk:k < fs.length
  .have h1:(k:Int) < (fs.length:Int):=by omega
   have h2:(0:Int)<=(k:Int):=ab;obtain⟨x,hx⟩:∃x,fs[k]?=some x:=⟨_,ck hk⟩
   obtain⟨g,off,rfl,-,cs,hR,fY⟩:=h.out.elem (k:=k) (row:=[.str x]) pf;obtain⟨c0,Ap,rfl,v0,hr⟩:=hR.aG
   cases v0.bq;have q0:wr.cell? ⟨g,off+k,none⟩=(some (.string (bs x)):Option Value):=kg;have hq:=cH (a:=x) (b:=s) (fx x (cm hx)) hs;revert eK hx;refine ct ?_;intro eK hx
   cases hb:(x==s)
   .rw[hb] at hq;go_wp2;go_roundg (gk - 1)
    case measure=>omega
    case rel=>exact⟨k+1,rfl,by omega,rfl,by
     rw[Ad,hx.out];have h0:=eK.out;rw[List.contains_eq_any_beq] at h0|-;simp only[List.any_append,Qq,JF,Ub,wX,Qr];refine⟨h0,?_⟩;rw[gH] at hb|-;exact λe=>hb e.symm⟩
   .rw[hb] at hq;have hr:B=true:=by rw[hB.out,MK];have:=eq_of_beq hb;subst this;exact cm hx
    exact mD
  .have Am:k=fs.length:=by omega
   have h1:¬(k:Int) < (fs.length:Int):=ab;have hr:B=false:=by rw[hB.out];rw[Am,qB] at eK;exact eK
   exact mD):=h
def JR(h:P:=by refine CO ?_;intro pb8 bC bX FF ak K hK w7 ba bc hvb Uj P7 K7 jx Mn;refine CP ?_;intro Rz ac6 ac7 RA mx Mo;refine CQ ?_;intro RC RD ak K hK ahm bC bX w8 P8 K8 qo CS;refine M8 ?_;intro M9 Na up;exact⟨rfl,_,_,_,_,_,_,_,_,_,_,_,_,qo.s,qo.ps,qo.kp,(M9).mono (up _),.nil,(ac8 CS).mono (up _),(Na).mono (up _)⟩):=h
def tN(h:P:=by replace hB:=ah hB;clear Mp hq;go_enter func70,ntmps70;go_wp2_with fail;refine hk.mono ?_;rintro e w1 ⟨rfl,K⟩;have z0:w1.cell? ⟨C.p,0,none⟩=(some (sV C.g C.L.length cap):Option Value):=(K.cell (cA w _ c0) (λe=>e)).trans c0;have z1:w1.cell? ⟨C.p,1,none⟩=(some (iV n):Option Value):=(K.cell (cA w _ c1) (λe=>e)).trans c1;have z2:w1.cell? ⟨C.g,n*4+1,none⟩=(some (.string (bs t.t)):Option Value):=(K.cell (cA w _ q2) (λe=>e)).trans q2;replace K:=ah K;clear c0 c1 q1 q2 q3 q4;exact JS):=h
def iL(h:P:=by have e0:=hI.2 0 _ rfl (hn 0 af);have e1:=hI.2 1 _ rfl (hn 1 af);go_simp;exact j8 _ _ _ ⟨hI.1,hI.2.yes 2⟩ (by rw[e0,e1];try rfl)):=h
def tO(h:P:=by have hh:=xW (w:=w3.alloc (cO #[iV 2,nm,x1,y1] 187)) (arr:=#[.string eQ]) (E:=9) (fs:=[tx "NONE"]) C.p (by rfl) aj (by have:=eo.out;have:=tP.out;rw[dB];omega);rw[dB] at hh;exact hh.kept (F:=aK) (Kept.refl _ _).drew (λ_ _ _ e=>e)):=h
def fK(h:P:=by
 go_wp2;go_roundg f
 case measure=>have:=de.out;omega
 case rel=>exact hrel):=h
def fL(h:P:=by
 .have jS:¬((j:Int) < (rows.length:Int)):=by omega
  replace hK:=ah hK;exact mE):=h
def CU(h:P:=by rintro W ⟨S2,gJ⟩;obtain⟨n2,e2,_,cp2⟩:=S2.ps.c1;have fp2:=S2.ps.fr 1;have tj:=S2.ps.len;have Pt:(n2:Int)<=10000:=ab;have Pu:(0:Int)<=n2:=ab;have S3:=S2.TT e2 rfl;have h63:(W.setCell ⟨C.p,1,none⟩ (iV ((n2:Int)+1))).heap[g3]?=_:=(ll _ _ _ _ CV).trans gJ;obtain⟨b0,b1,b2,b3,-⟩:=cc (W:=(W.setCell ⟨C.p,1,none⟩ (iV ((n2:Int)+1)))) (b:=w) S3.box;have f0:∀j,((W.setCell ⟨C.p,1,none⟩ (iV ((n2:Int)+1)))).frozen? ⟨w,j,none⟩=false:=al S3.box;obtain⟨cc0,cc1,-⟩:=cc (W:=(W.setCell ⟨C.p,1,none⟩ (iV ((n2:Int)+1)))) (b:=g3) h63;have gg0:∀j,((W.setCell ⟨C.p,1,none⟩ (iV ((n2:Int)+1)))).frozen? ⟨g3,j,none⟩=false:=al h63;replace S3:=ah S3;clear gJ h63 e2 tj c0 c1 q1 q2 q3 q4;go_wp2;refine bG (v:=.agg #[iV 1,eS,(num t.t),nS]) fU rfl ?_;exact CW):=h
def CX(h:P:=by
 have qY:OwnR w.heap.size w w2 9 1 (sV a7 acc.length gy) acc:=
  hO.kept K2 cC cT
 revert P2 qY;refine ct ?_;intro P2 qY;replace K2:=ah (lH.trans' K2);go_wp2;go_ret;rw[lp]
 first|rw[aN.out]|rw[show zT x=[T.str x] from rfl,aN.out]|(have hr':=aN.out;dsimp only[id_eq] at hr'|-;rw[hr'])
 exact tQ):=h
def Nb(h:P:=by
 have:∀l:List Nat,(∀x∈l,x < 12)->((l.map (tL prog)).flatMap (· ++[10])).length<=l.length*4001:=by
  intro l;induction l with
  |nil=>simp
  |cons x l ih=>intro hx;have h1:=ih λy hy=>hx y (eC _ hy);have h2:=Nc (hx x ai);simp only[lp,rz,j0,dC,mc];omega
 have h1:=this ((List.range i).filter λk=>decide (eN.getD k []∈A)) λx hx=>by
  have:=BZ.1 (Uc.1 hx).1;omega
 have h2:((List.range i).filter λk=>decide (eN.getD k []∈A)).length<=i:=by have:=Qs (λk=>decide (eN.getD k []∈A)) (List.range i);simpa using this
 have h3:((List.range i).filter λk=>decide (eN.getD k []∈A)).length*4001<=12*4001:=Zk _ ab;omega):=h
def CY(h:P:=by
 have hK:=((((Kept.refl aK w).alloc (cO #[iV k1,.string (bs n1),iV m1,sV a1 l1 c1] 181)).alloc (cO #[iV k2,.string (bs n2),iV m2,sV a2 l2 c2] 181)).alloc (cO #[iV 7,.string (bs op),iV 0,sV (some ⟨w.heap.size+1+1+1,0,none⟩) 2 2] 181)).alloc
  (cO #[k1,n1,m1,sV a1 l1 c1,k2,n2,m2,sV a2 l2 c2] 181)
 refine⟨⟨_,rfl,7,op,0,_,_,_,_,rfl,rfl,?_⟩,hK⟩;have e1:=(H1.kept hK (λ_ _ _ e=>e)).mono (S':=λb=>S b∨w.heap.size<=b) λb hb _=>.inl hb;have e2:=(H2.kept hK (λ_ _ _ e=>e)).mono (S':=λb=>S b∨w.heap.size<=b) λb hb _=>.inl hb;refine aW (E:=181) (fr:=(0,0)) (wd:=4) (css:=[[k1,n1,m1,sV a1 l1 c1],[k2,n2,m2,sV a2 l2 c2]]) (arr:=#[k1,n1,m1,sV a1 l1 c1,k2,n2,m2,sV a2 l2 c2]) ?_ rfl ?_ (.inr ab) (aM _) cP
 .exact pg
 .exact .cons ⟨rfl,.cons (.int _) (.cons (.str _) (.cons (.int _) (.cons e1 .nil)))⟩ (.cons ⟨rfl,.cons (.int _) (.cons (.str _) (.cons (.int _) (.cons e2 .nil)))⟩ .nil)):=h
def cQ(h:P:=by go_wp2;go_ret;exact⟨rfl,rfl⟩):=h
def CZ(h:P:=by
 go_wp2;go_roundg (gk - 1)
 case measure=>omega
 case rel=>exact⟨k+1,rfl,by omega,rfl,by
  intro d hd;rw[Ad,hc] at hd;rcases oU.1 hd with h|h
  .exact tR d h
  .simp at h;rw[h];exact hp⟩):=h
def Nd(h:P:=by have hq:an (oW w w2) (w2.alloc (cO #[iV 2,nm,sV ca cl.length cc,nS,oZ,eS,nS,false,false,nS,nS,nS,nS,nS,false] 149)) (.sl (strs cl)) (sV ca cl.length cc):=Zr.keep (λb hb hl=>⟨by omega,by omega⟩) ai (λb _ hl=>jm _ _ _ hl);exact .cons (.int _) (.cons (.str _) (.cons hq (.cons .nil (.cons (.int _) (.cons (.str []) (.cons .nil (.cons (.bool _) (.cons (.bool _) (.cons .nil (.cons .nil (.cons .nil (.cons .nil (.cons .nil (.cons (.bool _) .nil))))))))))))))):=h
def Nf(h:P:=by refine C0 ?_;intro bC bX ak K hK g6 jQ oO;refine dh (λV=>V.heap[w1.heap.size]?=some (cO #[iV (aZ l).k,(bs (aZ l).t),x1,y1] 187)/\Sg C w l V/\V.heap[g6]?=some (.cells #[k,eS,n,nS] 181 (0,0))) ⟨ak.1,ak.2,by rw[jQ];exact ao⟩ ?_;exact C1):=h
def C2(h:P:=by
 have hl7:g7=ge∨V.heap.size<=g7:=by have:=nE g7 rfl;have:=KW.size;omega
 refine hK _ _ ⟨L3.x1,L3.x2,L3.s⟩ (λak=>?_);refine sp ?_;refine tkT 9 ?_;refine tkT 10 ?_;refine ddT 11 λK hK=>?_;go_simp;refine hK _ _ ?_;refine sp ?_;refine dnT ?_;go_wp2;go_end0;refine⟨rfl,_,_,LS.step ((((au g7 4 _).trans' (au g7 5 _)).trans' (au g7 6 _)).trans' (au g7 7 _)) (λb e _=>by have:=de.out;omega),hOY.rC (λb hb _=>hb) Aq,?_⟩;exact KF.trans ((((au g7 4 _).trans' (au g7 5 _)).trans' (au g7 6 _)).trans' (au g7 7 _)) (λb hb e=>hl7.elim (λh=>Or.inr (Or.inr (e.trans h))) (λh=>by omega))):=h
def axK(h:P:=by
 rintro e w4 ⟨rfl,K4⟩;obtain⟨hJ5,hn5,jV⟩:=hfr.out _ K4;revert hn5 jV;refine ct ?_;intro hn5 jV;obtain⟨fn,tmps,assign,body,hy,hR⟩:=hY _ (bs axu) _ hJ5 asO;gi_wp2;refine hR.mono ?_;rintro e W3 (⟨rfl,hJ6,hk6,hk7⟩|⟨rfl,aw2⟩)
 .exact atc
 .exact atd):=h
def dI(h:P:=by (intro V hSw;obtain⟨s1,s2,s3,s4,s5,s6⟩:=hSw;go_simp);with_reducible rfl):=h
def tS(h:P:=by
 .intro k j row t hk hj;obtain⟨cs,e1,e2,e3⟩:=aL k row hk;have QB:=(dk.1 hj).1;have sQ:j < cs.length:=by rw[<-e3.1];exact QB
  rw[rA,qH mu k j ab,e1];simp only[Ae];have:cs[j]?=some cs[j]:=ck sQ;rw[this];exact e3.2 j t _ hj this):=h
def JT(h:P:=by
 intro k j row t hk hj;obtain⟨cs,e1,e2,e3⟩:=aL k row hk;have QB:=(dk.1 hj).1;have hf:css.flatten[k*wd+j]?=some (cs.getD j undef):=by exact JU
 have ph:k*wd+j < rows.length*wd:=by have Am:=(dk.1 hk).1;have:(k+1)*wd<=rows.length*wd:=Zk _ Am;rw[Ud] at this;omega
 rw[fi,cell_of_row w g _ cur E (0,0) WC];have h8:=hf;rw[<-h7,B3,aI ph] at h8;rw[rA,hf];simpa using h8):=h
def C4(h:P:=by
 have hf:List.filter (λk=>decide (eN.getD k []∈A)) [i]=if eN.getD i []∈A then[i] else[]:=by
  by_cases h:eN.getD i []∈A
  .rw[aI h];exact List.filter_cons_of_pos (p:=λk=>decide (eN.getD k []∈A)) (B4 h)
  .rw[aE h];exact List.filter_cons_of_neg (p:=λk=>decide (eN.getD k []∈A)) (by rw[B5 h];simp)
 unfold mF QC;by_cases h:eN.getD i []∈A
 .rw[aI h,hf,aI h,MM,Qt,lp,xK,rz,aus,gp]
 .rw[aE h,hf,aE h,gp]):=h
def RE(h:P:=by replace hK:=ah hK;exact mE):=h
def xX(h:P:=by have e3:=hI.2 3 _ rfl (hn 3 af);have e7:=hI.2 7 _ rfl (hn 7 af);go_simp;refine bD (ih _ _ V _ _ _ nw (ri.kept (hK.trans' hI.1) λ_ _ _ e=>e) (nF.kept (hK.trans' hI.1) λ_ _ _ e=>e)) λwA KA=>?_;dsimp only;exact j8 _ _ _ ⟨hI.1.trans' KA,hI.2.yes 8⟩ tT):=h
def mG(h:P:=by replace hc:=ah hc;go_enter func288,ntmps288;exact tU):=h
def C5(h:P:=by have e2:=hI.2 2 _ rfl (hn 2 af);go_simp;have SC:=hI.1.1 hl;refine(ihE C _ _ _ _ SC.ps h5 hy).mono ?_;rintro e wA ⟨⟨v,rfl,yk,yn,ym,ys,ya,yl,yc,rfl,rfl,hv⟩,P,K⟩;dsimp only;exact hK _ _ _ ⟨⟨λe=>bM,λ_ _=>⟨_,_,_,_,_,_,_,rfl,rfl,SC.IM P K hv⟩,λe=>tV,λe=>iM,λe=>kh⟩,hI.2.no 3⟩ ki):=h
def tU(h:P:=by
 go_wp2
 first|go_ret|(refine bG (rB rfl _ _ _) rfl ?_)
 exact⟨_,rfl,hc,(Kept.refl _ _).alloc _⟩):=h
def pe(h:P:=by
 go_wp2_with fail;go_roundg (gk - 1)
 case measure=>omega
 case rel=>exact⟨j+1,rfl,by omega,hKX⟩):=h
def C6(h:P:=by have qY:=hO.kept K1 ed nQ;replace qY:=ah qY;go_wp2;go_ret;rw[aN.out];exact⟨⟨_,_,rfl,qY.rC (λ_ h _=>h) (λ_ h _=>h),qY.lens⟩,S1.ps,S1.kp⟩):=h
def JV(h:P:=by have e1:=hI.2 1 _ rfl (hn 1 af);obtain⟨a,e4,hy4,SC⟩:=hI.1.2.2.1 (hn 4 af) hl;refine Zs (.tmp 75) (.tmp 78) SC af ai (rows2:=[y]) (by simpa using hy4) (SC.data 0) (hs:=e1) (hz:=e4) ?_;intro a2 c2 w' SD;exact hK _ _ _ ⟨⟨λe=>iN,λ_ e=>gL,λ_ e=>bM,λ_ _=>⟨_,_,rfl,SD.Uk⟩,λe=>kh⟩,hI.2.no 5⟩ rfl):=h
def JX(h:P:=by obtain⟨yk,yn,ym,ys,ya,yl,yc,e3,hyr,SC⟩:=hI.1.2.1 (hn 3 af) hl;go_simp;exact hK _ _ _ ⟨⟨λe=>iN,λ_ e=>bM,λ_ _=>⟨some ⟨V,0,none⟩,rfl,by rw[hyr];rfl,by rw[hyr];exact(SC.lay (T:=181) (cs:=[yk,yn,ym,sV ya yl yc]) (.cons (.int _) (.cons (.str _) (.cons (.int _) (.cons (SC.data 0) .nil))))).apx⟩,λe=>iM,λe=>kh⟩,hI.2.no 4⟩ rD):=h
def mE(h:P:=by go_wp2_with fail;go_ret;exact⟨rfl,hK⟩):=h
def C8(h:P:=by have kk:∀t v,_->an (λb=>w.heap.size<=b/\Value.ownBlock (.slice a7 acc.length gy)≠some b) V t v:=λt v hh=>((HV3 t v hh).kept kV (λ_ _ _ e=>e)).mono (λb hb _=>⟨by have:=SS.le;have:=xY.out;omega,λe=>by have:=(hO.lt b e).2;have:=xY.out;omega⟩);exact .cons (.int _) (.cons (.str _) (.cons (.int _) (.cons (kk _ _ (.inl ⟨rfl,rfl⟩)) (.cons (kk _ _ (.inr (.inl ⟨rfl,rfl⟩))) (.cons (kk _ _ (.inr (.inr (.inl ⟨rfl,rfl⟩)))) (.cons (kk _ _ (.inr (.inr (.inr (.inl ⟨rfl,rfl⟩))))) (.cons (kk _ _ (.inr (.inr (.inr (.inr ⟨rfl,rfl⟩))))) .nil)))))))):=h
def xZ(h:P:=by
 revert P2 qY;refine ct ?_;intro P2 qY;replace K2:=ah (lH.trans' K2);go_wp2;go_ret;rw[lp]
 first|rw[aN.out]|(have hr':=aN.out;dsimp only[id_eq] at hr'|-;rw[hr'])
 exact tQ):=h
def C9(h:P:=by
 cases x2
 .go_wp2_with fail;refine(Zu _ _).mono ?_;rintro e w6 ⟨rfl,rfl⟩;rw[M6.out];exact JY
 .exact JY):=h
def pk(h:P:=by have e4:=hI.2 4 _ rfl (hn 4 af);have e5:=hI.2 5 _ rfl (hn 5 af);go_simp;exact j8 _ _ _ ⟨hI.1,hI.2.yes 6⟩ (by rw[e4,e5];try rfl)):=h
def tM(h:P:=by have e5:=hI.2 5 _ rfl (hn 5 af);have e6:=hI.2 6 _ rfl (hn 6 af);go_simp;exact j8 _ _ _ ⟨hI.1,hI.2.yes 7⟩ yd):=h
def mH(h:P:=by go_simp;exact hK _ _ _ ⟨hI.1,hI.2.yes 1⟩ mI):=h
def mB(h:P:=by go_simp;exact j8 _ _ _ ⟨hI.1,hI.2.yes 9⟩ om):=h
def kj(h:P:=by go_simp;exact j8 _ _ _ ⟨hI.1,hI.2.yes 3⟩ ki):=h
def kl(h:P:=by
 go_wp2_with fail;go_meet
 case rel=>exact⟨none,0,SN⟩):=h
def Da(h:P:=by refine Db ?_;intro bC bX cU dz w1 x1 y1 P1 K1 S1 gJ iC;go_wp2;go_ret;exact⟨rfl,S1.ps,S1.kp⟩):=h
def mD(h:P:=by replace hr:=ah hr;exact Dd):=h
def fV(h:P:=by go_simp;exact hK _ _ _ ⟨hI.1,hI.2.yes 0⟩ rfl):=h
def eV(h:P:=by go_simp;exact j8 _ _ _ ⟨hI.1,hI.2.yes 0⟩ rfl):=h
def Dd(h:P:=by go_wp2;go_ret;exact⟨by rw[hr.out];rfl,rfl⟩):=h
def Df(h:P:=by
 obtain⟨s',hs'⟩:∃s',fs[j]?=some s':=⟨fs[j]'(by simpa using hj),ck bO⟩
 have hr:=LZ j s' hs';have hwd:1=wd:=hw _ (cm hr);have h1:=hc j 0 _ (.str s') hr rfl;have h2:=hv j 0 _ (.str s') hr rfl;generalize hcj:c j 0=u at h1 h2
 cases h2;rw[<-hwd,B6,fS] at h1;rw[h1];simp[List.getD,hs']):=h
def Dg(h:P:=by
 rintro e w3 ⟨rfl,rfl⟩
 cases h3:iD n
 .have hr:cB n=(n==95):=by rw[hd,h1,h2,h3];simp
  have hi:((n:Int)==95)=(n==95):=br;go_wp2;go_ret;refine⟨?_,rfl⟩;rw[hr];rfl
 .have hr:cB n=true:=by rw[hd,h3];simp
  exact tW):=h
def Dh(h:P:=by
 split at h
 .cases h
 .split at h
  .cases h
  .split at h
   .cases h
   .split at h
    .cases h
    .split at h<;>cases h):=h
def fJ(h:P:=by go_simp;exact j8 _ _ _ ⟨hI.1,hI.2.yes 1⟩ rfl):=h
def Di(h:P:=by have e4:=hI.2 4 _ rfl (hn 4 af);have e9:=hI.2 9 _ rfl (hn 9 af);go_simp;refine bD (ih _ _ V _ _ _ nw (ri.tail.kept (hK.trans' hI.1) λ_ _ _ e=>e) (nF.tail.kept (hK.trans' hI.1) λ_ _ _ e=>e)) λwA KA=>?_;dsimp only;exact j8 _ _ _ ⟨hI.1.trans' KA,hI.2.yes 10⟩ (by rw[e4,e9];try rfl)):=h
def ye(h:P:=by rw[e5];simpa only[dB] using ik):=h
def yf(h:P:=by rw[e4];simpa only[dB] using jG):=h
def JZ(h:P:=by
 refine⟨⟨lv,by rw[heap_setCell_same _ _ _ _ hm];rfl,ho.setCell (λe=>by have:=h.Zv _ e;simp at this;omega) _⟩,h.Zv,?_,?_,(QD _ ab).trans h.box,λj v hj=>(QD _ ab).trans (h.qs j v hj),by simpa[World.setCell] using hs⟩
 .unfold dG;rw[QD _ ab];exact h.D
 .obtain⟨es,c,hh,r⟩:=h.K;exact⟨es,c,(QD n ab).trans hh,r⟩):=h
def gK(h:P:=by go_simp;exact j8 _ _ _ ⟨hI.1,hI.2.yes 5⟩ rfl):=h
def J0(h:P:=by exact JP):=h
def Dj(h:P:=by
 cases e3:lb 3 with
 |false=>exact(hI.1.1 e3).cell 0 3
 |true=>
  cases e4:lb 4 with
  |false=>obtain⟨_,_,_,_,_,_,_,_,_,hs⟩:=hI.1.2.1 e3 e4;exact hs.cell 0 3
  |true=>obtain⟨_,_,_,hs⟩:=hI.1.2.2.1 e4 (hf 5 af);exact hs.cell 0 3):=h
def Dk(h:P:=by revert K hK;refine j9 ?_;go_wp2;refine bG (v:=.agg #[iV 7,t.t,oZ,sV za zl zc]) yg rfl ?_;exact S5.fin (B:=w.heap.size+1) (asl.mono λb hb _=>hb.1) (j4 _) 7 t.t 0):=h
def Dm(h:P:=by exact Cx):=h
def yh(h:P:=by refine OwnR.Ry (arr:=#[xk,xn,xm,sV xa xl xc]) Pv rfl rfl (aM _) ?_;exact .cons (.int _) (.cons (.str _) (.cons (.int _) (.cons (hkW.mono λb hb _=>⟨hb.1,hb.2⟩) .nil)))):=h
def po(h:P:=by
 .have jS:¬((j:Int) < (l.length:Int)):=by omega
  have H':=ah (H.cast (by rw[oh ab]));go_wp2;go_end0;exact⟨rfl,H'⟩):=h
def rE(h:P:=by have e1:=hI.2 1 _ rfl (hn 1 af);go_simp;exact hK _ _ _ ⟨hI.1,hI.2.yes 2⟩ tX):=h
def ud(h:P:=by exact ata):=h
def ue(h:P:=by have e4:=hI.2 4 _ rfl (hn 4 af);go_simp;exact hK _ _ _ ⟨hI.1,hI.2.yes 5⟩ (by rw[e4];try rfl)):=h
def Xk(h:P:=by have IN:=(hv6.kept kV (λ_ _ _ e=>e)).mono (S':=λb=>w.heap.size<=b/\Value.ownBlock (sV a7 acc.length gy)≠some b) Dn;exact .cons (.str _) (.cons (.int _) (.cons (.str _) (.cons (.int _) (.cons IN .nil))))):=h
def Dp(h:P:=by subst WD;have z0:=aC ey 0;have z1:=aC ey 1;have y0:=al ey;go_wp2;refine bG (v:=.agg #[iV 3,oZ]) yi rfl ?_;exact⟨rfl,dZ.trans ((au bz 0 (iV 3)).trans' (au bz 1 (iV 0))) fW⟩):=h
def tY(h:P:=by go_simp;exact j8 _ _ _ ⟨hI.1,hI.2.yes 8⟩ (by rw[e7];try rfl)):=h
def Du(h:P:=by go_simp;exact hK _ _ _ ⟨hI.1,hI.2.yes 6⟩ uk):=h
def Dq(h:P:=by
 rw[hi,aE ai] at hx
 cases hx;refine bY (Ar G.ps s hi hb hs) λw' P1 K1=>?_;refine⟨rfl,none,0,?_,.nil,by simp,K1.mono (λb e=>Or.inl e)⟩;have h2:cs.setIfInBounds j (.slice none ([]:Zg).length 0)=cs:=ac9 hc;rw[h2];exact G.aB P1 K1):=h
def ate(h:P:=by
 unfold auX;split
 .rw[Af];exact cn (Qs _ _) ai
 .exact dE _):=h
def tZ(h:P:=by simp only[Zl,JG,Zm,abk,j0,Af,sK,dC,mc];omega):=h
def iP(h:P:=by go_simp;exact j8 _ _ _ ⟨hI.1,hI.2.yes 4⟩ rfl):=h
def J1(h:P:=by have hr:=ah (show B=true by rw[jq];rfl);clear jq;go_enter func253,ntmps253;go_wp2_with fail;refine Ba.mono ?_;rintro e w1 ⟨rfl,K1⟩;replace K1:=ah K1;go_wp2_with fail;go_ret;exact⟨by rw[hr.out];rfl,K1⟩):=h
def RH(h:P:=by have IN:=hv.kept (w':=V) (F:=aK) pr (λ_ _ _ e=>e);refine .cons (.int _) (.cons (.str _) (.cons (.int _) (.cons (IN.mono λb hb _=>⟨by omega,λe=>?_⟩) .nil)));have:=(hO.lt b e).2;omega):=h
def atf(h:P:=by
 by_cases e:cls=tx "STACK"
 .rw[aI e,<-avB,e];rfl
 .rw[aE e,<-avB,gH.2 e];rfl):=h
def atg(h:P:=by
 have hr4:Hid (R=if(l.drop (k+1)).all (axL nm) then 0 else 1):=avF.out;go_wp2_with fail;go_roundg (gk - 1)
 case measure=>omega
 case rel=>exact⟨k+1,by simp,by omega,hr4,yu⟩):=h
def ub(h:P:=by exact(h.ow i o hi).kept hk (λb hb hl e=>by have:=hF b e hl;omega) λb hb e=>by have:=(h.ow i o hi).lt b hb;have:=hF b e this.2;omega):=h
def J2(h:P:=by
 go_enter func59,ntmps59;go_wp2;go_loopg [5] 0 (λ_ s5 wr=>s5=I 0/\wr=w)
 case atStart=>exact⟨rfl,rfl⟩
 case round=>obtain⟨rfl,rfl⟩:=hrel;go_wp2;go_ret;exact⟨rfl,0,rfl⟩):=h
def pd(h:P:=by go_simp;exact j8 _ _ _ ⟨hI.1,hI.2.yes 4⟩ rD):=h
def RI(h:P:=by have IN:=hv.kept (w':=V) (F:=aK) pr (λ_ _ _ e=>e);exact .cons (.int _) (.cons (.str _) (.cons (IN.mono λb hb _=>⟨by omega,λe=>by have:=(hO.lt b e).2;omega⟩) (.cons (.bool _) (.cons (.bool _) .nil))))):=h
def uh(h:P:=by go_simp;exact hK _ _ _ ⟨hI.1,hI.2.yes 10⟩ (by rw[e9];try rfl)):=h
def mK(h:P:=by go_simp;exact j8 _ _ _ ⟨hI.1,hI.2.yes 7⟩ pt):=h
def iQ(h:P:=by cases hp;exact Zw (λh=>by omega)):=h
def yj(h:P:=by rename_i hh;simp only[aO,dD,dU] at hh;simp only[aO,hh.2];simp;intro _;decide):=h
def pv(h:P:=by go_simp;exact hK _ _ _ ⟨hI.1,hI.2.yes 3⟩ ki):=h
def Ds(h:P:=by have r3:v'.ownBlock=Value.ownBlock (.slice (some ⟨g,0,none⟩) rows.length cap)∨∀b,v'.ownBlock=some b->w.heap.size<=b:=.inl (by rw[hv];rfl);obtain⟨f1,f2⟩:=fin v' w' r1 r2 r3;exact uc):=h
def J3(h:P:=by
 rw[etk.out] at ht;rcases oU.1 ht with h|h
 .exact mu t h
 .rw[JH.1 h];exact lQ):=h
def ath(h:P:=by have h4':(40:Int) < (KL:Int):=ab;go_wp2_with fail;go_ret;refine⟨?_,gu⟩;rw[<-hR.out];unfold axz;rw[aI lQ.out,aE cR.out,aI (by rw[sc.out];exact h4)];rfl):=h
def tW(h:P:=by go_wp2;go_ret;exact⟨by rw[hr];rfl,rfl⟩):=h
def aub(h:P:=by
 obtain⟨c0,_,rfl,v0,r0⟩:=hR.aG;obtain⟨c1,_,rfl,v1,r1⟩:=r0.aG;obtain⟨c2,_,rfl,v2,r2⟩:=r1.aG
 cases r2.jO;cases v0.bq;cases v1;cases v2;exact⟨g,off,eg,hc 0 _ rfl,hc 1 _ rfl,hc 2 _ rfl⟩):=h
def rF(h:P:=by exact .cons ⟨rfl,.cons (.int _) (.cons (.str _) (.cons (.int _) (.cons h1 .nil)))⟩ .nil):=h
def uf(h:P:=by intro row hr;obtain⟨k,hk⟩:=JI hr;obtain⟨cs,_,e2,_⟩:=aL k row hk;exact e2):=h
def ati(h:P:=by
 have zv:=hI.2 10 _ rfl (hl 10 aj);obtain⟨⟨hK,-⟩,-⟩:=hI;go_wp2_with fail
 first|go_ret|(refine bG (rB rfl _ _ _) rfl ?_)
 exact⟨gq Ending.returned zv,hK⟩):=h
def Dx(h:P:=by rw[hW];refine OwnR.Ry (arr:=#[x]) ao rfl rfl rG ?_;exact .cons (.str _) .nil):=h
def oq(h:P:=by go_simp;exact hK _ _ _ ⟨hI.1,hI.2.yes 2⟩ rfl):=h
def ug(h:P:=by
 rename_i e
 cases h;simp only[j5,dU] at e;all_goals (subst e;exact⟨_,rfl⟩)):=h
def pz(h:P:=by have:=dV.1 (dV.1 this s hs) c hc;simpa using this):=h
def DB(h:P:=by
 match k,hk with
 |0,_=>rfl
 |1,_=>rfl
 |2,_=>rfl
 |3,_=>rfl
 |4,_=>rfl
 |5,_=>rfl
 |6,_=>rfl
 |7,_=>rfl
 |8,_=>rfl
 |9,_=>rfl
 |10,_=>rfl
 |11,_=>rfl):=h
def DD(h:P:=by have hk:Kept (ch C) V (V.setCell ⟨C.p,1,none⟩ (iV v)):=(Kept.refl _ V).setCell (p:=⟨C.p,1,none⟩) (λ_=>show ch C C.p from rfl) _;exact h.aB (h.ps.TT (by rw[hv];simp at hn;omega)) hk):=h
def DE(h:P:=by
 go_wp2_with fail;go_roundg f
 case measure=>omega
 case rel=>exact oV):=h
def J4(h:P:=by
 .gi_wp2;refine bG (results_none rfl _ _ _) rfl ?_;exact⟨⟨_,rfl⟩,.inr ⟨_,⟨Um,by rw[hpr.out,hrm.out];simp⟩,abl⟩⟩):=h
def J5(h:P:=by have e3:=hI.2 3 _ rfl (hn 3 af);have e7:=hI.2 7 _ rfl (hn 7 af);go_simp;exact j8 _ _ _ ⟨hI.1,hI.2.yes 8⟩ tT):=h
def asP(h:P:=by go_wp2_with fail;refine S4.one λw5 S5=>?_;go_wp2_with fail;go_end0;exact S5.fin):=h
def mL(h:P:=by go_wp2;go_end0;exact⟨rfl,a,c,S2,jo,hlen,K2⟩):=h
def ui(h:P:=by
 induction fs with
 |nil=>exact .nil
 |cons s fs ih=>exact .cons ⟨rfl,.cons (.str s) .nil⟩ ih):=h
def ko(h:P:=by have:=(dk.1 hj).1;omega):=h
def pB(h:P:=by exact⟨rfl,(Kept.refl aK w).alloc _⟩):=h
def auc(h:P:=by obtain⟨s,hs,eK⟩:=h2;unfold auX clE;rw[aE (λe=>eK (e.2 s hs)),aE ab,aE (λe=>eK (e s hs))];exact⟨none,0,rfl,asL.nil _ _,hk⟩):=h
def yp(h:P:=by
 congr 1
 funext ⟨x,r⟩
 simp only;split
 .rw[ih]
 .rfl):=h
def yq(h:P:=by go_enter func220,ntmps220;go_wp2;go_ret;exact⟨by simp[I],rfl⟩):=h
def J6(h:P:=by
 replace fq:=ah (fq.trans' KK);go_wp2_with fail;go_roundg (gk - 1)
 case measure=>omega
 case rel=>exact⟨j+1,rfl,by omega,fq⟩):=h
def auu(h:P:=by rw[MN aiu,j6 ((ck aiu).symm.trans hz)]):=h
def J7(h:P:=by
 intro b hb bQ;refine⟨hb.1,λe=>?_⟩;rcases g3 with g3|g3
 .exact hb.2 (g3▸e)
 .have:=g3 b e;omega):=h
def Nk(h:P:=by have h7:(if cB c=true then fD (c::(r++t)) else fE (c::(r++t)))=c::r:=h4;simp only[h7,h3];rw[show(c::(r++t)).drop (c::r).length=t by simp];rfl):=h
def DG(h:P:=by clear abm hb hsm QE BK xe h37 h5c hl;go_wp2;refine bG (B8 rfl _ _ _) rfl ?_;exact⟨rfl,(K2.alloc _).alloc _⟩):=h
def J8(h:P:=by
 rcases hr.2 with⟨rfl,_⟩|⟨g,cap,cur,rfl,h,_⟩
 .simp[Value.ownBlock] at e
 .obtain rfl:g=k:=by simpa[Value.ownBlock] using e
  exact h):=h
def pA(h:P:=by go_wp2;go_ret;exact⟨by rw[h1,h2];rfl,rfl⟩):=h
def uj(h:P:=by
 .exact(h.dt d hd).kept hk λb hb hl e=>by have:=hF b e hl;have:=hb.1;omega):=h
def atj(h:P:=by exact⟨j,hj,by rw[rA,ck hj,e];rfl⟩):=h
def J9(h:P:=by dsimp only;exact j8 _ _ _ ⟨⟨hI.1.1.trans' KA,hI.1.2.1.trans' KA,aJ hI.1.2.2.1 KA,hI.1.2.2.2⟩,hI.2.yes 9⟩ om):=h
def DI(h:P:=by dsimp only;exact j8 _ _ _ ⟨⟨hI.1.1.trans' KA,hI.1.2.1.trans' KA,aJ hI.1.2.2.1 KA,hI.1.2.2.2⟩,hI.2.yes 6⟩ uk):=h
def QF(h:P:=by dsimp only;exact j8 _ _ _ ⟨⟨hI.1.1.trans' KA,hI.1.2.1.trans' KA,aJ hI.1.2.2.1 KA,hI.1.2.2.2⟩,hI.2.yes 3⟩ ki):=h
def tK(h:P:=by go_simp;exact j8 _ _ _ ⟨hI.1,hI.2.yes 6⟩ rfl):=h
def asM(h:P:=by
 .rw[JH.1 hw];decide+kernel):=h
def Ka(h:P:=by obtain⟨f1,f2⟩:=fin v' w' r1' ⟨r2.os,r2.tape,r2.output,r2.size,λk hk _=>r2.block k hk ai⟩ r3;exact uc):=h
def um(h:P:=by rw[hW];simp only[heap_alloc,dB];repeat (first|rfl|omega|split)):=h
def Un(h:P:=by intro k row hk;obtain⟨cs,e1,e2,e3⟩:=ot h1 k row hk;exact⟨cs,e1,e3.1.trans e2,e3.mono λb hb hl=>hS b hb.1 hl⟩):=h
def atk(h:P:=by generalize x.1=s;simp only[I5,qF,rz,aus,gp];kernel_rfl):=h
def DJ(h:P:=by
 rcases hk.out with h|h
 .exact h.2
 .have:=h.1;rw[hka.out,h37,h5c] at this;cases this):=h
def RJ(h:P:=by
 rcases hk.out with h|h
 .have:=h.1;rw[hka.out,h37,h5c] at this;cases this
 .exact h.2):=h
def uo(h:P:=by go_simp;exact j8 _ _ _ ⟨hI.1,hI.2.yes 5⟩ (by rw[e4];try rfl)):=h
def Bb(h:P:=by go_simp;exact j8 _ _ _ ⟨hI.1,hI.2.yes 2⟩ tX):=h
def atl(h:P:=by rw[kB.out];exact((hv.mono λb hb _=>(by simpa using hb:w.heap.size+1<=b)).kept WD λb hb _ e=>by omega).mono λb hb _=>by omega):=h
def atm(h:P:=by simp only[at8,cZ,as5,as6] at hc;rcases hc with rfl|rfl|rfl|rfl|rfl|rfl|rfl|rfl|rfl<;>decide+kernel):=h
def DK(h:P:=by rw[MN hk] at h;obtain⟨d,hd,h2⟩:=aw.1 h;exact⟨_,d,ck hk,hd,h2⟩):=h
def Kb(h:P:=by go_wp2_with fail;refine hp.mono ?_;rintro e w1 ⟨rfl,hK⟩;replace hK:=ah hK;go_wp2;go_ret;exact⟨rfl,hK⟩):=h
def uq(h:P:=by go_simp;exact j8 _ _ _ ⟨hI.1,hI.2.yes 1⟩ mI):=h
def atn(h:P:=by go_simp;exact hK _ _ _ ⟨hI.1,hI.2.yes 8⟩ (by rw[e7];try rfl)):=h
def DM(h:P:=by
 rcases hk.out with h|h
 .exact h.2
 .have:=h.1;rw[hka.out,h37] at this;cases this):=h
def Kd(h:P:=by rw[eF] at h;obtain⟨rest,h2,h3⟩:=Ue.1 h;exact⟨tt,kk,rest,RN,eF,h2,h3.symm⟩):=h
def asY(h:P:=by
 go_wp2_with fail;go_meet
 case rel=>exact⟨rfl,rfl⟩):=h
def ato(h:P:=by go_wp2_with fail;refine(c1.out _).mono ?_;rintro e w1 ⟨rfl,K1⟩;exact asQ):=h
def aud(h:P:=by
 go_wp2_with fail;go_meet
 case rel=>exact⟨_,_,rfl,dS [cls] hb (aM _) ai,hk⟩):=h
def DN(h:P:=by rintro e w1 ⟨rfl,P1,K1⟩;revert P1 K1;refine ct ?_;intro P1 K1;go_wp2;exact DO):=h
def Ke(h:P:=by go_wp2;go_ret;exact⟨by first|rfl|(rw[hru,sK,MO ab];rfl),rfl⟩):=h
def DP(h:P:=by replace jy:=ah jy;go_wp2;go_ret;exact⟨by rw[hb.out,jy.out];rfl,S3.ps,S3.kp⟩):=h
def ur(h:P:=by go_simp;exact hK _ _ _ ⟨hI.1,hI.2.yes 6⟩ rfl):=h
def DQ(h:P:=by have:=abn.out;rw[<-Nl.out,<-hd.out,List.drop_drop] at this;exact this):=h
def uu(h:P:=by go_simp;exact j8 _ _ _ ⟨hI.1,hI.2.yes 7⟩ rfl):=h
def ku(h:P:=by go_ret;exact .same hM I _):=h
def atp(h:P:=by rw[<-hR.out];unfold axz;rw[aI lQ.out,aE cR.out,aE (by rw[sc.out];exact h4)];rfl):=h
def Kf(h:P:=by unfold dG at hD;simp[Instr.lookup,B7 hT,JJ hD,run_checkKey hk,run_findKey hk,dq]):=h
def DR(h:P:=by exact⟨⟨(Kept.refl aK _).drew,hKq.drew,hbq,λ_=>gq (λa=>Act.eval a (.tmp 3)) hu⟩,VT.none rfl h0⟩):=h
def DT(h:P:=by have d1:=bc jy 0;have d2:=al jy 0;replace hW:=ah hW;go_wp2;go_end0;exact⟨rfl,hW⟩):=h
def Kg(h:P:=by rw[Af] at h;exact h.mono atq):=h
def atr(h:P:=by unfold auX clE;rw[aE lI,aI h];exact⟨none,0,rfl,asL.nil _ _,hk⟩):=h
def DV(h:P:=by go_wp2_with fail;refine bG (B8 rfl _ _ _) rfl ?_;exact⟨rfl,hK⟩):=h
def DW(h:P:=by replace K:=ah K;go_wp2;refine bG (B8 rfl _ _ _) rfl ?_;exact⟨rfl,K⟩):=h
def ats(h:P:=by rintro e w1 ⟨rfl,K⟩;go_wp2_with fail;go_ret;rw[hj.out];exact⟨rfl,K⟩):=h
def DY(h:P:=by obtain⟨f1,f2⟩:=fin v' w' (by simpa using r1') r2 r3;exact uc):=h
def DZ(h:P:=by intro j u hj;rw[MP,fi,aC ey];simpa using hj):=h
def D0(h:P:=by
 split at h
 .cases h
 .cases h;exact⟨_,_,rfl⟩):=h
def D1(h:P:=by subst hDt;go_wp2_with fail;go_ret;exact⟨by rw[hBR.out];rfl,K1⟩):=h
def D2(h:P:=by have h2:=ih (k:=k+1) ab ab;rw[h1,j0] at h2;omega):=h
def auY(h:P:=by rw[<-af0 t,cH hm (auZ ht)];exact gH.2 λe=>h (e▸ht)):=h
def au0(h:P:=by have:=VK (f+1) (n / 10);rw[tf,tf,abi];omega):=h
def D5(h:P:=by exact S2.fin (B:=w.heap.size+1) (oP.mono λb hb _=>hb.1) (j4 _) xk xn xm):=h
def D6(h:P:=by go_simp;exact j8 _ _ _ ⟨hI.1,hI.2.yes 0⟩ (by rw[ex];try rfl)):=h
def D7(h:P:=by rw[heap_alloc,aE aH,heap_alloc,aE ai,heap_alloc,aI rfl]):=h
def D8(h:P:=by exact .inl (j6 (show(some ge:Wr)=some b from hr.symm.trans e)).symm):=h
def D9(h:P:=by refine ou (jx.heap 0) ?_;exact jx.L4 (nm:=[]) (jx.new 0) .nil .nil .nil .nil):=h
def Ea(h:P:=by cases e2;exact⟨xs,by rw[aI hc];exact e1,rfl⟩):=h
def att(h:P:=by exact this.mono atq):=h
def atu(h:P:=by intro n h1 h2 w;rw[aaJ,aI ab];exact base n ab w):=h
def Ec(h:P:=by
 apply Uo
 intro x hx;simp[he] at hx;subst hx;rfl):=h
def Ed(h:P:=by go_simp;exact j8 _ _ _ ⟨hI.1,hI.2.yes 6⟩ uk):=h
def Ee(h:P:=by have:rows=[]:=JK h0;subst this;exact .nil):=h
def uw(h:P:=by simp[World.setCell,Zn,h]):=h
def Ef(h:P:=by exact⟨S6.drew.x1,S6.drew.x2⟩):=h
def Eg(h:P:=by exact⟨S1.drew.x1,S1.drew.x2⟩):=h
def Eh(h:P:=by go_simp;exact hK _ _ _ ⟨hI.1,hI.2.yes 7⟩ pt):=h
def Ei(h:P:=by simp only[heap_alloc,dB];repeat (first|rfl|omega|split)):=h
def atv(h:P:=by rw[tf];exact(by decide:∀t∈at8,t.length<=20) cls h9):=h
def atw(h:P:=by go_wp2_with fail;go_ret;exact⟨_,_,rfl,hO.cell,hK⟩):=h
def Ej(h:P:=by rw[List.find?_eq_none];intro y hy;rw[I7 y (by rw[Am];exact hy)];simp):=h
def atx(h:P:=by go_simp;exact hK _ _ _ ⟨hI.1,hI.2.yes 7⟩ rfl):=h
def ux(h:P:=by go_wp2;go_end0;exact⟨rfl,L5⟩):=h
def Ek(h:P:=by have:=g4 0 (iV y) rfl ab;simpa using this):=h
def El(h:P:=by revert P1 K1;refine ct ?_;intro P1 K1;go_wp2_with fail;go_ret;exact⟨rfl,P1,K1⟩):=h
def gM(h:P:=by
 conv=>lhs;unfold oX
 rfl):=h
def Em(h:P:=by
 skip
 exact .cons (.str _) .nil):=h
def En(h:P:=by rename_i hs;cases h;simp only[dU] at hs;subst hs;simp[opsL]):=h
def Eo(h:P:=by obtain⟨n,hn,_⟩:=aw.1 hd;exact zu hn):=h
def Ep(h:P:=by
 go_meet
 case rel=>exact⟨_,_,xv⟩):=h
def aty(h:P:=by go_simp;exact hK _ _ _ ⟨hI.1,hI.2.yes 5⟩ rfl):=h
def aue(h:P:=by simp only[dD,oM] at this;exact this):=h
def asR(h:P:=by exact⟨_,rfl,.nil,Kept.refl _ _⟩):=h
def asS(h:P:=by simp only[aaK,I5]):=h
def Et(h:P:=by go_simp;exact j8 _ _ _ ⟨hI.1,hI.2.yes 2⟩ rfl):=h
def Eu(h:P:=by go_simp;exact hK _ _ _ ⟨hI.1,hI.2.yes 4⟩ rfl):=h
def Ev(h:P:=by
 go_meet
 case rel=>exact⟨_,_,qo⟩):=h
def Ew(h:P:=by rw[<-Qu,hi] at this;simpa using this):=h
def atz(h:P:=by rw[aoY,e2] at this;exact this.mono λe w' h=>h.lex):=h
def Ex(h:P:=by rw[heap_alloc,aE ai,heap_alloc,aI ai]):=h
def Ey(h:P:=by
 .unfold dG;rw[heap_setBlock_same sT];simp):=h
def atA(h:P:=by have:=VK 20 (-n).toNat;rw[tf];omega):=h
def Kj(h:P:=by
 .rw[aE Py] at xB
  cases xB):=h
def Ez(h:P:=by go_wp2;go_ret;exact⟨by rw[h1];rfl,rfl⟩):=h
def EA(h:P:=by exact⟨[],by rw[aE hc];exact⟨rfl,rfl⟩,rfl⟩):=h
def asw(h:P:=by
 have l4:w.heap.size+1+1 < g4:=uB;have l5:w.heap.size+1+1 < g5:=uC;have l45:g4≠g5:=uD;refine dh (λV=>SB C w l Nn V/\V.heap[g4]?=some (.cells #[oZ,eS,oZ,oZ] 187)/\V.heap[g5]?=some (.cells #[oZ,eS,oZ,oZ] 187)) ⟨ak,?_,?_⟩ ?_
 .exact yf
 .exact ye
 rw[<-e5,<-e4];exact asz):=h
def asA(h:P:=by
 have l4:w.heap.size+1+1 < g4:=uB;have l5:w.heap.size+1+1 < g5:=uC;have l45:g4≠g5:=uD;refine dh (λV=>SB C w l Nn V/\V.heap[g4]?=some (.cells #[oZ,eS,oZ,oZ] 187)/\V.heap[g5]?=some (.cells #[oZ,eS,oZ,oZ] 187)) ⟨ak,?_,?_⟩ ?_
 .exact yf
 .exact ye
 rw[<-e4,<-e5];exact asz):=h
def Cu(h:P:=by
 have h3W:=(lE.block _ (aQ.1 ak).1 (λe=>rY _ e rfl)).trans ak;have S6:=S5.step lE (λb e _=>by have:=(hO.lt b e).1;have:=M7.out;omega);have hv6:an (λb=>w.heap.size < b/\b≠g3) W' (.sl _) (sV va _ vc):=iH.rC (λ_ h _=>h) (λb hb _=>by have:=M7.out;omega);obtain⟨sN,sO,tF,tG,-⟩:=cc (W:=W') (b:=g3) h3W;have sP:∀j,W'.frozen? ⟨g3,j,none⟩=false:=al h3W;have h3h:=ah h3W;revert S6 hv6;refine ct ?_;intro S6 hv6;refine hK _ _ (h3W) (λak=>?_);refine sp ?_;refine tkT 6 ?_;refine ddT 7 λK hK=>?_;go_simp;refine hK _ _ ?_;refine sp ?_;refine dnT ?_;have hrel:Hid (RP C w g3 F row r f (A7 W' g3 (iV 6) (.string (bs nm)) (iV 1) (sV va _ vc))):=
  ah ⟨f,r2,6,nm,1,_,_,_,_,S6.out.EB M7.out _ _ _ _,eI h3h.out _ _ _ _,hv6.out.kept (cG W' g3 _ _ _ _) (λb hb _ e=>hb.2 e),hm,by have:=gT.out;omega,aM _⟩
 exact EC):=h
def uE(h:P:=by
 go_wp2_with fail;refine(Up s hs ab i ab _).mono ?_;rintro e w2 ⟨rfl,K2⟩;replace K2:=ah K2;go_wp2_with fail;refine(No _ _).mono ?_;rintro e w3 ⟨rfl,rfl⟩;try rw[M6]
 rw[WE.out];go_wp2_with fail;rw[<-RN.out];exact B9):=h
def ED(h:P:=by refine kx ?_;intro ak g6 jQ oO;refine dh (λV=>V.heap[w1.heap.size]?=some (cO #[t.k,t.t,x1,y1] 187)/\St C w (t::r) lA V/\V.heap[g6]?=some (.cells #[iV 2,eS,iV 1,nS] 181 (0,0))) ⟨ak.1,ak.2,by rw[jQ];exact ao⟩ ?_;rw[<-jQ];clear ak hD kB hl jQ jH mw;exact CH):=h
def Kl(h:P:=by refine kx ?_;intro ak g6 jQ oO;refine dh (λV=>V.heap[w1.heap.size]?=some (cO #[t.k,t.t,x1,y1] 187)/\St C w (t::r) lA V/\V.heap[g6]?=some (.cells #[iV 5,eS,oZ,nS] 181 (0,0))) ⟨ak.1,ak.2,by rw[jQ];exact ao⟩ ?_;rw[<-jQ];clear ak hD kB hl jQ jH mw;exact CI):=h
def EE(h:P:=by refine kx ?_;intro ak g6 jQ oO;refine dh (λV=>V.heap[w1.heap.size]?=some (cO #[t.k,t.t,x1,y1] 187)/\St C w (t::r) lA V/\V.heap[g6]?=some (.cells #[iV 4,eS,oZ,nS] 181 (0,0))) ⟨ak.1,ak.2,by rw[jQ];exact ao⟩ ?_;rw[<-jQ];clear ak hD kB hl jQ jH mw;exact CJ):=h
def EF(h:P:=by refine kx ?_;intro ak g6 jQ oO;refine dh (λV=>V.heap[w1.heap.size]?=some (cO #[t.k,t.t,x1,y1] 187)/\St C w (t::r) lA V/\V.heap[g6]?=some (.cells #[iV 3,eS,oZ,nS] 181 (0,0))) ⟨ak.1,ak.2,by rw[jQ];exact ao⟩ ?_;rw[<-jQ];clear ak hD kB hl jQ jH mw;exact CK):=h
def EG(h:P:=by refine kx ?_;intro ak g6 jQ oO;refine dh (λV=>V.heap[w1.heap.size]?=some (cO #[t.k,t.t,x1,y1] 187)/\St C w (t::r) lA V/\V.heap[g6]?=some (.cells #[iV 2,eS,oZ,nS] 181 (0,0))) ⟨ak.1,ak.2,by rw[jQ];exact ao⟩ ?_;rw[<-jQ];clear ak hD kB hl jQ jH mw;exact CL):=h
def EH(h:P:=by refine kx ?_;intro ak g6 jQ oO;refine dh (λV=>V.heap[w1.heap.size]?=some (cO #[t.k,t.t,x1,y1] 187)/\St C w (t::r) lA V/\V.heap[g6]?=some (.cells #[oZ,eS,oZ,nS] 181 (0,0))) ⟨ak.1,ak.2,by rw[jQ];exact ao⟩ ?_;rw[<-jQ];clear ak hD kB hl jQ jH mw;exact JL):=h
def EI(h:P:=by refine C0 ?_;intro bC bX ak K hK g6 jQ oO;refine dh (λV=>V.heap[w1.heap.size]?=some (cO #[iV (aZ l).k,(bs (aZ l).t),x1,y1] 187)/\Sg C w l V/\V.heap[g6]?=some (.cells #[oZ,eS,oZ,nS] 181 (0,0))) ⟨ak.1,ak.2,by rw[jQ];exact ao⟩ ?_;exact Cl):=h
def EJ(h:P:=by
 have lD:w.heap.size<=V.heap.size:=TU.le;revert Ah hR TU eG lD;refine nx ?_;intro Ah hR TU eG lD;subst Zx;go_wp2_with (at_builtin;refine bu (P:=prog) underlying147 hi hz cL dY rfl ab ab rfl (.tmp 24) (.tmp 26) rfl rfl ⟨w3,0,none⟩ 1 rfl _ _ Ah lD dr rfl eG hR ?_);intro v' W' iH lE aL;have hS4:=TU.step lE yt;have hrel:Hid (Xl C w F rows r5 f v' W'):=
  ah ⟨_,ys,f,r2,iH,hS4,hy.out,by have:=gT.out;omega,by rw[aN.out];simp,aM _,by have:=h6.out;simp;omega⟩
 exact fK):=h
def EK(h:P:=by
 refine kC ?_;intro v' W' iH lE aL Uq yu;have hrel:Hid (yv "," one C w F ([k,nm,ks,vv,ss]::xs.map id) r4 f v' W'):=
  ah ⟨_,ys,f,r3,iH,Uq,yu,rZ.out,by have:=gT.out;omega,by rw[aN.out];simp,aM _,by have:=h6.out;simp;omega⟩
 exact fK):=h
def EM(h:P:=by
 refine kC ?_;intro v' W' iH lE aL Uq yu;have hrel:Hid (EO "," one C w F ([x]::xs.map zT) r4 f v' W'):=
  ah ⟨_,ys,f,r3,iH,Uq,yu,rZ.out,by have:=gT.out;omega,by rw[aN.out];simp[zT],aM _,by have:=h6.out;simp;omega⟩
 exact fK):=h
def EP(h:P:=by
 refine kC ?_;intro v' W' iH lE aL Uq yu;have hrel:Hid (yw C w F ([k,nm,n,kids]::xs) r4 f v' W'):=
  ah ⟨_,ys,f,r3,iH,Uq,yu,rZ.out,by have:=gT.out;omega,by rw[aN.out];simp,aM _,by have:=h6.out;simp;omega⟩
 exact fK):=h
def ER(h:P:=by
 have cg:=hm;unfold jL at cg;rw[aE hc] at cg
 cases cg;simp only[gI] at hc;revert lH hO hP hc;refine jU ?_;intro lH hO hP hc;rw[xK,gp] at aN;replace aN:=ah aN;go_wp2_with fail;refine bY (ew hP "," hc) λw2 P2 K2=>?_;exact CX):=h
def uF(h:P:=by have e9:=hI.2 9 _ rfl (hl 9 aj);have hKX:=ah (hK.trans' hI.1);have jl:=hI.1;rw[e9];replace jl:=ah jl;exact pe):=h
def ES(h:P:=by
 intro v' W' iH lE aL;have hS4:=TU.step lE yt;have hrel:Hid (Np C w F rows r5 f v' W'):=
  ah ⟨_,ys,f,r4,iH,hS4,hy.out,by have:=gT.out;omega,by rw[aN.out];simp,aM _,by have:=h6.out;simp;omega⟩
 exact fK):=h
def Ck(h:P:=by have hgk:gk - 1 < gk:=ab;revert Cj abj hA hle jq hB;refine LX ?_;intro Cj abj hA hle jq hB;clear lG LY;exact Km):=h
def ET(h:P:=by
 intro a2 c2 W SD;have hrel:Hid (ada C w F rows r5 f _ W):=
  ah ⟨_,ys,f,r2,SD.clr,hy.out,by have:=gT.out;omega,by rw[aN.out];simp,aM _,by have:=h6.out;simp;omega⟩
 exact fK):=h
def atc(h:P:=by
 replace hk7:=ah hk7;gi_wp2;go_roundw
 case rel=>exact⟨k+1,by omega,by simp,by rw[hXe.out];exact hJ6,hn5.trans hk6,hk7.out.trans jV⟩
 case measure=>simp[intOf];omega):=h
def CF(h:P:=by rw[<-TS];replace TS:=ah TS;refine hK _ _ bw (λ_=>?_);refine sp ?_;refine dnH ?_;go_wp2;go_end0;exact⟨hKf,rfl,k',hMf,aL⟩):=h
def Kn(h:P:=by
 .have QB:j=fe.length:=by omega
  rw[sL ab] at cg
  cases cg;have jS:¬((j:Int) < (fe.length:Int)):=ab;exact RE):=h
def Cy(h:P:=by have e4:=hI.2 4 _ rfl (hn 4 af);have e9:=hI.2 9 _ rfl (hn 9 af);go_simp;exact j8 _ _ _ ⟨hI.1,hI.2.yes 10⟩ (by rw[e4,e9];try rfl)):=h
def uG(h:P:=by
 replace hr:=ah hr
 (try dsimp only at hp)
 (try rw[hp])
 exact Dd):=h
def uH(h:P:=by have e8:=hI.2 8 _ rfl (hn 8 af);exact mB):=h
def atd(h:P:=by gi_wp2;refine bG (results_none rfl _ _ _) rfl ?_;exact⟨⟨_,rfl⟩,.inr ⟨_,List.take_prefix (k+1) _,by rw[hXe.out];exact aw2⟩⟩):=h
def aso(h:P:=by have e14:=hI.2 14 _ rfl (hl 14 aj);replace hKX:=ah (hKX.trans' hI.1);rw[e14];clear hI hl e14;exact pe):=h
def tQ(h:P:=by exact⟨⟨_,_,rfl,qY.rC (λ_ h _=>h) (λ_ h _=>h),qY.lens⟩,P2,K2⟩):=h
def uI(h:P:=by
 ·(try dsimp only at hp)
  (try rw[hp])
  exact CZ):=h
def Cg(h:P:=by exact S7.akf (hy6.kept (F:=aK) ((Kept.refl _ wB).alloc (cO #[ky,ny,my,sV ay ly cy] 181)) (λ_ _ _ e=>e)) hly 10 nm ao S6.lt):=h
def Ko(h:P:=by go_simp;exact j8 _ _ _ ⟨hI.1,hI.2.yes 11⟩ uJ):=h
def JY(h:P:=by
 go_wp2_with fail;go_roundg (gk - 1)
 case measure=>omega
 case rel=>exact xd):=h
def atB(h:P:=by
 go_wp2_with (rw[hc.out];dsimp only[Result.andThen])
 first|go_ret|(refine bG (rB rfl _ _ _) rfl ?_)
 exact pB):=h
def Kq(h:P:=by go_simp;refine hK _ _ bw (λ_=>?_);refine sp ?_;refine jR 7 λK hK=>?_;exact Cz):=h
def Kr(h:P:=by go_simp;refine hK _ _ bw (λ_=>?_);refine sp ?_;refine jR 7 λK hK=>?_;exact CG):=h
def C1(h:P:=by rw[<-jQ];rintro W ⟨gJ,S2,h6⟩;have S3:=ah S2;go_wp2;go_ret;exact⟨rfl,S3.ps,S3.kp⟩):=h
def uK(h:P:=by rw[hr];go_enter func337,ntmps337;exact cQ):=h
def uL(h:P:=by rw[hr];go_enter func336,ntmps336;exact cQ):=h
def uM(h:P:=by rw[hr];go_enter func321,ntmps321;exact cQ):=h
def uN(h:P:=by rw[hr];go_enter func189,ntmps189;exact cQ):=h
def uO(h:P:=by rw[hr];go_enter func188,ntmps188;exact cQ):=h
def uP(h:P:=by rw[hr];go_enter func190,ntmps190;exact cQ):=h
def asT(h:P:=by rw[e];go_enter func18,ntmps18;exact cQ):=h
def JS(h:P:=by
 go_wp2_with fail;go_quiet (fail)
 go_wp2_with fail;go_ret;exact⟨rfl,Kept.drewN K⟩):=h
def JU(h:P:=by
 rw[qH mu k j ab,e1];have:j < cs.length:=by rw[<-e3.1];exact QB
 simp[this]):=h
def Ks(h:P:=by go_wp2_with fail;refine hc.mono ?_;rintro e w1 ⟨rfl,K⟩;have hK:=ah (K0.trans' K);exact mE):=h
def Ct(h:P:=by simp[Value.ownBlock] at e;simp only[dB,eB] at*;omega):=h
def asI(h:P:=by go_wp2_with fail;go_ret;exact pB):=h
def asU(h:P:=by go_enter func57,ntmps57;exact cQ):=h
def EV(h:P:=by go_wp2_with (go_at_call 153;refine(kD _ _).mono ?_;rintro e w' ⟨rfl,rfl⟩);exact ku):=h
def Co(h:P:=by go_wp2;refine bG (B8 rfl _ _ _) rfl ?_;exact⟨rfl,rfl⟩):=h
def asQ(h:P:=by go_wp2_with fail;go_ret;exact⟨rfl,K1⟩):=h
def Ku(h:P:=by
 .have hr:cB n=true:=by rw[hd,h2];simp
  exact tW):=h
def as9(h:P:=by go_simp;exact hK _ _ _ ⟨hI.1,hI.2.yes 4⟩ rD):=h
def Kv(h:P:=by have e2:=hI.2 2 _ rfl (hn 2 af);exact pv):=h
def tJ(h:P:=by have e2:=hI.2 2 _ rfl (hn 2 af);exact kj):=h
def EX(h:P:=by
 .have hr:cB n=true:=by rw[hd,h1];simp
  exact tW):=h
def auf(h:P:=by have e7:=hI.2 7 _ rfl (hn 7 af);exact atn):=h
def uQ(h:P:=by have e0:=hI.2 0 _ rfl (hn 0 af);exact mH):=h
def Kh(h:P:=by go_simp;exact hK _ _ _ ⟨hI.1,hI.2.yes 3⟩ rfl):=h
def pg(h:P:=by rw[heap_alloc,aI ai]):=h
def atC(h:P:=by obtain⟨j,hj,e⟩:=avD lQ;exact atj):=h
def CW(h:P:=by exact S3.fin (B:=w.heap.size+1) .nil (j4 _) 1 [] (num t.t)):=h
def QH(h:P:=by obtain⟨r4,sU,hp⟩:=cW hp;exact iQ):=h
def Cs(h:P:=by exact .cons (.int _) (.cons (.str _) (.cons (.int _) (.cons jF .nil)))):=h
def CM(h:P:=by exact S3.fin (B:=w.heap.size+1) .nil (j4 _) 2 [] 0):=h
def EZ(h:P:=by have SN:=E2.nil;exact kl):=h
def E3(h:P:=by have S1:=ah (SS.aB P1 K1);exact C6):=h
def E4(h:P:=by replace WH:=ah WH;exact DE):=h
def DO(h:P:=by go_ret;exact⟨⟨_,_,rfl,.nil,by simp⟩,P1,K1⟩):=h
def uc(h:P:=by exact⟨v',w',gV,f1,f2,r3⟩):=h
def E5(h:P:=by have SN:=jx.nil;exact kl):=h
def asx(h:P:=by
 obtain⟨g4,e4⟩:∃g,g=wA.heap.size:=⟨_,rfl⟩
 exact asw):=h
def asy(h:P:=by
 obtain⟨g4,e4⟩:∃g,g=wB.heap.size:=⟨_,rfl⟩
 exact asw):=h
def Km(h:P:=by
 go_wp2_with fail;go_roundg (gk - 1)
 case measure=>omega
 case rel=>exact oV):=h
def EC(h:P:=by
 go_wp2;go_roundg f
 case measure=>have:=hfg.out;omega
 case rel=>exact hrel):=h
def asB(h:P:=by
 obtain⟨g5,e5⟩:∃g,g=wA.heap.size:=⟨_,rfl⟩
 exact asA):=h
def asC(h:P:=by
 obtain⟨g5,e5⟩:∃g,g=wB.heap.size:=⟨_,rfl⟩
 exact asA):=h
def EW(h:P:=by have e9:=hI.2 9 _ rfl (hn 9 af);exact uh):=h
def JP(h:P:=by have zv:=hI.2 10 _ rfl (hn 10 af);exact Ko):=h
def Cx(h:P:=by have e7:=hI.2 7 _ rfl (hn 7 af);exact tY):=h
def ata(h:P:=by have e5:=hI.2 5 _ rfl (hn 5 af);exact Du):=h
def E8(h:Bx Q->P:=by
 intro zq;have G3:=ah (G2.aB P2 K2);obtain⟨jI,iE,gh,ft,js,-⟩:=cc (G3.out.bx 1 _ rfl);have f1:=al (G3.bx 1 _ rfl);go_wp2_with fail;have G4:=ah (G3.st 1 4 (.bool ss));refine(me G4.ps).mono ?_;rintro e w3 ⟨x1,y1,rfl,P3,K3⟩;rw[ht,hko];have G5:Hid (GB C w l2 [cO #[oZ,eS,nS,false,false] 146,cO #[oZ,eS,nS,vv,ss] 146] (w3.alloc (cO #[iV 2,nm,x1,y1] 187))):=ah ((G4.aB P3 K3).alloc _);have b4:(w3.alloc (cO #[iV 2,nm,x1,y1] 187)).heap[w3.heap.size]?=some (.cells #[iV 2,nm,x1,y1] 187 (0,0)):=ao;have bL:bW nm:=Be;have tP:=(G4.aB P3 K3).lt;simp only[dC,mc] at tP;have q1:((bs nm).toList==[73,78,84,69,71,69,82])=(nm==tx "INTEGER"):=by have hh:=cH bL (aV (s:= "INTEGER") aj);rw[dW (bs "INTEGER")] at hh;exact hh
 have q2:((bs nm).toList==[66,79,79,76,69,65,78])=(nm==tx "BOOLEAN"):=by have hh:=cH bL (aV (s:= "BOOLEAN") aj);rw[dW (bs "BOOLEAN")] at hh;exact hh
 rw[hI] at q1;rw[hB] at q2;revert b4 bL tP;refine jk ?_;intro b4 bL tP;go_wp2_with fail;have d0:True:=bw;refine wpLive 7 (λV=>GB C w l2 [cO #[oZ,eS,nS,false,false] 146,cO #[oZ,eS,nS,vv,ss] 146] V/\V.heap[w3.heap.size]?=some (.cells #[iV 2,nm,x1,y1] 187 (0,0))) (λV s=>And.intro (s.1.ps.c4) (aC s.2 1)) ?_ λFF ak=>?_
 ·
  exact⟨G5.drew,b4⟩
 refine tkT 0 ?_;refine tkT 1 ?_;refine tkT 2 ?_;refine tkT 3 ?_;refine tkT 4 ?_;refine tkT 5 ?_;refine rdT 6 λK hK=>?_;obtain⟨s1,s2⟩:=ak;go_simp;refine(gW s1.ps.fm fx nm bL).mono ?_;rintro e w4 ⟨rfl,rfl⟩;rw[oQ];refine hK _ _ ⟨s1,s2⟩ (λak=>?_);refine sp ?_;refine ddT 7 λK hK=>?_;go_simp;refine hK _ _ ?_;refine sp ?_;refine dnT ?_;obtain⟨G6,b5⟩:=ak;replace G6:=ah G6;have e40:=aC b5 0;have e41:=aC b5 1;obtain⟨jI,iE,gh,ft,js,-⟩:=cc (G6.out.bx 1 _ rfl);have f1:=al (G6.bx 1 _ rfl);go_wp2_with fail;have QI:an (λb=>b≠C.p) ((w3.alloc (cO #[iV 2,.string (bs nm),iV x1,iV y1] 187)).alloc (cO #[.string eQ] 9)).drew (.sl (strs [tx "NONE"])) (sV (some ⟨w3.heap.size+1,0,none⟩) 1 1):=by exact tO
 refine(ov (G6.alloc (cO #[.string eQ] 9)).ps hw QI (λb e=>e) yx uT).mono ?_;rintro e w5 ⟨rfl,P5,K5⟩;have G7:Hid (GB C w r [cO #[oZ,eS,nS,false,false] 146,cO #[oZ,eS,nS,vv,ss] 146] w5):=ah ((G6.alloc (cO #[.string eQ] 9)).aB P5 K5);obtain⟨jI,iE,gh,ft,js,-⟩:=cc (G7.out.bx 1 _ rfl);have f1:=al (G7.bx 1 _ rfl);go_wp2_with fail;have G8:Hid (GB C w r [cO #[oZ,eS,nS,false,false] 146,cO #[iV 3,nm,nS,vv,ss] 146] _):=ah ((G7.set 1 0 rfl (iV 3)).set 1 1 rfl (.string (bs nm)));refine(isA G8.ps "[").mono ?_;rintro e w6 ⟨rfl,P6,K6⟩;rw[lW];have G9:=ah (G8.aB P6 K6);rename_i bC bX cU dz fZ iI yz Bf I8 qJ qK uU Nq Nr Ns Nt Nu Nv Nw Xm Xn;revert G3 bC bX cU dz fZ iI G4 w3 x1 y1 P3 K3 G5 q1 q2 b4 bL tP yz d0 FF Bf I8 s1 s2 K hK b5 G6 e40 e41 qJ qK uU Nq Nr Ns QI w5 P5 K5 G7 jI iE gh ft js f1 Nt Nu Nv Nw Xm Xn G8 w6 P6 K6 G9;exact zq.out):=h ⟨k⟩
def Kx(h:Bx Q->P:=by
 intro zq x hx _ _ _ hK;refine hK _ _ ⟨S3.x1,S3.x2⟩ (λak=>?_);refine sp ?_;refine tkT 7 ?_;refine tkT 8 ?_;refine ddT 9 λK hK=>?_;go_simp;refine hK _ _ ?_;refine sp ?_;refine dnT ?_;have Nx:=Bm.bc S4.x1 0;go_wp2_with fail;refine(Ny S4.ps "invariant" lQ (R:=λV V'=>amQ C V0 b3 r2 tags #[iV 5,eS,oZ,nS,nS,sV ia lB.length ic,nS,nS] V V') (λV P K=>akl hV I9 (S4.aB P K) rfl asi) bP).mono ?_;rintro e w2 ⟨rfl,v2,P2,K2,ta,tc,SI,hti,KI⟩;have RQ:=gN uV K2 rf ij;have S5:LB C V0 b3 _ #[iV 5,eS,oZ,nS,sV ta tags.length tc,sV ia lB.length ic,nS,nS] _:=SI;have uW:=amR RQ KI rf ij;have TW:=Bm.bc S5.x1 0;go_wp2_with fail;refine bY (fj S5.ps "until" RR) λw3 P3 K3=>?_;have S6:=S5.aB P3 K3;have uX:=gN uW K3 rf ij;have Zy:=gN hti K3 rf ij;have TX:=Bm.bc S6.x1 0;go_wp2_with fail;refine wpLive 6 (λV=>V.heap[V0.heap.size]?=some (.cells #[pP C] 128 (0,0))/\V.heap[V0.heap.size+1]?=some (.cells #[.pointer b3] 322 (0,0))) (λV s=>And.intro (Bm.bc s.1 0) (Bm.bc s.2 0)) ?_ λFF ak=>?_
 ·
  exact Ef
 refine tkT 0 ?_;refine tkT 1 ?_;refine rdT 2 λK hK=>?_;go_simp;refine(iR xf hx S6.drew.ps).mono ?_;rintro e w4 ⟨⟨v,rfl,xk,xn,xm,kids,xa,xl,xc,rfl,rfl,oP⟩,P4,K4⟩;dsimp only;have S7:=S6.drew.aB P4 K4;have uY:=gN uX ((Kept.refl _ _).drew.trans' K4) rf ij;have Zz:=gN Zy ((Kept.refl _ _).drew.trans' K4) rf ij;have hlg:=S6.drew.lt;have szg:=K4.size;have WI:V0.heap.size+1 < w4.heap.size:=ab;have uZ:=adb (ge:=w4.heap.size) uY rfl;have ZA:=adb (ge:=w4.heap.size) Zz rfl;have E9:=ade (k:=xk) (nm:=xn) (n:=xm) oP hlg szg;have Fa:an (L6 V0 w4.heap.size) (w4.alloc (cO #[xk,xn,xm,sV xa xl xc] 181)) (.sl kids) (sV xa xl xc):=oP.keep (λb hb hl=>⟨by omega,by omega⟩) ai (λb _ hl=>jm _ _ _ hl);have yA:(w4.alloc (.cells #[xk,xn,xm,.slice xa xl xc] 181)).heap[w4.heap.size]?=some (.cells #[xk,xn,xm,.slice xa xl xc] 181):=ao;have S8:=S7.alloc (cO #[xk,xn,xm,sV xa xl xc] 181);have vf:=adf uZ ((Kept.refl aK w4).alloc (cO #[xk,xn,xm,sV xa xl xc] 181));have ZB:=adf ZA ((Kept.refl aK w4).alloc (cO #[xk,xn,xm,sV xa xl xc] 181));have xg:=Bm.bc S8.s 3;have Nz:=al S8.s 3;have S9:=S8.st 3 (sV w4 1 1);have qL:=A9 vf ij 3 (sV w4 1 1);have Ur:=A9 ZB ij 3 (sV w4 1 1);have Fb:=vg E9 ij 3 (sV w4 1 1);have Fc:=A9 Fa ij 3 (sV w4 1 1);have Fe:_=(some (cO #[xk,xn,xm,sV xa xl xc] 181):Option Obj):=((au b3 3 (sV w4 1 1)).block _ (aQ.1 yA).1 ab).trans yA;refine hK _ _ ⟨S7.x1,S7.x2⟩ (λak=>?_);refine sp ?_;refine rdT 3 λK hK=>?_;go_simp;refine hK _ _ ⟨S8.x1,S8.x2⟩ (λak=>?_);rename_i bC bX cU dz fZ iI yz Bf I8 qJ qK uU;revert bC bX Nx w2 v2 P2 K2 ta tc SI hti KI RQ S5 uW TW w3 P3 K3 S6 uX Zy TX cU FF dz fZ w4 xk xn xm kids xa xl xc hx iI yz Bf I8 qJ qK oP P4 K4 S7 uY Zz hlg szg WI uZ ZA E9 Fa yA S8 vf ZB xg Nz S9 qL Ur Fb Fc Fe uU K hK ak;exact zq.out):=h ⟨k⟩
def Fg(h:Bx Q->P:=by
 intro zq;obtain⟨jI,iE,gh,ft,js,-⟩:=cc (G1.out.bx 1 _ rfl);have f1:=al (G1.bx 1 _ rfl);go_wp2_with fail;have G2:=ah (G1.st 1 3 (.bool false));refine(ahn G2.ps "separate").mono ?_;rintro e w2 ⟨rfl,P2,K2⟩;rw[hs] at P2|-;rw[h2] at P2;have G3:=ah (G2.aB P2 K2);obtain⟨jI,iE,gh,ft,js,-⟩:=cc (G3.out.bx 1 _ rfl);have f1:=al (G3.bx 1 _ rfl);go_wp2_with fail;have G4:=ah (G3.st 1 4 (.bool false));refine(me G4.ps).mono ?_;rintro e w3 ⟨x1,y1,rfl,P3,K3⟩;rw[ht,hko];have G5:Hid (GB C w l2 [cO #[oZ,eS,nS,false,false] 146,cO #[oZ,eS,nS,false,false] 146] (w3.alloc (cO #[iV 2,nm,x1,y1] 187))):=ah ((G4.aB P3 K3).alloc _);have b4:(w3.alloc (cO #[iV 2,nm,x1,y1] 187)).heap[w3.heap.size]?=some (.cells #[iV 2,nm,x1,y1] 187 (0,0)):=ao;have bL:bW nm:=Be;have tP:=(G4.aB P3 K3).lt;simp only[dC,mc] at tP;have q1:((bs nm).toList==[73,78,84,69,71,69,82])=(nm==tx "INTEGER"):=by have hh:=cH bL (aV (s:= "INTEGER") aj);rw[dW (bs "INTEGER")] at hh;exact hh
 have q2:((bs nm).toList==[66,79,79,76,69,65,78])=(nm==tx "BOOLEAN"):=by have hh:=cH bL (aV (s:= "BOOLEAN") aj);rw[dW (bs "BOOLEAN")] at hh;exact hh
 rw[hI] at q1;rw[hB] at q2;revert b4 bL tP;refine jk ?_;intro b4 bL tP;go_wp2_with fail;have d0:True:=bw;refine wpLive 7 (λV=>GB C w l2 [cO #[oZ,eS,nS,false,false] 146,cO #[oZ,eS,nS,false,false] 146] V/\V.heap[w3.heap.size]?=some (.cells #[iV 2,nm,x1,y1] 187 (0,0))) (λV s=>And.intro (s.1.ps.c4) (aC s.2 1)) ?_ λFF ak=>?_
 ·
  exact⟨G5.drew,b4⟩
 refine tkT 0 ?_;refine tkT 1 ?_;refine tkT 2 ?_;refine tkT 3 ?_;refine tkT 4 ?_;refine tkT 5 ?_;refine rdT 6 λK hK=>?_;obtain⟨s1,s2⟩:=ak;go_simp;refine(gW s1.ps.fm fx nm bL).mono ?_;rintro e w4 ⟨rfl,rfl⟩;rw[oQ];refine hK _ _ ⟨s1,s2⟩ (λak=>?_);refine sp ?_;refine ddT 7 λK hK=>?_;go_simp;refine hK _ _ ?_;refine sp ?_;refine dnT ?_;obtain⟨G6,b5⟩:=ak;replace G6:=ah G6;have e40:=aC b5 0;have e41:=aC b5 1;obtain⟨jI,iE,gh,ft,js,-⟩:=cc (G6.out.bx 1 _ rfl);have f1:=al (G6.bx 1 _ rfl);go_wp2_with fail;have QI:an (λb=>b≠C.p) ((w3.alloc (cO #[iV 2,.string (bs nm),iV x1,iV y1] 187)).alloc (cO #[.string eQ] 9)).drew (.sl (strs [tx "NONE"])) (sV (some ⟨w3.heap.size+1,0,none⟩) 1 1):=by exact tO
 refine(ov (G6.alloc (cO #[.string eQ] 9)).ps hw QI (λb e=>e) yx uT).mono ?_;rintro e w5 ⟨rfl,P5,K5⟩;have G7:Hid (GB C w r [cO #[oZ,eS,nS,false,false] 146,cO #[oZ,eS,nS,false,false] 146] w5):=ah ((G6.alloc (cO #[.string eQ] 9)).aB P5 K5);rename_i bC bX cU dz fZ iI yz Bf I8 qJ qK uU Nq Nr Ns Nt Nu Nv Nw;revert bC bX cU dz fZ iI G2 w2 P2 K2 G3 yz Bf I8 qJ qK uU G4 w3 x1 y1 P3 K3 G5 q1 q2 b4 bL tP Nq d0 FF Nr Ns s1 s2 K hK b5 G6 e40 e41 jI iE gh ft js f1 Nt Nu Nv Nw QI w5 P5 K5 G7;exact zq.out):=h ⟨k⟩
def Fh(h:Bx Q->P:=by
 intro zq;rintro e w1 ⟨rfl,P1,K1⟩;rw[hv] at P1|-;rw[h1] at P1;have G1:=ah (G0.aB P1 K1);obtain⟨jI,iE,gh,ft,js,-⟩:=cc (G1.out.bx 1 _ rfl);have f1:=al (G1.bx 1 _ rfl);go_wp2_with fail;have G2:=ah (G1.st 1 3 (.bool false));refine(Bg G2.ps mM "separate").mono ?_;rintro e w2 ⟨rfl,P2,K2⟩;rw[hs] at P2|-;rw[h2] at P2;have G3:=ah (G2.aB P2 K2);obtain⟨jI,iE,gh,ft,js,-⟩:=cc (G3.out.bx 1 _ rfl);have f1:=al (G3.bx 1 _ rfl);go_wp2_with fail;have G4:=ah (G3.st 1 4 (.bool false));refine(gA G4.ps mM).mono ?_;rintro e w3 ⟨rfl,K3⟩;rw[xe];have G5:=ah (G4.no K3);obtain⟨cap,c0⟩:=G5.out.ps.c0t;obtain⟨n,a,b,e1,c1,bQ,bL,z1,z2,z3,z4⟩:=G5.out.ps.tok (k:=0) rfl;have hlen:=G5.ps.len;have hf4:=G5.ps.c4;have fp:=G5.ps.fr 1;simp only[fS] at bQ z1 z2 z3 z4;have ph:((n:Int) < (C.L.length:Int)):=ab;have nz:(0:Int)<=(n:Int):=ab;have e2:IntKind.i64.wrap ((n:Int)+1)=(n:Int)+1:=lF _ ab;have q0:((bs t.t).toList==[78,79,78,69])=(t.t==tx "NONE"):=by have hh:=cH bL (aV (s:= "NONE") aj);rw[dW (bs "NONE")] at hh;exact hh
 rw[eK.out] at q0;have q1:((bs t.t).toList==[73,78,84,69,71,69,82])=(t.t==tx "INTEGER"):=by have hh:=cH bL (aV (s:= "INTEGER") aj);rw[dW (bs "INTEGER")] at hh;exact hh
 replace bL:=ah bL;obtain⟨jI,iE,gh,ft,js,-⟩:=cc (G5.out.bx 1 _ rfl);have f1:=al (G5.bx 1 _ rfl);go_wp2_with fail;go_quiet (fail)
 have G6:Hid (GB C w (t::r) [cO #[oZ,eS,nS,false,false] 146,cO #[oZ,eS,nS,false,false] 146] (w3.drewN nq)):=ah (G5.no (Kept.drewN (Kept.refl _ _)));go_wp2_with fail;refine(Ja bL false false true _).mono ?_;rintro e w4 ⟨rfl,rfl⟩;rw[zr.out];go_wp2_with fail;refine(Bh G6.ps.fm fx t.t bL).mono ?_;rintro e w5 ⟨rfl,rfl⟩;rw[oQ.out];have G7:Hid (GB C w r [cO #[oZ,eS,nS,false,false] 146,cO #[oZ,eS,nS,false,false] 146] ((w3.drewN nq).setCell ⟨C.p,1,none⟩ (iV ((n:Int)+1)))):=ah (G6.TT (n:=n) vh rfl);obtain⟨d10,d11,d12,d13,d14,-⟩:=cc (G7.out.bx 1 _ rfl);have g1:=al (G7.bx 1 _ rfl);go_wp2_with fail;rw[hI] at q1;refine(Bi G7.ps mM "[" (aV aj)).mono ?_;rintro e w6 ⟨rfl,K6⟩;rw[lW];have G8:=ah (G7.no K6);obtain⟨jI,iE,gh,ft,js,-⟩:=cc (G8.out.bx 1 _ rfl);have f1:=al (G8.bx 1 _ rfl);obtain⟨b0,b1,b2,b3,b4,-⟩:=cc (W:=w6) (b:=w) (G8.out.bx 0 _ rfl);have fb:∀j,w6.frozen? ⟨w,j,none⟩=false:=al (G8.bx 0 _ rfl);rename_i bC bX cU dz fZ iI yz Bf I8 qJ qK uU Nq Nr Ns Nt Nu Nv Nw Xm Xn akm akn ako;revert w1 P1 K1 G1 bC bX cU dz fZ iI G2 w2 P2 K2 G3 yz Bf I8 qJ qK uU G4 w3 K3 G5 cap c0 n a b e1 c1 bQ z1 z2 z3 z4 hlen hf4 fp ph nz e2 q0 q1 bL Nq Nr Ns Nt Nu Nv nq G6 G7 d10 d11 d12 d13 d14 g1 Nw Xm Xn akm akn ako w6 K6 G8 jI iE gh ft js f1 b0 b1 b2 b3 b4 fb;exact zq.out):=h ⟨k⟩
def Fi(h:Bx Q->P:=by
 intro zq;have sE:∀(fn:Fn) (first cap:Zt) (w:YC),(Instr.makeFunc fn first cap).run prog w=.ok (.func fn first cap) w:=λ_ _ _ _=>rfl;have Cj:=@run_makeMap prog;have x0:=ah (And.intro (adg w) (adh w));go_enter func87,ntmps87;go_wp2_with (first
  |(refine Us x0 λw1 x1 b1 m1=>?_;clear x0)
  |(refine Us x1 λw2 x2 b2 m2=>?_;clear x1 b1 m1)
  |(refine Us x2 λw3 x3 b3 m3=>?_;clear x2 b2 m2)
  |(refine Us x3 λw4 x4 b4 m4=>?_;clear x3 b3 m3;have f4:=x4.2.f4))
 obtain⟨w5,hw5⟩:∃w5,w5=w4.setCell ⟨w.heap.size+1,4,none⟩ (Value.map (some (w.heap.size+1+1+1))):=⟨_,rfl⟩
 have x5:=ah (And.intro (x4.1.adi hw5) (x4.2.adi hw5));rw[<-hw5];clear hw5 x4 b4 m4 f4;have b5:=x5.1.gX;have m5:=x5.2.c4;have x6:=abo (NB (NB (NB x5 (mv 131 w.heap.size)) (mv 132 w.heap.size)) (mv 133 w.heap.size));have adj:=x5.1.size;obtain⟨v7,w7,hr7,hs7,TZ,x7⟩:=yB x6 lP (dw (w.heap.size+4+0));obtain⟨v8,w8,hr8,hs8,hc8,x8⟩:=yB x7 jt (dw (w.heap.size+4+1));obtain⟨v9,w9,hr9,hs9,ZD,x9⟩:=yB x8 jW (dw (w.heap.size+4+2));refine Ag (S:=(λW=>W.cell? ⟨w.heap.size+1+1,0,none⟩=some (Value.pointer (some ⟨w.heap.size+1,0,none⟩))/\W.cell? ⟨w.heap.size+1,4,none⟩=some (Value.map (some (w.heap.size+1+1+1))))) af ef (λak=>?_);refine df 0 ?_;refine df 1 ?_;refine df 2 ?_;refine df 3 ?_;refine df 4 ?_;refine df 5 ?_;refine df 6 ?_;refine df 7 ?_;refine df 8 ?_;refine df 9 ?_;refine df 10 ?_;refine df 11 ?_;refine df 12 ?_;refine df 13 ?_;refine df 15 ?_;refine df 16 ?_;refine df 18 ?_;refine df 19 ?_;refine jR 14 λK hK=>?_;go_simp;go_at_call 130;refine(kE _ _ ⟨_,_,_,rfl⟩).mono ?_;rintro e w' ⟨rfl,rfl⟩;go_wp2_with fail;refine hK _ _ ef (λak=>?_);clear hK K;refine sp ?_;refine jR 17 λK hK=>?_;go_simp;go_at_call 130;refine(kE _ _ ⟨_,_,_,rfl⟩).mono ?_;rintro e w' ⟨rfl,rfl⟩;go_wp2_with fail;refine hK _ _ ef (λak=>?_);clear hK K;refine sp ?_;refine jR 20 λK hK=>?_;go_simp;go_at_call 130;refine(kE _ _ ⟨_,_,_,rfl⟩).mono ?_;rintro e w' ⟨rfl,rfl⟩;go_wp2_with fail;refine hK _ _ ef (λak=>?_);clear hK K;refine sp ?_;refine jR 21 λK hK=>?_;go_simp;refine hK _ _ ef (λak=>?_);clear hK K;refine sp ?_;refine df 22 ?_;refine jR 23 λK hK=>?_;rename_i bC bX cU dz fZ iI yz Bf I8;revert sE Cj bC w1 w2 w3 w4 bX cU dz fZ w5 x5 b5 m5 x6 adj v7 w7 hr7 hs7 TZ x7 v8 w8 hr8 hs8 hc8 x8 v9 w9 hr9 hs9 ZD x9 iI yz Bf I8 ak K hK;exact zq.out):=h ⟨k⟩
def NC(h:Bx Q->P:=by
 intro zq x hx _ _ hK;have vj:=ZF hvi S1.drew.lt;have S3:=S2.st 0 (iV 5);have vk:=vg vj ij 0 (iV 5);have S4:=S3.st 5 (sV ia lB.length ic);have uV:=vg vk ij 5 (sV ia lB.length ic);refine hK _ _ ⟨S2.x1,S2.x2⟩ (λak=>?_);refine sp ?_;refine tkT 4 ?_;refine tkT 5 ?_;refine rdT 6 λK hK=>?_;go_simp;refine hK _ _ ⟨S3.x1,S3.x2⟩ (λak=>?_);refine sp ?_;refine tkT 7 ?_;refine tkT 8 ?_;refine ddT 9 λK hK=>?_;go_simp;refine hK _ _ ?_;refine sp ?_;refine dnT ?_;have Nx:=Bm.bc S4.x1 0;go_wp2_with fail;refine bY (Ar S4.ps "invariant" lQ) λw2 P2 K2=>?_;have S5:=S4.aB P2 K2;have uW:=gN uV K2 rf ij;have TW:=Bm.bc S5.x1 0;go_wp2_with fail;refine bY (fj S5.ps "until" RR) λw3 P3 K3=>?_;have S6:=S5.aB P3 K3;have uX:=gN uW K3 rf ij;have TX:=Bm.bc S6.x1 0;go_wp2_with fail;refine wpLive 6 (λV=>V.heap[V0.heap.size]?=some (.cells #[pP C] 128 (0,0))/\V.heap[V0.heap.size+1]?=some (.cells #[.pointer b3] 322 (0,0))) (λV s=>And.intro (Bm.bc s.1 0) (Bm.bc s.2 0)) ?_ λFF ak=>?_
 ·
  exact Ef
 refine tkT 0 ?_;refine tkT 1 ?_;refine rdT 2 λK hK=>?_;go_simp;refine(iR xf hx S6.drew.ps).mono ?_;rintro e w4 ⟨⟨v,rfl,xk,xn,xm,kids,xa,xl,xc,rfl,rfl,oP⟩,P4,K4⟩;dsimp only;have S7:=S6.drew.aB P4 K4;have uY:=gN uX ((Kept.refl _ _).drew.trans' K4) rf ij;have hlg:=S6.drew.lt;have szg:=K4.size;have WI:V0.heap.size+1 < w4.heap.size:=ab;have uZ:=adb (ge:=w4.heap.size) uY rfl;have E9:=ade (k:=xk) (nm:=xn) (n:=xm) oP hlg szg;have Fa:an (L6 V0 w4.heap.size) (w4.alloc (cO #[xk,xn,xm,sV xa xl xc] 181)) (.sl kids) (sV xa xl xc):=oP.keep (λb hb hl=>⟨by omega,by omega⟩) ai (λb _ hl=>jm _ _ _ hl);have yA:(w4.alloc (.cells #[xk,xn,xm,.slice xa xl xc] 181)).heap[w4.heap.size]?=some (.cells #[xk,xn,xm,.slice xa xl xc] 181):=ao;have S8:=S7.alloc (cO #[xk,xn,xm,sV xa xl xc] 181);have vf:=adf uZ ((Kept.refl aK w4).alloc (cO #[xk,xn,xm,sV xa xl xc] 181));have xg:=Bm.bc S8.s 3;have Nz:=al S8.s 3;have S9:=S8.st 3 (sV w4 1 1);have qL:=A9 vf ij 3 (sV w4 1 1);have Fb:=vg E9 ij 3 (sV w4 1 1);have Fc:=A9 Fa ij 3 (sV w4 1 1);have Fe:_=(some (cO #[xk,xn,xm,sV xa xl xc] 181):Option Obj):=((au b3 3 (sV w4 1 1)).block _ (aQ.1 yA).1 ab).trans yA;refine hK _ _ ⟨S7.x1,S7.x2⟩ (λak=>?_);rename_i bC bX cU dz fZ iI yz Bf I8 qJ qK;revert vj S3 vk S4 uV bC bX cU dz Nx w2 P2 K2 S5 uW TW w3 P3 K3 S6 uX TX fZ FF iI K w4 xk xn xm kids xa xl xc hx yz Bf I8 qJ qK hK oP P4 K4 S7 uY hlg szg WI uZ E9 Fa yA S8 vf xg Nz S9 qL Fb Fc Fe ak;exact zq.out):=h ⟨k⟩
def Ky(h:Bx Q->P:=by intro zq;refine jR 24 λK hK=>?_;go_simp;refine hK _ _ ef (λak=>?_);clear hK K;refine sp ?_;refine df 25 ?_;refine jR 26 λK hK=>?_;go_simp;refine hK _ _ ef (λak=>?_);clear hK K;refine sp ?_;refine jR 27 λK hK=>?_;go_simp;refine hK _ _ ef (λak=>?_);clear hK K;refine sp ?_;refine df 28 ?_;refine jR 29 λK hK=>?_;go_simp;refine hK _ _ ef (λak=>?_);clear hK K;refine sp ?_;refine dnH ?_;have b9:=x9.1.gX;have m9:=x9.2.c4;go_wp2_with fail;have xC:=abo (NB (NB x9 (mv 135 w.heap.size)) (mv 136 w.heap.size));have adk:=x9.1.size;obtain⟨v11,xS,adl,L7,adm,zw⟩:=yB xC nP (mv 134 w.heap.size);obtain⟨v12,vl,aho,adn,ado,As⟩:=yB zw l7 (dw (w.heap.size+4+3));obtain⟨v13,ND,akp,ahp,adp,xw⟩:=yB As BT (dw (w.heap.size+4+4));refine Ag (S:=(λW=>W.cell? ⟨w.heap.size+1+1,0,none⟩=some (Value.pointer (some ⟨w.heap.size+1,0,none⟩))/\W.cell? ⟨w.heap.size+1,4,none⟩=some (Value.map (some (w.heap.size+1+1+1))))) af fM (λak=>?_);refine df 0 ?_;refine df 1 ?_;refine df 2 ?_;refine df 3 ?_;refine df 4 ?_;refine df 5 ?_;refine df 6 ?_;refine df 7 ?_;refine df 8 ?_;refine df 9 ?_;refine df 10 ?_;refine df 11 ?_;refine df 12 ?_;refine df 13 ?_;refine df 14 ?_;refine df 15 ?_;refine df 17 ?_;refine df 18 ?_;refine jR 16 λK hK=>?_;go_simp;go_at_call 130;refine(kE _ _ ⟨_,_,_,rfl⟩).mono ?_;rintro e w' ⟨rfl,rfl⟩;go_wp2_with fail;refine hK _ _ fM (λak=>?_);clear hK K;refine sp ?_;refine jR 19 λK hK=>?_;go_simp;go_at_call 130;refine(kE _ _ ⟨_,_,_,rfl⟩).mono ?_;rintro e w' ⟨rfl,rfl⟩;go_wp2_with fail;refine hK _ _ fM (λak=>?_);rename_i bC bX cU dz fZ iI yz Bf;revert bC bX cU dz b9 m9 fZ iI xC adk v11 xS adl L7 adm zw v12 vl aho adn ado As v13 ND akp ahp adp xw yz Bf K hK ak;exact zq.out):=h ⟨k⟩
def Fj(h:Bx Q->P:=by intro zq K hK;clear hK K;refine sp ?_;refine jR 20 λK hK=>?_;go_simp;refine hK _ _ fM (λak=>?_);clear hK K;refine sp ?_;refine df 21 ?_;refine jR 22 λK hK=>?_;go_simp;refine hK _ _ fM (λak=>?_);clear hK K;refine sp ?_;refine jR 23 λK hK=>?_;go_simp;refine hK _ _ fM (λak=>?_);clear hK K;refine sp ?_;refine df 24 ?_;refine jR 25 λK hK=>?_;go_simp;refine hK _ _ fM (λak=>?_);clear hK K;refine sp ?_;refine jR 26 λK hK=>?_;go_simp;refine hK _ _ fM (λak=>?_);clear hK K;refine sp ?_;refine df 27 ?_;refine jR 28 λK hK=>?_;go_simp;refine hK _ _ fM (λak=>?_);clear hK K;refine sp ?_;refine dnH ?_;have L8:=xw.1.gX;rename_i bC bX cU dz fZ;revert bC bX cU dz fZ ak L8;exact zq.out):=h ⟨k⟩
def Fk(h:Bx Q->P:=by
 intro zq;go_wp2;refine Ag (S:=(λV=>V.cell? ⟨n+1,2,none⟩=some (I s.low)/\V.cell? ⟨n+1,3,none⟩=some (I s.high))) af ⟨L9,NF⟩ (λak=>?_);refine df 0 ?_;try simp only[e1,e2]
 refine df 1 ?_;try simp only[e1,e2]
 refine df 2 ?_;try simp only[e1,e2]
 refine df 3 ?_;try simp only[e1,e2]
 refine df 4 ?_;try simp only[e1,e2]
 refine df 5 ?_;try simp only[e1,e2]
 refine df 6 ?_;try simp only[e1,e2]
 refine df 7 ?_;try simp only[e1,e2]
 refine df 8 ?_;try simp only[e1,e2]
 refine jR 9 λK hK=>?_;go_simp;refine(c1 _).mono ?_;rintro e w' ⟨rfl,rfl⟩;dsimp only;refine hK _ _ ak (λak=>?_);try simp only[Act.put,ma,mb,lj,e1,e2]
 refine df 10 ?_;try simp only[e1,e2]
 refine jR 11 λK hK=>?_;go_simp;refine(c2 _).mono ?_;rintro e w' ⟨rfl,rfl⟩;dsimp only;refine hK _ _ ak (λak=>?_);try simp only[Act.put,ma,mb,lj,e1,e2]
 rename_i bC bX cU dz fZ iI yz;revert bC bX cU dz fZ iI yz K hK ak;exact zq.out):=h ⟨k⟩
def Fl(h:Bx Q->P:=by
 intro zq;have sE:=pC;have S1:LB C V0 b3 l Nn _:=LB.start h hs hb;have rf:=S1.pp;have ij:=S1.WJ;go_enter func308,ntmps308;go_wp2_with fail;refine wpLive 9 (λV=>V.heap[V0.heap.size]?=some (.cells #[pP C] 128 (0,0))/\V.heap[V0.heap.size+1]?=some (.cells #[.pointer b3] 322 (0,0))) (λV s=>And.intro (Bm.bc s.1 0) (Bm.bc s.2 0)) ?_ λFF ak=>?_
 ·
  exact Eg
 refine tkT 0 ?_;refine tkT 1 ?_;refine tkT 2 ?_;refine rdT 3 λK hK=>?_;go_simp;refine(Kz C _ _ _ _ S1.drew.ps hi).mono ?_;rintro e w1 ⟨⟨ia,ic,rfl,hvi,NG⟩,P1,K1⟩;dsimp only;have S2:=S1.drew.aB P1 K1;obtain⟨NH,-,-,-,-,NI,-⟩:=Bm.cc S2.s;have NK:=al S2.s;have vj:=ZF hvi S1.drew.lt;have S3:=S2.st 0 (iV 5);have vk:=vg vj ij 0 (iV 5);have S4:=S3.st 5 (sV ia lB.length ic);have uV:=vg vk ij 5 (sV ia lB.length ic);refine hK _ _ ⟨S2.x1,S2.x2⟩ (λak=>?_);refine sp ?_;refine tkT 4 ?_;refine tkT 5 ?_;refine rdT 6 λK hK=>?_;go_simp;rename_i bC bX cU dz fZ iI;revert sE S1 rf ij bC bX cU FF dz fZ iI w1 ia ic hvi NG P1 K1 S2 NH NI NK vj S3 vk S4 uV ak K hK;exact zq.out):=h ⟨k⟩
def ox(h:Bx Q->P:=by
 intro zq K hK;go_simp;have h6:((w1.alloc (cO #[t.k,t.t,x1,y1] 187)).alloc lA).drew.heap[w1.heap.size+1]?=some lA:=(show((w1.alloc (cO #[t.k,t.t,x1,y1] 187)).alloc lA).heap[w1.heap.size+1]?=some lA by rw[heap_alloc,aI ai])
 refine hK _ _ ⟨aD ak.1,ak.2.alloc _⟩ (λak=>?_);clear hK K;refine sp ?_;refine rdT 0 λK hK=>?_;go_simp;refine(QJ _).mono ?_;rintro e wA ⟨gm,rfl,hD,kB⟩;dsimp only;have mw:=aJ h6 kB;obtain⟨sN,sO,tF,tG,-⟩:=cc (W:=wA) (b:=w1.heap.size+1) mw;have sP:∀j,wA.frozen? ⟨w1.heap.size+1,j,none⟩=false:=al mw;refine hK _ _ ⟨aJ ak.1 kB,ak.2.no kB⟩ (λak=>?_);clear hK K;refine sp ?_;refine rdT 3 λK hK=>?_;have hl:=gY underlying319 underlying9 hD dq;go_simp;refine hK _ _ ⟨ak.1,ak.2⟩ (λak=>?_);clear hK K;refine sp ?_;refine tkT 4 ?_;refine tkT 5 ?_;refine tkT 6 ?_;refine rdT 8 λK hK=>?_;go_simp;rename_i bC bX;revert h6 bC wA gm hD kB mw sN sO tF tG sP bX hl ak K hK;exact zq.out):=h ⟨k⟩
def mN(h:Bx Q->P:=by
 intro zq ht hk h eF dQ dq;revert hk h eF dQ dq;refine nx ?_;intro hk h eF dQ dq;go_enter func345,ntmps345;go_wp2_with fail;refine(ajt S0.ps).mono ?_;rintro e w1 ⟨x1,y1,rfl,P1,K1⟩;have S1:=(S0.aB P1 K1).alloc (cO #[t.k,t.t,x1,y1] 187);have gJ:(w1.alloc (.cells #[t.k,t.t,x1,y1] 187)).heap[w1.heap.size]?=some (.cells #[t.k,t.t,x1,y1] 187):=ao;obtain⟨n,e1,_,asf⟩:=S1.ps.c1;have ash:=S1.ps.fr 1;have tj:=S1.ps.len;have hn:(n:Int)<=10000:=ab;have nz:(0:Int)<=n:=ab;have iC:=(S0.aB P1 K1).lt;have rY:w1.heap.size≠C.p:=Fm;have Bj:((w1.alloc (cO #[t.k,t.t,x1,y1] 187)).setCell ⟨C.p,1,none⟩ (iV ((n:Int)+1))).heap[w1.heap.size]?=some (cO #[t.k,t.t,x1,y1] 187):=(ll _ _ _ _ Fo).trans gJ;have d1:=bc (W:=(w1.alloc (cO #[t.k,t.t,x1,y1] 187)).setCell ⟨C.p,1,none⟩ (iV ((n:Int)+1))) (bx:=w1.heap.size) Bj 1;revert S1 gJ e1 iC rY Bj;refine LX ?_;intro S1 gJ e1 iC rY Bj;clear tj;replace ht:=ah ht;clear asf ash d1 Bj;go_wp2_with fail;refine wpLive 9 (λV=>V.heap[w1.heap.size]?=some (cO #[t.k,t.t,x1,y1] 187)/\St C w (t::r) lA V) (λV s=>bc s.1 1) ?_ λFF ak=>?_
 ·
  exact⟨gJ,S1.drew⟩
 refine tkT 1 ?_;refine tkT 2 ?_;rename_i bC bX cU dz fZ;revert hk h eF dQ dq w1 x1 y1 P1 K1 n bC hn nz S1 gJ e1 iC rY ht bX cU dz fZ FF ak;exact zq.out):=h ⟨k⟩
def Fp(h:Bx Q->P:=by intro zq auG R5 hC5 abp Uu hB5 asm K hK eG kA PC hR6 avG;intro v' W' iH lE aL;obtain⟨va,vc,IN⟩:=iH.form;rw[j0,abi] at IN;subst IN;have hfp:=adq (mk:=(λu=>#[.string (bs nm),false,sV Fq fo.length BL,sV NO pa.length NP,sV Pz cr.length PB,u,nS])) (λ_ _=>rfl) (G5.alloc (cO #[iV k,fn,sV a2 m2 c2,sV a3 m3 c3,tk,tn,sV a6 m6 c6,tv,ts,sV a9 m9 c9,sV oN m10 jI,sV nJ m11 iE,sV a12 m12 gh,sV j7 m13 ft,rs] 149)) PC iH lE nA (show(w.heap.size+1+1) < w.heap.size+3 by omega) (R5.kept kA (λ_ _ _ e=>e));have QE:=Ut (g:=(w.heap.size+1+1)) (λb hb=>hb) (hC5.kept kA (λ_ _ _ e=>e)) lE (by have:=PE.out;omega) aL;have GA:=(G5.alloc (cO #[iV k,fn,sV a2 m2 c2,sV a3 m3 c3,tk,tn,sV a6 m6 c6,tv,ts,sV a9 m9 c9,sV oN m10 jI,sV nJ m11 iE,sV a12 m12 gh,sV j7 m13 ft,rs] 149)).step lE PF;have c9:=bc (W:=W') (bx:=(w.heap.size+1+1)) GA.rc 5;have f9:=GA.Xo 5;have hb9:=GA.box mf gU zU;have hB9:Hid (B0<=W'.heap.size):=ah RS;revert hfp QE;refine ct ?_;intro hfp QE;clear eG kA PC hR6 avG iH lE aL GA asm abp Uu hB5 auG R5 hC5;refine hK _ _ ⟨hb9,c9⟩ (λak=>?_);clear hK K;refine sp ?_;refine tkT 7 ?_;refine ddT 8 λK hK=>?_;go_simp;refine hK _ _ ?_;clear hK K;refine sp ?_;refine dnT ?_;obtain⟨g6,o6,r6'⟩:=hfp.out;revert W' va vc c9 f9 hb9 hB9 hfp QE ak g6 o6 r6';exact zq.out):=h ⟨k⟩
def yC(h:Bx Q->P:=by intro zq fx hw eK;obtain⟨hk,ht,hl⟩:=Mq hw;have hko:((aZ l2).k:Int)=2:=dJ;replace hw:=ah hw;have G0:=ah (((GB.start h).push (cO #[oZ,eS,nS,false,false] 146) rfl).push (cO #[oZ,eS,nS,false,false] 146) ai);have eo:=ah (eP h);revert fx eK;refine ct ?_;intro fx eK;replace hl:=ah hl;go_enter func229,ntmps229;go_wp2_with fail;refine(ahn G0.ps "detachable").mono ?_;rintro e w1 ⟨rfl,P1,K1⟩;rw[hv] at P1|-;rw[h1] at P1;have G1:=ah (G0.aB P1 K1);obtain⟨jI,iE,gh,ft,js,-⟩:=cc (G1.out.bx 1 _ rfl);have f1:=al (G1.bx 1 _ rfl);go_wp2_with fail;have G2:=ah (G1.st 1 3 (.bool vv));refine(ahn G2.ps "separate").mono ?_;rintro e w2 ⟨rfl,P2,K2⟩;rw[hs] at P2|-;rw[h2] at P2;rename_i bC bX cU dz;revert hk ht hko hw G0 eo fx eK hl w1 P1 K1 G1 jI iE gh ft js f1 bC bX cU dz G2 w2 P2 K2;exact zq.out):=h ⟨k⟩
def Fs(h:Bx Q->P:=by
 intro zq h5;have eo:=ah (eP h);have rk:Hid (C.Bd<=w.heap.size):=ah h.bd;obtain⟨W,hW⟩:∃W,W=w.alloc (cO #[oZ,eS,oZ,nS] 181):=⟨_,rfl⟩
 have dZ:Kept aK w W:=eW;have hz:W.heap[w.heap.size]?=some (.cells #[oZ,eS,oZ,nS] 181 (0,0)):=mO;have BM:=h.kept dZ (λ_ e=>e.elim);have xh:W.heap.size=w.heap.size+1:=iS;replace dZ:=ah (aK.to (F:=ch C) dZ);revert h5 hW hz BM xh;refine nx ?_;intro h5 hW hz BM xh;go_enter func286,ntmps286;go_wp2_with fail;rw[<-hW.out];refine bY (bU BM h5 "old" n0) λv1 P1 K1=>?_;have ey:=(K1.block _ (aQ.1 hz).1 bJ).trans hz;replace K1:=ah (dZ.trans' K1);revert P1 ey;refine ct ?_;intro P1 ey;go_wp2_with fail;refine bY (bU P1 h5 "not" n1) λv2 P2 K2=>?_;have oY:=(K2.block _ (aQ.1 ey).1 bJ).trans ey;replace K2:=ah (K1.trans' K2);revert P2 oY;refine ct ?_;intro P2 oY;go_wp2_with fail;rename_i bC bX cU dz fZ iI;revert eo rk W dZ h5 hW hz BM xh v1 K1 P1 ey v2 K2 P2 oY bC bX cU dz fZ iI;exact zq.out):=h ⟨k⟩
def Ft(h:Bx Q->P:=by intro zq;refine df 0 ?_;refine df 1 ?_;refine df 2 ?_;refine df 3 ?_;refine df 4 ?_;refine df 5 ?_;refine df 6 ?_;refine df 7 ?_;refine df 8 ?_;refine df 9 ?_;refine df 10 ?_;refine df 11 ?_;refine df 12 ?_;refine df 13 ?_;refine df 14 ?_;refine df 15 ?_;refine df 16 ?_;refine df 17 ?_;refine df 18 ?_;refine df 19 ?_;refine df 20 ?_;refine df 21 ?_;exact zq.out):=h ⟨k⟩
def Fu(h:Bx Q->P:=by
 intro zq hP lH hO hc gT de h6 lX rZ aN;dsimp only at rZ;revert hP lH hO hc gT de h6 lX rZ aN;refine zQ ?_;intro hP lH hO hc gT de h6 lX rZ aN;go_wp2_with fail;refine bY (oy hP "," hc) λw2 P2 K2=>?_;revert P2 K2;refine ct ?_;intro P2 K2;go_wp2_with fail;refine bY (ho f bT _ _ _ _ P2 lX) λw3 P3 K3=>?_;obtain⟨V,hV⟩:∃V,V=w3.alloc (cO #[y] 9):=⟨_,rfl⟩
 have jl:Kept (ch C) wr V:=mg;have pD:=K2.size;have xD:=lH.size;have nR:OwnR w.heap.size w V 9 1 (sV a7 acc.length gy) acc:=
  hO.kept jl cC cT
 have qp:aP (λb=>w.heap.size<=b/\Value.ownBlock (sV a7 acc.length gy)≠some b) V [y] [y]:=by exact Em
 have Jb:PS C V r3:=nK;have eG:∀(j:Nat) (u:YE),([y]:YT)[j]?=some u->V.cell? ((⟨w3,0,none⟩:Addr).add j)=some u:=kF;have lD:w.heap.size<=V.heap.size:=kG;revert nR qp Jb;refine jk ?_;intro nR qp Jb;replace jl:=ah (lH.trans' jl);revert eG lD;refine ct ?_;intro eG lD;subst hV;go_wp2_with (at_builtin;refine bu (P:=prog) underlying22 hi hz cL dY rfl ab ab rfl (.tmp 14) (.tmp 17) rfl rfl ⟨w3,0,none⟩ 1 rfl _ _ nR lD dr rfl eG qp ?_);revert hP lH hO hc gT de h6 lX rZ aN w2 P2 K2 w3 P3 K3 pD xD nR qp Jb jl eG lD;exact zq.out):=h ⟨k⟩
def Fv(h:Bx Q->P:=by
 intro zq;refine(gA G4.ps mM).mono ?_;rintro e w3 ⟨rfl,K3⟩;rw[xe];have G5:=ah (G4.no K3);obtain⟨cap,c0⟩:=G5.out.ps.c0t;obtain⟨n,a,b,e1,c1,bQ,bL,z1,z2,z3,z4⟩:=G5.out.ps.tok (k:=0) rfl;have hlen:=G5.ps.len;have hf4:=G5.ps.c4;have fp:=G5.ps.fr 1;simp only[fS] at bQ z1 z2 z3 z4;have ph:((n:Int) < (C.L.length:Int)):=ab;have nz:(0:Int)<=(n:Int):=ab;have e2:IntKind.i64.wrap ((n:Int)+1)=(n:Int)+1:=lF _ ab;have q0:((bs t.t).toList==[78,79,78,69])=(t.t==tx "NONE"):=by have hh:=cH bL (aV (s:= "NONE") aj);rw[dW (bs "NONE")] at hh;exact hh
 rw[eK.out] at q0;have q1:((bs t.t).toList==[73,78,84,69,71,69,82])=(t.t==tx "INTEGER"):=by have hh:=cH bL (aV (s:= "INTEGER") aj);rw[dW (bs "INTEGER")] at hh;exact hh
 replace bL:=ah bL;obtain⟨jI,iE,gh,ft,js,-⟩:=cc (G5.out.bx 1 _ rfl);have f1:=al (G5.bx 1 _ rfl);go_wp2_with fail;go_quiet (fail)
 rename_i bC bX;revert w3 K3 G5 cap c0 n a b e1 c1 bQ z1 z2 z3 z4 hlen hf4 fp ph nz e2 q0 q1 bL jI iE gh ft js f1 bC bX nq;exact zq.out):=h ⟨k⟩
def Fw(h:Bx Q->P:=by
 intro zq;go_enter func182,ntmps182;go_wp2_with fail;refine bY (Mr G0.ps h1) λw1 P1 K1=>?_;have G1:=ah (G0.aB P1 K1);go_wp2_with fail;refine(NQ (kc.kept G1.sg.kp (λb hb _ e=>hS b hb e)) cR tj).mono ?_;rintro e w2 ⟨ca,cc,rfl,Zr,K2⟩;have G2:=G1.no K2;have dM:w.heap.size+2<=w2.heap.size:=vo;have Uv:w.heap.size+2<=w1.heap.size:=Fx;have hb:w2.heap[w.heap.size]?=some (.cells #[pP C] 128 (0,0)):=G2.bx 0 _ rfl;have hz:w2.heap[w.heap.size+1]?=some (.cells #[oZ,eS,nS,nS,oZ,eS,nS,false,false,nS,nS,nS,nS,nS,false] 149 (0,0)):=G2.bx 1 _ rfl;have gU:w.heap.size≠C.p:=gO;have vq:w.heap.size+1≠C.p:=gO;have Kw:=ah G2.sg.kp;have G5:GB C w2 r1 [cO #[iV 2,nm,sV ca cl.length cc,nS,oZ,eS,nS,false,false,nS,nS,nS,nS,nS,false] 149] (w2.alloc (cO #[iV 2,nm,sV ca cl.length cc,nS,oZ,eS,nS,false,false,nS,nS,nS,nS,nS,false] 149)):=(GB.start G2.ps).push (cO #[iV 2,nm,sV ca cl.length cc,nS,oZ,eS,nS,false,false,nS,nS,nS,nS,nS,false] 149) rfl;have R5:aP (oW w w2) (w2.alloc (cO #[iV 2,nm,sV ca cl.length cc,nS,oZ,eS,nS,false,false,nS,nS,nS,nS,nS,false] 149)) [.int 2,nm,(strs cl),.sl [],.int 0,.str [],.sl [],false,false,.sl [],.sl [],.sl [],.sl [],.sl [],false] [iV 2,nm,sV ca cl.length cc,nS,oZ,eS,nS,false,false,nS,nS,nS,nS,nS,false]:=by exact Nd
 revert dM hb hz gU vq G5 R5;refine Wy ?_;intro dM hb hz gU vq G5 R5;have pb:=Bm.bc (bZ G5.sg hb gU) 0;go_wp2_with fail;rename_i bC bX cU dz fZ iI;revert w1 P1 K1 G1 w2 ca cc Zr K2 G2 Uv Kw dM hb hz gU vq G5 R5 pb bC bX cU dz fZ iI;exact zq.out):=h ⟨k⟩
def KC(h:Bx Q->P:=by
 intro zq h1 h4 h3 dq;have dQ:=mP h;have S0:=ah (Sg.start h);have k1:(((aZ l).k:Int)==1)=false:=pE;have k4:(((aZ l).k:Int)==4)=false:=vr;have k3:(((aZ l).k:Int)==3)=true:=Fy;revert h1 h4 h3 dq dQ;refine nx ?_;intro h1 h4 h3 dq dQ;go_enter func277,ntmps277;go_wp2_with fail;refine(me S0.ps).mono ?_;rintro e w1 ⟨x1,y1,rfl,P1,K1⟩;have S1:=ah ((S0.aB P1 K1).alloc (cO #[iV (aZ l).k,(bs (aZ l).t),x1,y1] 187));have gJ:(w1.alloc (.cells #[.int .i64 (aZ l).k,(bs (aZ l).t),x1,y1] 187)).heap[w1.heap.size]?=some (.cells #[.int .i64 (aZ l).k,(bs (aZ l).t),x1,y1] 187):=ao;replace gJ:=ah gJ;have iC:=ah (S0.aB P1 K1).le;go_wp2_with fail;refine wpLive 9 (λV=>V.heap[w1.heap.size]?=some (cO #[iV (aZ l).k,(bs (aZ l).t),x1,y1] 187)/\Sg C w l V) (λV s=>bc s.1 1) ?_ λFF ak=>?_
 ·
  exact⟨gJ,S1.drew⟩
 refine tkT 1 ?_;refine tkT 2 ?_;rename_i bC bX cU dz;revert S0 k1 k4 k3 h1 h4 h3 dq dQ w1 x1 y1 P1 K1 S1 gJ iC bC bX cU dz FF ak;exact zq.out):=h ⟨k⟩
def Fz(h:Bx Q->P:=by
 intro zq;have sE:=pC;have S1:LB C V0 b3 l Nn _:=LB.start h hs hb;have rf:=S1.pp;have ij:=S1.WJ;go_enter func308,ntmps308;go_wp2_with fail;refine wpLive 9 (λV=>V.heap[V0.heap.size]?=some (.cells #[pP C] 128 (0,0))/\V.heap[V0.heap.size+1]?=some (.cells #[.pointer b3] 322 (0,0))) (λV s=>And.intro (Bm.bc s.1 0) (Bm.bc s.2 0)) ?_ λFF ak=>?_
 ·
  exact Eg
 refine tkT 0 ?_;refine tkT 1 ?_;refine tkT 2 ?_;refine rdT 3 λK hK=>?_;go_simp;refine(Kz C _ _ _ _ S1.drew.ps hi).mono ?_;rintro e w1 ⟨⟨ia,ic,rfl,hvi,NG⟩,P1,K1⟩;dsimp only;have S2:=S1.drew.aB P1 K1;obtain⟨NH,-,-,-,-,NI,-⟩:=Bm.cc S2.s;have NK:=al S2.s;rename_i bC bX cU;revert sE S1 rf ij bC bX cU FF ak K hK w1 ia ic hvi NG P1 K1 S2 NH NI NK;exact zq.out):=h ⟨k⟩
def FA(h:Bx Q->P:=by intro zq;go_enter func197,ntmps197;go_wp2_with fail;refine(Bg G0.ps mM "detachable").mono ?_;rintro e w1 ⟨rfl,P1,K1⟩;rw[hv] at P1|-;rw[h1] at P1;have G1:=ah (G0.aB P1 K1);obtain⟨jI,iE,gh,ft,js,-⟩:=cc (G1.out.bx 1 _ rfl);have f1:=al (G1.bx 1 _ rfl);go_wp2_with fail;have G2:=ah (G1.st 1 3 (.bool vv));refine(Bg G2.ps mM "separate").mono ?_;rintro e w2 ⟨rfl,P2,K2⟩;rw[hs] at P2|-;rw[h2] at P2;have G3:=ah (G2.aB P2 K2);obtain⟨jI,iE,gh,ft,js,-⟩:=cc (G3.out.bx 1 _ rfl);have f1:=al (G3.bx 1 _ rfl);go_wp2_with fail;rename_i bC bX cU dz fZ iI yz Bf I8 qJ qK uU;revert w1 P1 K1 G1 bC bX cU dz fZ iI G2 w2 P2 K2 G3 jI iE gh ft js f1 yz Bf I8 qJ qK uU;exact zq.out):=h ⟨k⟩
def KG(h:Bx Q->P:=by
 intro zq v' iH aL nE;have hyr:aP (λb=>(λb=>V0.heap.size+1 < b) b/\v'.ownBlock≠some b) W' [yk,yn,ym,rX] [yk,yn,ym,sV ya yl yc]:=
  .cons (.int _) (.cons (.str _) (.cons (.int _) (.cons (hyW.mono λb hb hl=>⟨by have:=S1.lt;omega,λe=>by have:=nE b e;omega⟩) .nil)))
 obtain⟨g6,ahq,rfl,ZG,tj,akq,akr,-⟩:=OwnR.two (x:=[xk,xn,xm,kids]) (z:=[.int 0,.str [],.int 0,.sl []]) iH hyr;have LS:=L3.set 3 (sV g6 2 ahq);have h36:b3 < g6:=RT;have hOS:=iH.kept (au (W:=W') b3 3 (sV g6 2 ahq)) FB FC;have hyS:=hyr.kept (au (W:=W') b3 3 (sV g6 2 ahq)) PG;obtain⟨g7,gy,hg7,-,-,Xp,Xq,hOY⟩:=OwnR.two (x:=[xk,xn,xm,kids]) (z:=[.int 0,.str [],.int 0,.sl []]) hOS hyS;obtain⟨rfl,rfl⟩:g7=g6/\gy=ahq:=Uw;obtain⟨u0,cu0⟩:=Xp 0 ab;obtain⟨u1,cu1⟩:=Xp 1 ab;obtain⟨u2,cu2⟩:=Xp 2 ab;obtain⟨u3,cu3⟩:=Xp 3 ab;have fz4:=Xq 4;have fz5:=Xq 5;have fz6:=Xq 6;have fz7:=Xq 7;have c3:_=(some (.slice ge 1 1):Option Value):=(aC L3.s 3).trans NF;have f3:=al L3.s 3;revert g7 gy ZG tj akq akr h36 iH aL nE hyr LS hOS hyS hg7 Xp Xq hOY u0 cu0 u1 cu1 u2 cu2 u3 cu3 fz4 fz5 fz6 fz7 c3 f3;exact zq.out):=h ⟨k⟩
def FD(h:Bx Q->P:=by
 intro zq y hm cg h4 lX aN P2 K2;revert P2 K2;refine ct ?_;intro P2 K2;go_wp2_with fail;refine(ho f bT _ _ _ _ P2 lX).mono ?_;rintro e w3 ⟨⟨v,rfl,k',zt,ks',asd,ase,a',m',c',rfl,rfl,hv⟩,P3,K3⟩;obtain⟨V,hV⟩:∃V,V=w3.alloc (cO #[k',zt,sV a' m' c',asd,ase] 146):=⟨_,rfl⟩
 have jl:Kept (ch C) wr V:=mg;have pD:=K2.size;have xD:=lH.size;have nR:OwnR w.heap.size w V 146 5 (sV a7 acc.length gy) acc:=
  hO.kept jl cC cT
 have qp:aP (λb=>w.heap.size<=b/\Value.ownBlock (sV a7 acc.length gy)≠some b) V [k',zt,ks',asd,ase] [k',zt,sV a' m' c',asd,ase]:=by exact RI
 have Jb:PS C V r3:=nK;have eG:∀(j:Nat) (u:YE),([k',zt,sV a' m' c',asd,ase]:YT)[j]?=some u->V.cell? ((⟨w3,0,none⟩:Addr).add j)=some u:=kF;have lD:w.heap.size<=V.heap.size:=kG;revert nR qp Jb;refine jk ?_;intro nR qp Jb;replace jl:=ah (lH.trans' jl);revert eG lD;refine ct ?_;intro eG lD;subst hV;rename_i bC bX;revert P2 K2 bC bX w3 k' zt ks' asd ase a' m' c' hm cg h4 lX aN hv P3 K3 pD xD nR qp Jb jl eG lD;exact zq.out):=h ⟨k⟩
def FE(h:Bx Q->P:=by intro zq;go_enter func335,ntmps335;go_wp2_with fail;refine bD (Ba _ S0.ps) λw1 K1=>?_;have S1:=ah (S0.no K1);go_wp2_with fail;refine bY (bU S1.ps h5 "True" m0) λw2 P2 K2=>?_;have S2:=ah (S1.aB P2 K2);go_wp2_with fail;refine bY (bU S2.ps h5 "False" m1) λw3 P3 K3=>?_;have S3:=ah (S2.aB P3 K3);go_wp2_with fail;refine bY (bU S3.ps h5 "Void" m2) λw4 P4 K4=>?_;have S4:=ah (S3.aB P4 K4);go_wp2_with fail;refine bY (bU S4.ps h5 "Current" m3) λw5 P5 K5=>?_;have S5:=ah (S4.aB P5 K5);go_wp2_with fail;rename_i bC bX cU dz fZ iI;revert w1 K1 S1 w2 P2 K2 S2 w3 P3 K3 S3 w4 P4 K4 S4 w5 P5 K5 S5 bC bX cU dz fZ iI;exact zq.out):=h ⟨k⟩
def pF(h:Bx Q->P:=by intro zq;go_enter func345,ntmps345;go_wp2_with fail;refine(ajt S0.ps).mono ?_;rintro e w1 ⟨x1,y1,rfl,P1,K1⟩;have S1:=(S0.aB P1 K1).alloc (cO #[t.k,t.t,x1,y1] 187);have gJ:(w1.alloc (.cells #[t.k,t.t,x1,y1] 187)).heap[w1.heap.size]?=some (.cells #[t.k,t.t,x1,y1] 187):=ao;obtain⟨n,e1,_,asf⟩:=S1.ps.c1;have ash:=S1.ps.fr 1;have tj:=S1.ps.len;have hn:(n:Int)<=10000:=ab;have nz:(0:Int)<=n:=ab;have iC:=(S0.aB P1 K1).lt;have rY:w1.heap.size≠C.p:=Fm;have Bj:((w1.alloc (cO #[t.k,t.t,x1,y1] 187)).setCell ⟨C.p,1,none⟩ (iV ((n:Int)+1))).heap[w1.heap.size]?=some (cO #[t.k,t.t,x1,y1] 187):=(ll _ _ _ _ Fo).trans gJ;have d1:=bc (W:=(w1.alloc (cO #[t.k,t.t,x1,y1] 187)).setCell ⟨C.p,1,none⟩ (iV ((n:Int)+1))) (bx:=w1.heap.size) Bj 1;revert S1 gJ e1 iC rY Bj;refine LX ?_;intro S1 gJ e1 iC rY Bj;rename_i bC bX cU dz fZ;revert bC bX cU dz w1 x1 y1 P1 K1 n fZ asf ash tj hn nz d1 S1 gJ e1 iC rY Bj;exact zq.out):=h ⟨k⟩
def oz(h:Bx Q->P:=by intro zq hD K hK;go_simp;have jH:=ak;replace hD:=aD (x:=lA) hD;have mw:(wA.alloc lA).heap[wA.heap.size]?=some lA:=ao;refine hK _ _ ⟨aD ak.1,ak.2.alloc _⟩ (λak=>?_);clear hK K;refine sp ?_;refine rdT 3 λK hK=>?_;have hl:=gY underlying319 underlying9 hD dq;go_simp;refine hK _ _ ⟨ak.1,ak.2⟩ (λak=>?_);clear hK K;refine sp ?_;refine tkT 4 ?_;refine tkT 5 ?_;refine tkT 6 ?_;rename_i bC;revert jH hD mw bC hl ak;exact zq.out):=h ⟨k⟩
def mQ(h:Bx Q->P:=by intro zq hD K hK;have hl:=gY underlying319 underlying9 hD dq;go_simp;refine hK _ _ ⟨ak.1,ak.2⟩ (λak=>?_);clear hK K;refine sp ?_;refine tkT 4 ?_;refine tkT 5 ?_;refine tkT 6 ?_;refine rdT 7 λK hK=>?_;go_simp;have jH:=ak;replace hD:=aD (x:=lA) hD;have mw:(wA.alloc lA).heap[wA.heap.size]?=some lA:=ao;refine hK _ _ ⟨aD ak.1,ak.2.alloc _⟩ (λak=>?_);clear hK K;refine sp ?_;rename_i bC;revert hl bC jH hD mw ak;exact zq.out):=h ⟨k⟩
def FG(h:Bx Q->P:=by
 intro zq K hK asm KD;replace asm:=ah asm;clear KD;refine hK _ _ ⟨G5.box mf gU zU,G5.cellAt 5⟩ (λak=>?_);clear hK K;refine sp ?_;refine rdT 5 λK hK=>?_;go_simp;refine hK _ _ ⟨aD ak.1,cD _ ak.2⟩ (λak=>?_);clear hK K;refine sp ?_;refine rdT 6 λK hK=>?_;have eG:∀(j:Nat) (u:YE),([iV k,fn,sV a2 m2 c2,sV a3 m3 c3,tk,tn,sV a6 m6 c6,tv,ts,sV a9 m9 c9,sV oN m10 jI,sV nJ m11 iE,sV a12 m12 gh,sV j7 m13 ft,rs]:YT)[j]?=some u->(w5.alloc (cO #[iV k,fn,sV a2 m2 c2,sV a3 m3 c3,tk,tn,sV a6 m6 c6,tv,ts,sV a9 m9 c9,sV oN m10 jI,sV nJ m11 iE,sV a12 m12 gh,sV j7 m13 ft,rs] 149)).cell? ((⟨w5,0,none⟩:Addr).add j)=some u:=eH;have kA:Kept aK w5 (w5.alloc (cO #[iV k,fn,sV a2 m2 c2,sV a3 m3 c3,tk,tn,sV a6 m6 c6,tv,ts,sV a9 m9 c9,sV oN m10 jI,sV nJ m11 iE,sV a12 m12 gh,sV j7 m13 ft,rs] 149)):=(Kept.refl aK w5).alloc _;have PC:=auG.kept kA (λ_ _ _ e=>e) (λ_ _ e=>e);have hR6:aP (λb=>B0<=b/\Value.ownBlock (sV a5 acc.length c5)≠some b) (w5.alloc (cO #[iV k,fn,sV a2 m2 c2,sV a3 m3 c3,tk,tn,sV a6 m6 c6,tv,ts,sV a9 m9 c9,sV oN m10 jI,sV nJ m11 iE,sV a12 m12 gh,sV j7 m13 ft,rs] 149)) _ [iV k,fn,sV a2 m2 c2,sV a3 m3 c3,tk,tn,sV a6 m6 c6,tv,ts,sV a9 m9 c9,sV oN m10 jI,sV nJ m11 iE,sV a12 m12 gh,sV j7 m13 ft,rs]:=(asm.kept kA (λ_ _ _ e=>e)).mono λb hb hl=>⟨cn abp hb,λe=>by have h1:=Uu b e;simp only[eB] at hb;omega⟩
 have avG:acc.length<=1000000:=RU;rename_i bC;revert asm bC ak K hK eG kA PC hR6 avG;exact zq.out):=h ⟨k⟩
def KH(h:Bx Q->P:=by
 intro zq;have S6:=(S5.aB P5 K5)
 have h45:=cu h4 K5 iT;have hv6:=hv.kept K5 PH;have KT:Kept (ch C) wr w5:=(K4.trans k4 At).trans' K5;have auG:OwnR w.heap.size w w5 183 5 (sV a7 acc.length gy) acc:=
  hO.kept KT ed nQ
 obtain⟨b0,b1,b2,b3,b4,-⟩:=cc (W:=w5) (b:=w2) h45;have f0:∀j,w5.frozen? ⟨w2,j,none⟩=false:=al h45;obtain⟨V,Zx⟩:∃V,V=w5.alloc (cO #[nm,ek,en,em,sV ea el ec] 183):=⟨_,rfl⟩
 have kV:Kept aK w5 V:=RV;have Ah:=auG.kept kV (λ_ _ _ e=>e) (λ_ _ e=>e);have hR:aP (λb=>w.heap.size<=b/\Value.ownBlock (sV a7 acc.length gy)≠some b) V (.str nm::[.int ek,.str en,.int em,.sl kids]) [nm,ek,en,em,sV ea el ec]:=by exact Xk
 have TU:=S6.no kV;have eG:∀(j:Nat) (u:YE),[Value.string (bs nm),iV ek,.string (bs en),iV em,sV ea el ec][j]?=some u->V.cell? ((⟨w5,0,none⟩:Addr).add j)=some u:=pG;have lD:w.heap.size<=V.heap.size:=TU.le;revert Ah hR TU eG lD;refine nx ?_;intro Ah hR TU eG lD;subst Zx;revert S6 h45 hv6 KT auG b0 b1 b2 b3 b4 f0 kV Ah hR TU eG lD;exact zq.out):=h ⟨k⟩
def Ci(h:Bx Q->P:=by
 intro zq;have g1:(k:Int) < (s.length:Int):=by omega
 have g2:(0:Int)<=(k:Int):=ab;obtain⟨d,LY⟩:∃d,s[k]?=some d:=⟨_,ck hk⟩
 have M6:=oR s hs k ab d LY;have lG:iD d=true:=dV.1 hd d (cm LY);have akg:48<=d/\d<=57:=by simp[iD] at lG;omega
 have jq:=adr s k d LY;have hle:=KJ s hd (k+1);have abj:=KJ s hd k;have Qy:=num_nonneg (s.take k) Ux;have Cj:=hm.out;obtain⟨A,hA⟩:∃A,A=num (s.take k):=⟨_,rfl⟩
 obtain⟨B,hB⟩:∃B,B=num (s.take (k+1)):=⟨_,rfl⟩
 rw[<-hA] at jq abj Qy|-;rw[<-hB] at jq hle;have e1:IntKind.i64.wrap (10*A)=10*A:=lF _ ab;revert g1 g2 d LY M6 lG akg Cj A Qy abj hA B hle jq hB e1;exact zq.out):=h ⟨k⟩
def FH(h:Bx Q->P:=by intro zq x hm cg fy Xs WK hx aN h4;rintro e w4 ⟨⟨v,rfl,ek,en,em,kids,ea,el,ec,rfl,rfl,hv⟩,P4,K4⟩;have S4:=S3.aB P4 K4;have h44:=cu h4 K4 iT;have I6:=K4.size;obtain⟨b0,b1,b2,b3,b4,-⟩:=cc (W:=w4) (b:=w2) h44;have f0:∀j,w4.frozen? ⟨w2,j,none⟩=false:=al h44;replace h4:=ah (Xr h44 (iV ek) (.string (bs en)) (iV em) (sV ea el ec));have k4:=NR w4 w2.heap.size (iV ek) (.string (bs en)) (iV em) (sV ea el ec);have S5:=S4.step k4 Au;have ZH:=hv.kept k4 Av;have K5:=K3.trans' K4;replace S5:=ah S5;replace hv:=ah ZH;replace K4:=ah K5;revert I6 k4;refine ct ?_;intro I6 k4;go_wp2_with fail;rename_i bC bX cU dz;revert w4 ek en em kids ea el ec hm cg fy Xs WK hx aN P4 S4 h44 b0 b1 b2 b3 b4 f0 h4 ZH K5 S5 hv K4 I6 k4 bC bX cU dz;exact zq.out):=h ⟨k⟩
def CQ(h:Bx Q->P:=by intro zq;have RC:=vg Rz ij 6 (sV ba body.length bc);have RD:=vg RA ij 6 (sV ba body.length bc);refine hK _ _ ⟨jx.x1,jx.x2⟩ (λak=>?_);refine sp ?_;refine tkT 3 ?_;refine tkT 4 ?_;refine ddT 5 λK hK=>?_;go_simp;refine hK _ _ ?_;refine sp ?_;refine dnT ?_;have ahm:=Bm.bc mx.x1 0;go_wp2_with fail;refine bY (fj mx.ps "end" Pk) λw8 P8 K8=>?_;have qo:=mx.aB P8 K8;have CS:=gC Mo K8 rf ij;rename_i bC bX;revert RC RD ak K hK ahm bC bX w8 P8 K8 qo CS;exact zq.out):=h ⟨k⟩
def mC(h:Bx Q->P:=by intro zq;rintro W ⟨gJ,S2,h6⟩;obtain⟨n2,e2,_,cp2⟩:=S2.ps.c1;have fp2:=S2.ps.fr 1;have tj:=S2.ps.len;have Pt:(n2:Int)<=10000:=ab;have Pu:(0:Int)<=n2:=ab;have S3:=S2.TT e2 rfl;have h63:(W.setCell ⟨C.p,1,none⟩ (iV ((n2:Int)+1))).heap[g6]?=_:=(ll _ _ _ _ CV).trans h6;obtain⟨b0,b1,b2,b3,-⟩:=cc (W:=W.setCell ⟨C.p,1,none⟩ (iV ((n2:Int)+1))) (b:=w) S3.box;have f0:∀j,(W.setCell ⟨C.p,1,none⟩ (iV ((n2:Int)+1))).frozen? ⟨w,j,none⟩=false:=al S3.box;obtain⟨sN,sO,tF,tG,-⟩:=cc (W:=W.setCell ⟨C.p,1,none⟩ (iV ((n2:Int)+1))) (b:=g6) h63;have sP:∀j,(W.setCell ⟨C.p,1,none⟩ (iV ((n2:Int)+1))).frozen? ⟨g6,j,none⟩=false:=al h63;replace S3:=ah S3;clear h6 gJ h63 e2 tj;go_wp2;rename_i bC;revert W S2 n2 bC cp2 fp2 Pt Pu b0 b1 b2 b3 f0 sN sO tF tG sP S3;exact zq.out):=h ⟨k⟩
def KM(h:Bx Q->P:=by
 intro zq;go_simp;have h6:((w1.alloc (cO #[iV (aZ l).k,(bs (aZ l).t),x1,y1] 187)).alloc lA).drew.heap[w1.heap.size+1]?=some lA:=(show((w1.alloc (cO #[iV (aZ l).k,(bs (aZ l).t),x1,y1] 187)).alloc lA).heap[w1.heap.size+1]?=some lA by rw[heap_alloc,aI ai])
 refine hK _ _ ⟨aD ak.1,ak.2.alloc _⟩ (λak=>?_);refine sp ?_;refine rdT 0 λK hK=>?_;go_simp;refine(QJ _).mono ?_;rintro e wA ⟨gm,rfl,hD,kB⟩;dsimp only;have mw:=aJ h6 kB;obtain⟨sN,sO,tF,tG,-⟩:=cc (W:=wA) (b:=w1.heap.size+1) mw;have sP:∀j,wA.frozen? ⟨w1.heap.size+1,j,none⟩=false:=al mw;refine hK _ _ ⟨aJ ak.1 kB,ak.2.no kB⟩ (λak=>?_);refine sp ?_;refine rdT 3 λK hK=>?_;rename_i bC bX cU;revert h6 bC bX cU wA gm hD kB mw sN sO tF tG sP ak K hK;exact zq.out):=h ⟨k⟩
def Cf(h:Bx Q->P:=by intro zq K hK;go_simp;have S7:=S6.alloc (cO #[ky,ny,my,sV ay ly cy] 181);obtain⟨b0,b1,b2,b3,-⟩:=cc (W:=wB.alloc (cO #[ky,ny,my,sV ay ly cy] 181)) (b:=w) S7.box;have f0:∀j,(wB.alloc (cO #[ky,ny,my,sV ay ly cy] 181)).frozen? ⟨w,j,none⟩=false:=al S7.box;refine hK _ _ (aD ak) (λak=>?_);clear hK K;refine sp ?_;refine tkT 4 ?_;refine ddT 5 λK hK=>?_;go_simp;refine hK _ _ ?_;clear hK K;refine sp ?_;refine dnT ?_;go_wp2;revert S7 b0 b1 b2 b3 f0 ak;exact zq.out):=h ⟨k⟩
def FI(h:Bx Q->P:=by
 intro zq x Uy IP;rintro e w1 ⟨⟨v,rfl,xk,xn,xm,kids,xa,xl,xc,rfl,rfl,hv⟩,P1,K1⟩;have S1:=S0.aB P1 K1;have bQ:=S0.lt;have iC:=S1.lt;have S2:=S1.alloc (cO #[xk,xn,xm,sV xa xl xc] 181);have h5:(w1.alloc (.cells #[xk,xn,xm,.slice xa xl xc] 181)).heap[w1.heap.size]?=some (.cells #[xk,xn,xm,.slice xa xl xc] 181):=ao;have FJ:an (λb=>w.heap.size < b/\b≠w1.heap.size) (w1.alloc (cO #[xk,xn,xm,sV xa xl xc] 181)) (.sl kids) (sV xa xl xc):=hv.keep (λb hb hl=>⟨by omega,by omega⟩) ai λb _ hl=>jm _ _ _ hl;have hrel:Hid (RP C w w1.heap.size F row r F (w1.alloc (cO #[xk,xn,xm,sV xa xl xc] 181))):=ah ⟨F,r1,xk,xn,xm,kids,xa,xl,xc,S2,h5,FJ,IP.out,aM _,aM _⟩;have ph:=ah iC;go_wp2_with fail;obtain⟨g3,Bk⟩:∃g3,g3=w1.heap.size:=⟨_,rfl⟩
 have M7:w.heap.size < g3:=Bk▸ph;rw[<-Bk] at hrel|-;revert Bk M7;refine ct ?_;intro Bk M7;rename_i bC bX;revert w1 xk xn xm kids xa xl xc Uy IP hv P1 K1 S1 bQ iC S2 h5 FJ ph bC bX g3 hrel Bk M7;exact zq.out):=h ⟨k⟩
def FK(h:Bx Q->P:=by
 intro zq y hm cg h4 lX aN;rintro e w3 ⟨⟨v,rfl,k',zt,n',Uz,a',m',c',rfl,rfl,hv⟩,P3,K3⟩;obtain⟨V,hV⟩:∃V,V=w3.alloc (cO #[k',zt,n',sV a' m' c'] 181):=⟨_,rfl⟩
 have jl:Kept (ch C) wr V:=mg;have pD:=K2.size;have xD:=lH.size;have nR:OwnR w.heap.size w V 181 4 (sV a7 acc.length gy) acc:=
  hO.kept jl cC cT
 have qp:aP (λb=>w.heap.size<=b/\Value.ownBlock (sV a7 acc.length gy)≠some b) V [k',zt,n',Uz] [k',zt,n',sV a' m' c']:=by exact RH
 have Jb:PS C V r3:=nK;have eG:∀(j:Nat) (u:YE),[Value.int .i64 k',.string (bs zt),iV n',sV a' m' c'][j]?=some u->V.cell? ((⟨w3,0,none⟩:Addr).add j)=some u:=kF;have lD:w.heap.size<=V.heap.size:=kG;revert nR qp Jb;refine jk ?_;intro nR qp Jb;replace jl:=ah (lH.trans' jl);revert eG lD;refine ct ?_;intro eG lD;subst hV;revert w3 k' zt n' Uz a' m' c' hm cg h4 lX aN hv P3 K3 pD xD nR qp Jb jl eG lD;exact zq.out):=h ⟨k⟩
def FM(h:Bx Q->P:=by intro zq K hK asl;have S5:=S4.no K5;have ar6:=aJ ak K5;obtain⟨b0,b1,b2,b3,-⟩:=cc (W:=w5) (b:=w) S5.box;have f0:∀j,w5.frozen? ⟨w,j,none⟩=false:=al S5.box;obtain⟨sN,sO,tF,tG,-⟩:=cc (W:=w5) (b:=g5) ar6;have sP:∀j,w5.frozen? ⟨g5,j,none⟩=false:=al ar6;have abq:an (λb=>w.heap.size < b/\b≠g5) w5 (.sl _) (sV za zl zc):=asl.mono (λb hb _=>hb.elim (λhb=>hb) Aw);replace S5:=ah S5;replace asl:=ah abq;have h5h:=ah ar6;refine hK _ _ (ar6) (λak=>?_);clear hK K;refine sp ?_;refine ddT 7 λK hK=>?_;revert ar6 b0 b1 b2 b3 f0 sN sO tF tG sP abq S5 asl h5h ak K hK;exact zq.out):=h ⟨k⟩
def FN(h:Bx Q->P:=by intro zq fx hw eK;obtain⟨hk,ht,hl⟩:=Mq hw;have hko:((aZ l2).k:Int)=2:=dJ;replace hw:=ah hw;have G0:=ah (((GB.start h).push (cO #[oZ,eS,nS,false,false] 146) rfl).push (cO #[oZ,eS,nS,false,false] 146) ai);have eo:=ah (eP h);revert fx eK;refine ct ?_;intro fx eK;replace hl:=ah hl;go_enter func229,ntmps229;go_wp2_with fail;refine(ahn G0.ps "detachable").mono ?_;rintro e w1 ⟨rfl,P1,K1⟩;rw[hv] at P1|-;rw[h1] at P1;have G1:=ah (G0.aB P1 K1);rename_i bC bX cU dz;revert hk ht hko hw G0 eo fx eK hl bC bX cU dz w1 P1 K1 G1;exact zq.out):=h ⟨k⟩
def FO(h:Bx Q->P:=by intro zq;go_enter func311,ntmps311;go_wp2_with fail;refine(me (h.alloc _)).mono ?_;rintro e w1 ⟨x1,y1,rfl,P1,K1⟩;revert P1 K1;refine ct ?_;intro P1 K1;go_wp2_with fail;refine bY (ew P1 "-" g0) λw2 P2 K2=>?_;replace P2:=ah P2;replace K2:=ah (K1.trans' K2);go_wp2_with fail;refine bY (ew P2 "not" g1) λw3 P3 K3=>?_;replace P3:=ah P3;replace K3:=ah (K2.trans' K3);go_wp2_with fail;rename_i bC bX cU dz fZ iI;revert bC bX w1 x1 y1 P1 K1 w2 P2 K2 w3 P3 K3 cU dz fZ iI;exact zq.out):=h ⟨k⟩
def NU(h:Bx Q->P:=by intro zq;refine sp ?_;refine rdT 3 λK hK=>?_;go_simp;refine hK _ _ ⟨S8.x1,S8.x2⟩ (λak=>?_);refine sp ?_;refine tkT 4 ?_;refine tkT 5 ?_;refine ddT 6 λK hK=>?_;go_simp;refine hK _ _ ?_;refine sp ?_;refine dnT ?_;have pb6:=Bm.bc S9.x1 0;go_wp2_with fail;rename_i bC bX cU dz fZ iI;revert bC bX ak K hK pb6 cU dz fZ iI;exact zq.out):=h ⟨k⟩
def FP(h:Bx Q->P:=by intro zq;refine df 0 ?_;refine df 1 ?_;refine df 2 ?_;refine df 3 ?_;refine df 4 ?_;refine df 5 ?_;refine df 6 ?_;refine df 7 ?_;refine df 8 ?_;refine df 9 ?_;refine df 10 ?_;refine df 11 ?_;refine df 12 ?_;refine df 13 ?_;exact zq.out):=h ⟨k⟩
def KQ(h:Bx Q->P:=by intro zq;refine tkT 0 ?_;refine tkT 1 ?_;refine tkT 2 ?_;refine tkT 3 ?_;refine tkT 4 ?_;refine tkT 5 ?_;refine tkT 6 ?_;refine tkT 7 ?_;refine tkT 8 ?_;refine ddT 9 λK hK=>?_;go_simp;refine hK _ _ ?_;refine sp ?_;refine dnT ?_;revert K hK;exact zq.out):=h ⟨k⟩
def kx(h:Bx Q->P:=by
 intro zq;refine rdT 8 λK hK=>?_;go_simp;refine hK _ _ ⟨aD jH.1,jH.2.alloc _⟩ (λak=>?_);clear hK K;refine sp ?_;refine ddT 9 λK hK=>?_;go_simp;refine hK _ _ ?_;clear hK K;refine sp ?_;refine dnT ?_;obtain⟨g6,jQ⟩:∃g6,g6=wA.heap.size:=⟨_,rfl⟩
 have oO:w.heap.size < g6:=by rw[jQ];exact FQ
 revert ak g6 jQ oO;exact zq.out):=h ⟨k⟩
def FT(h:Bx Q->P:=by intro zq BN NV;have hz:=dp s;have BK:0 < s.length:=pH;have nB:=ah (oR s hs 0 ab c vu);have gV:=ah (λw=>ZI s hs ab 0 ab w);have UA:Hid (fD (s.drop 0)=s):=ah RX;have g0:(0:Int) < (s.length:Int):=ab;have g1:((s.length:Int)==0)=false:=cX;have g2:¬((s.length:Int)=0):=ab;have g3:¬((s.length:Int) < (s.length:Int)):=ab;have g4:s≠[]:=pH;have g5:((c:Int)==95)=false:=cX;have g6:¬c=95:=IL;revert BN NV;refine ct ?_;intro BN NV;revert hz BK nB gV UA g0 g1 g2 g3 g4 g5 g6 BN NV;exact zq.out):=h ⟨k⟩
def CO(h:Bx Q->P:=by
 intro zq;have pb8:=Bm.bc ke.x1 0;go_wp2_with fail;refine wpLive 5 (λV=>V.heap[V0.heap.size]?=some (.cells #[pP C] 128 (0,0))/\V.heap[V0.heap.size+1]?=some (.cells #[.pointer b3] 322 (0,0))) (λV s=>And.intro (Bm.bc s.1 0) (Bm.bc s.2 0)) ?_ λFF ak=>?_
 ·
  exact⟨ke.drew.x1,ke.drew.x2⟩
 refine tkT 0 ?_;refine tkT 1 ?_;refine rdT 2 λK hK=>?_;go_simp;refine(Kz C _ _ _ _ ke.drew.ps rk).mono ?_;rintro e w7 ⟨⟨ba,bc,rfl,hvb,Uj⟩,P7,K7⟩;dsimp only;have jx:=ke.drew.aB P7 K7;have Mn:=gC Ms ((Kept.refl _ _).drew.trans' K7) rf ij;rename_i bC bX;revert pb8 bC bX FF ak K hK w7 ba bc hvb Uj P7 K7 jx Mn;exact zq.out):=h ⟨k⟩
def KR(h:Bx Q->P:=by intro zq hD;go_simp;refine hK _ _ ⟨ak.1,ak.2⟩ (λak=>?_);refine sp ?_;refine tkT 4 ?_;refine tkT 5 ?_;refine tkT 6 ?_;refine rdT 7 λK hK=>?_;go_simp;have jH:=ak;replace hD:=aD (x:=lA) hD;have mw:(wA.alloc lA).heap[wA.heap.size]?=some lA:=ao;refine hK _ _ ⟨aD ak.1,ak.2.alloc _⟩ (λak=>?_);refine sp ?_;rename_i bC;revert bC K hK jH hD mw ak;exact zq.out):=h ⟨k⟩
def Ch(h:Bx Q->P:=by intro zq K hK;obtain⟨b0,b1,b2,b3,-⟩:=cc (W:=wB) (b:=w) S6.box;have f0:∀j,wB.frozen? ⟨w,j,none⟩=false:=al S6.box;refine hK _ _ (cu ak K6 Rw) (λak=>?_);clear hK K;refine sp ?_;refine tkT 4 ?_;refine ddT 5 λK hK=>?_;go_simp;refine hK _ _ ?_;clear hK K;refine sp ?_;refine dnT ?_;go_wp2;revert b0 b1 b2 b3 f0 ak;exact zq.out):=h ⟨k⟩
def NW(h:Bx Q->P:=by
 intro zq h5;have eo:=ah (eP h);have rk:Hid (C.Bd<=w.heap.size):=ah h.bd;obtain⟨W,hW⟩:∃W,W=w.alloc (cO #[oZ,eS,oZ,nS] 181):=⟨_,rfl⟩
 have dZ:Kept aK w W:=eW;have hz:W.heap[w.heap.size]?=some (.cells #[oZ,eS,oZ,nS] 181 (0,0)):=mO;have BM:=h.kept dZ (λ_ e=>e.elim);have xh:W.heap.size=w.heap.size+1:=iS;replace dZ:=ah (aK.to (F:=ch C) dZ);revert h5 hW hz BM xh;refine nx ?_;intro h5 hW hz BM xh;go_enter func286,ntmps286;go_wp2_with fail;rw[<-hW.out];rename_i bC bX cU dz fZ iI;revert eo rk W dZ h5 hW hz BM xh bC bX cU dz fZ iI;exact zq.out):=h ⟨k⟩
def FU(h:Bx Q->P:=by
 intro zq h3 oP;have S3:=ah (S2.aB P3 K3);have h33:=cu (cu h3 K2 yD) K3 yD;have sX:=(oP.kept K2 sa).kept K3 sa;have Xi:=ah (aQ.1 h33).1;replace h3:=ah h33;replace oP:=ah sX;go_wp2_with fail;refine wpLive 7 (λV=>V.heap[g3]?=some (cO #[xk,xn,xm,sV xa xl xc] 181)) (λV s=>And.intro (bc s 0) (And.intro (bc s 1) (And.intro (bc s 2) (bc s 3)))) ?_ λFF ak=>?_
 ·
  exact h3
 refine tkT 0 ?_;refine tkT 1 ?_;refine tkT 3 ?_;revert S3 h33 sX Xi h3 oP FF ak;exact zq.out):=h ⟨k⟩
def vw(h:Bx Q->P:=by
 intro zq;have sE:∀(fn:Fn) (first cap:Zt) (w:YC),(Instr.makeFunc fn first cap).run prog w=.ok (.func fn first cap) w:=λ_ _ _ _=>rfl;have Cj:=@run_makeMap prog;have x0:=ah (And.intro (adg w) (adh w));go_enter func87,ntmps87;go_wp2_with (first
  |(refine Us x0 λw1 x1 b1 m1=>?_;clear x0)
  |(refine Us x1 λw2 x2 b2 m2=>?_;clear x1 b1 m1)
  |(refine Us x2 λw3 x3 b3 m3=>?_;clear x2 b2 m2)
  |(refine Us x3 λw4 x4 b4 m4=>?_;clear x3 b3 m3;have f4:=x4.2.f4))
 obtain⟨w5,hw5⟩:∃w5,w5=w4.setCell ⟨w.heap.size+1,4,none⟩ (Value.map (some (w.heap.size+1+1+1))):=⟨_,rfl⟩
 have x5:=ah (And.intro (x4.1.adi hw5) (x4.2.adi hw5));rw[<-hw5];clear hw5 x4 b4 m4 f4;have b5:=x5.1.gX;have m5:=x5.2.c4;rename_i bC bX cU;revert sE Cj bC w1 w2 w3 w4 bX cU w5 x5 b5 m5;exact zq.out):=h ⟨k⟩
def atF(h:Bx Q->P:=by
 intro zq;rw[aE h3];have h0:¬(n:Int) < 0:=ab;have h4:¬(n:Int) < 10:=ab;have ih':=ih ab (n / 10) ab aug;rw[show((n / 10:Nat):Int)=(n:Int) / 10 from by omega] at ih';have hw5:IntKind.i64.wrap (48+(n:Int) % 10)=48+(n:Int) % 10:=i64_in _ ab;have hw6:IntKind.u8.wrap (48+(n:Int) % 10)=48+(n:Int) % 10:=u8_in _ ab;have hwq:IntKind.i64.wrap ((n:Int) / 10)=(n:Int) / 10:=i64_in _ ab;have dM:¬9223372036854775807 < (bs (tb (f+1) (n / 10))).size+(bs [48+n % 10]).size:=by exact au0
 have Qy:(48+(n:Int) % 10).toNat=48+n % 10:=ab;replace ih':=ah ih';revert h0 h4 hw5 hw6 hwq dM Qy ih';exact zq.out):=h ⟨k⟩
def FX(h:Bx Q->P:=by intro zq R hB hO hC;have pb:=bc (G.box mf gU zU) 0;go_wp2_with fail;refine(me G.ps).mono ?_;rintro e w6 ⟨x1,y1,rfl,P6,K6⟩;have G6:=ah (G.aB P6 K6);have PC:=ah (hO.kept K6 Ay Az);have R6:=ah (R.kept K6 gZ);have ZG:Hid (B0<=_):=ah (cn hB.out K6.size);have hC6:=ah (hC.kept K6 PI);clear hO R hB hC pb;have pb:=bc (G6.box mf gU zU) 0;rename_i bC bX cU dz fZ iI;revert bC bX cU dz fZ iI w6 x1 y1 P6 K6 G6 PC R6 ZG hC6 pb;exact zq.out):=h ⟨k⟩
def JQ(h:Bx Q->P:=by
 intro zq;have jF:Kept (λj=>lk=some j) W w':=(((jl.mono (λ_ e=>e.elim)).alloc _).drew).trans' A8;have zr:lk≠some (n+1):=λe=>by have:=hM.Zv _ e;omega
 have gc':=jF.aq hc zr;have gf':=(jF.frozen (p:=⟨n+1,0,none⟩) bQ zr).trans hf;dsimp only;refine hK _ _ bw (λ_=>?_);refine sp ?_;refine df 9 ?_;refine df 10 ?_;refine jR 11 λK hK=>?_;go_simp;rename_i bC;revert jF zr gc' gf' bC K hK;exact zq.out):=h ⟨k⟩
def FY(h:Bx Q->P:=by intro zq;go_enter func335,ntmps335;go_wp2_with fail;refine bD (Ba _ S0.ps) λw1 K1=>?_;have S1:=ah (S0.no K1);go_wp2_with fail;refine bY (bU S1.ps h5 "True" m0) λw2 P2 K2=>?_;have S2:=ah (S1.aB P2 K2);go_wp2_with fail;refine bY (bU S2.ps h5 "False" m1) λw3 P3 K3=>?_;have S3:=ah (S2.aB P3 K3);go_wp2_with fail;rename_i bC bX cU dz fZ iI;revert w1 K1 S1 w2 P2 K2 S2 w3 P3 K3 S3 bC bX cU dz fZ iI;exact zq.out):=h ⟨k⟩
def C0(h:Bx Q->P:=by
 intro zq;refine rdT 8 λK hK=>?_;go_simp;refine hK _ _ ⟨aD jH.1,jH.2.alloc _⟩ (λak=>?_);refine sp ?_;refine ddT 9 λK hK=>?_;go_simp;refine hK _ _ ?_;refine sp ?_;refine dnT ?_;obtain⟨g6,jQ⟩:∃g6,g6=wA.heap.size:=⟨_,rfl⟩
 have oO:w.heap.size<=g6:=by rw[jQ];exact FQ
 rename_i bC bX;revert bC bX ak K hK g6 jQ oO;exact zq.out):=h ⟨k⟩
def FZ(h:Bx Q->P:=by intro zq K hK;clear hK K;refine sp ?_;refine rdT 3 λK hK=>?_;have hl:=gE underlying319 underlying9 hD F0 dq;go_simp;refine hK _ _ ⟨ak.1,ak.2⟩ (λak=>?_);clear hK K;refine sp ?_;refine tkT 4 ?_;refine tkT 5 ?_;refine tkT 6 ?_;revert hl ak;exact zq.out):=h ⟨k⟩
def F3(h:Bx Q->P:=by intro zq;refine tkT 0 ?_;refine tkT 1 ?_;refine tkT 2 ?_;refine tkT 3 ?_;refine tkT 4 ?_;refine tkT 5 ?_;refine tkT 6 ?_;refine tkT 7 ?_;refine tkT 8 ?_;refine tkT 9 ?_;refine tkT 10 ?_;exact zq.out):=h ⟨k⟩
def kH(h:Bx Q->P:=by
 intro zq K hK;clear hK K;refine sp ?_;refine ddT 9 λK hK=>?_;go_simp;refine hK _ _ ?_;clear hK K;refine sp ?_;refine dnT ?_;obtain⟨g6,jQ⟩:∃g6,g6=w1.heap.size+1:=⟨_,rfl⟩
 have oO:w.heap.size < g6:=by rw[jQ];exact iJ
 revert g6 jQ oO;exact zq.out):=h ⟨k⟩
def auh(h:Bx Q->P:=by
 intro zq;have hn:∀t∈at8,((bs nm).toList==t.map UInt8.ofNat)=false:=λt ht=>by
  exact auY
 have h0:((bs nm).toList==[73,78,84,83])=false:=hn "INTS" aj;have h1:((bs nm).toList==[83,79,82,84,69,68])=false:=hn "SORTED" aj;have h2:((bs nm).toList==[83,84,65,67,75])=false:=hn "STACK" aj;have h3:((bs nm).toList==[81,85,69,85,69])=false:=hn "QUEUE" aj;have h4:((bs nm).toList==[84,65,66,76,69])=false:=hn "TABLE" aj;have h5:((bs nm).toList==[83,69,84])=false:=hn "SET" aj;have h6:((bs nm).toList==[67,79,85,78,84,69,82])=false:=hn "COUNTER" aj;have h7:((bs nm).toList==[82,65,78,71,69])=false:=hn "RANGE" aj;have h8:((bs nm).toList==[65,82,73,84,72])=false:=hn "ARITH" aj;revert hn h0 h1 h2 h3 h4 h5 h6 h7 h8;exact zq.out):=h ⟨k⟩
def F4(h:Bx Q->P:=by intro zq oP;have S2:=SS.aB P2 K2;have h33:=cu h3 K2 yD;have sX:=oP.kept K2 sa;obtain⟨b0,b1,b2,b3,-⟩:=cc (W:=w2) (b:=w) S2.box;have f0:∀j,w2.frozen? ⟨w,j,none⟩=false:=al S2.box;obtain⟨sN,sO,tF,tG,-⟩:=cc (W:=w2) (b:=g3) h33;have sP:∀j,w2.frozen? ⟨g3,j,none⟩=false:=al h33;replace S2:=ah S2;replace oP:=ah sX;go_wp2;revert h33 sX b0 b1 b2 b3 f0 sN sO tF tG sP S2 oP;exact zq.out):=h ⟨k⟩
def kI(h:Bx Q->P:=by intro zq;have eF:=h.shp;have dQ:=mP h;change bW t.t at dQ;have hw:=ah h.bd;have sE:=pC;have S0:=ah (St.start h lA);have k4:((t.k:Int)==4)=false:=dJ;have k1:((t.k:Int)==1)=false:=dJ;have k3:((t.k:Int)==3)=true:=dJ;revert eF dQ hw sE S0 k4 k1 k3;exact zq.out):=h ⟨k⟩
def vz(h:Bx Q->P:=by intro zq;refine(isA G8.ps "[").mono ?_;rintro e w6 ⟨rfl,P6,K6⟩;rw[lW];have G9:=ah (G8.aB P6 K6);obtain⟨jI,iE,gh,ft,js,-⟩:=cc (G9.out.bx 1 _ rfl);have f1:=al (G9.bx 1 _ rfl);obtain⟨b0,b1,b2,b3,b4,-⟩:=cc (W:=w6) (b:=w) (G9.out.bx 0 _ rfl);have fb:∀j,w6.frozen? ⟨w,j,none⟩=false:=al (G9.bx 0 _ rfl);go_wp2;revert w6 P6 K6 G9 jI iE gh ft js f1 b0 b1 b2 b3 b4 fb;exact zq.out):=h ⟨k⟩
def F5(h:Bx Q->P:=by intro zq K2;have S2:=(S1.aB P2 K2).alloc (cO #[nm,oZ,eS,oZ,nS] 183);have K2':=(K1.trans' K2).alloc (cO #[nm,oZ,eS,oZ,nS] 183);have h4:(w2.alloc (.cells #[nm,oZ,eS,oZ,nS] 183)).heap[w2.heap.size]?=some (.cells #[nm,oZ,eS,oZ,nS] 183):=ao;have oL:=(S1.aB P2 K2).le;have hlw:=ah (K1.trans' K2).size;revert S2 h4;refine ct ?_;intro S2 h4;replace K2:=ah K2';replace oL:=ah oL;go_wp2_with fail;rename_i bC bX cU dz;revert K2' hlw S2 h4 K2 oL bC bX cU dz;exact zq.out):=h ⟨k⟩
def Db(h:Bx Q->P:=by intro zq;go_enter func277,ntmps277;go_wp2_with fail;refine(me S0.ps).mono ?_;rintro e w1 ⟨x1,y1,rfl,P1,K1⟩;have S1:=ah ((S0.aB P1 K1).alloc (cO #[iV (aZ l).k,(bs (aZ l).t),x1,y1] 187));have gJ:(w1.alloc (.cells #[.int .i64 (aZ l).k,(bs (aZ l).t),x1,y1] 187)).heap[w1.heap.size]?=some (.cells #[.int .i64 (aZ l).k,(bs (aZ l).t),x1,y1] 187):=ao;replace gJ:=ah gJ;have iC:=ah (S0.aB P1 K1).le;rename_i bC bX cU dz;revert bC bX cU dz w1 x1 y1 P1 K1 S1 gJ iC;exact zq.out):=h ⟨k⟩
def F7(h:Bx Q->P:=by
 intro zq jF;replace jF:=ah jF;go_wp2_with fail;refine bY (fj S2.ps ";" xA) λw3 P3 K3=>?_;have S3:=S2.aB P3 K3;have UC:=cu h4 K3 iT;have ij:=ah (aQ.1 UC).1;have KT:Kept (ch C) wr w3:=K2.trans' K3;have nR:OwnR w.heap.size w w3 239 8 (sV a7 acc.length gy) acc:=
  hO.kept KT ed nQ
 rename_i bC bX cU dz;revert jF bC bX cU dz w3 P3 K3 S3 UC ij KT nR;exact zq.out):=h ⟨k⟩
def KU(h:Bx Q->P:=by intro zq Mb ZJ;obtain⟨NY,gJ,h35⟩:=ZJ.1 _ _ _ hV.out;have x5:=(aC gJ 5).trans h35;clear h35;have Ph:=(ZJ.2 Bs _ _ ((Ma.block Bs (cA _ _ g2)).trans (QG.trans h2))).trans ((Ma.block Bs (cA _ _ g2)).trans QG);have Pm:=ah hB.out.size;have hBn:=hB.trans ((Ma.mono KY).trans Mb);clear ZJ gJ Mb;gi_wp2;revert NY x5 Ph Pm hBn;exact zq.out):=h ⟨k⟩
def F8(h:Bx Q->P:=by
 intro zq v h;obtain⟨a,cap,rfl,gF⟩:=h.aU;have eG:(strs fs).length=fs.length:=bR;rw[eG] at h gF|-;obtain⟨B,hB⟩:∃B,B=fs.contains s:=⟨_,rfl⟩
 rw[<-hB];replace hB:=ah hB;have lC:fs.length<=9223372036854775807:=gF;revert gF h;refine ct ?_;intro gF h;revert a cap eG B hB lC gF h;exact zq.out):=h ⟨k⟩
def F9(h:Bx Q->P:=by
 intro zq;refine sp ?_;refine ddT 9 λK hK=>?_;go_simp;refine hK _ _ ?_;refine sp ?_;refine dnT ?_;obtain⟨g6,jQ⟩:∃g6,g6=w1.heap.size+1:=⟨_,rfl⟩
 have oO:w.heap.size<=g6:=by rw[jQ];exact iJ
 revert K hK g6 jQ oO;exact zq.out):=h ⟨k⟩
def Ga(h:Bx Q->P:=by intro zq;go_wp2_with fail;refine(Ja bL false false true _).mono ?_;rintro e w4 ⟨rfl,rfl⟩;rw[zr.out];go_wp2_with fail;refine(Bh G6.ps.fm fx t.t bL).mono ?_;rintro e w5 ⟨rfl,rfl⟩;rw[oQ.out];rename_i bC bX cU dz;revert bC bX cU dz;exact zq.out):=h ⟨k⟩
def kJ(h:Bx Q->P:=by intro zq K hK;go_simp;refine(QJ _).mono ?_;rintro e wA ⟨gm,rfl,hD,kB⟩;dsimp only;refine hK _ _ ⟨aJ ak.1 kB,ak.2.no kB⟩ (λak=>?_);clear hK K;refine sp ?_;revert wA gm hD kB ak;exact zq.out):=h ⟨k⟩
def aui(h:Bx Q->P:=by intro zq;intro n h3 w;have h0:¬(n:Int) < 0:=ab;have h4:(n:Int) < 10:=ab;have hc:=aaI (W:=w.alloc (.cells #[.int .u8 (48+(n:Int))] 5 (0,0))) ao;have hn:(48+(n:Int)).toNat=48+n:=ab;rw[hn] at hc;replace hc:=ah hc;revert n h3 w h0 h4 hn hc;exact zq.out):=h ⟨k⟩
def Ce(h:Bx Q->P:=by
 intro zq hg9;go_wp2_with fail;rw[<-hg9];clear hg9;refine wpLive 5 (λV=>V.heap[g9]?=some (cO #[ky,ny,my,sV ay ly cy] 181)) (λV s=>And.intro (bc s 0) (And.intro (bc s 1) (And.intro (bc s 2) (bc s 3)))) ?_ λFF ak=>?_
 ·
  exact h9
 refine tkT 0 ?_;refine tkT 2 ?_;rename_i bC bX;revert bC bX FF ak;exact zq.out):=h ⟨k⟩
def Gb(h:Bx Q->P:=by intro zq hD;go_simp;have jH:=ak;replace hD:=aD (x:=lA) hD;have mw:(wA.alloc lA).heap[wA.heap.size]?=some lA:=ao;refine hK _ _ ⟨aD ak.1,ak.2.alloc _⟩ (λak=>?_);refine sp ?_;refine rdT 3 λK hK=>?_;revert jH hD mw ak K hK;exact zq.out):=h ⟨k⟩
def asZ(h:Bx Q->P:=by intro zq a asJ;obtain⟨g,off,rfl,q0,q1,q2⟩:=asJ.out k _ hz;replace q0:=hK.aq q0 (λe=>e);replace q1:=hK.aq q1 (λe=>e);replace q2:=hK.aq q2 (λe=>e);have xY:(k:Int) < (KL:Int):=ab;have oL:(0:Int)<=(k:Int):=ab;rename_i bC;revert g off asJ bC q0 q1 q2 xY oL;exact zq.out):=h ⟨k⟩
def vA(h:Bx Q->P:=by
 intro zq tR;have h1:(k:Int) < (s.length:Int):=by omega
 have h2:(0:Int)<=(k:Int):=ab;obtain⟨c,hc⟩:∃c,s[k]?=some c:=⟨_,ck hk⟩
 have hb:=oR s hs k ab c hc;replace tR:=ah tR;go_wp2_with fail;rename_i bC bX cU dz fZ iI;revert h1 h2 c hc hb tR bC bX cU dz fZ iI;exact zq.out):=h ⟨k⟩
def Gc(h:Bx Q->P:=by intro zq hK aL nw ri nF;have de:∀{p:Addr} {u},w.cell? p=some u->wr.cell? p=some u:=λh=>hK.aq h (λe=>e);obtain⟨p0,p1,p2,p3,p4,-⟩:=hc (o:=oa+j*5) λk _ e=>de (Mc k _ e);obtain⟨q0,q1,q2,q3,q4,-⟩:=hc (o:=ob+j*5) λk _ e=>de (xE k _ e);have jS:(j:Int) < (rows.length:Int):=ab;have sQ:(0:Int)<=(j:Int):=ab;revert hK aL nw ri nF;refine nx ?_;intro hK aL nw ri nF;revert de p0 p1 p2 p3 p4 q0 q1 q2 q3 q4 jS sQ hK aL nw ri nF;exact zq.out):=h ⟨k⟩
def Gd(h:Bx Q->P:=by
 intro zq;go_simp;have ahl:(w3.alloc (.cells #[xk,xn,xm,.slice xa xl xc] 181)).drew.heap[w3.heap.size]?=some (.cells #[xk,xn,xm,.slice xa xl xc] 181):=(show(w3.alloc (.cells #[xk,xn,xm,.slice xa xl xc] 181)).heap[w3.heap.size]?=some (.cells #[xk,xn,xm,.slice xa xl xc] 181) by rw[heap_alloc,aI rfl])
 refine hK _ _ (aD ak) (λak=>?_);refine sp ?_;refine rdT 4 λK hK=>?_;go_simp;revert ahl ak K hK;exact zq.out):=h ⟨k⟩
def atG(h:Bx Q->P:=by intro zq;have n0:aO (tx "create") l=false:=bj hi aj;have n1:aO (tx "if") l=false:=bj hi aj;have n2:aO (tx "from") l=false:=bj hi aj;have n3:aO (tx "check") l=false:=bj hi aj;have n4:aO (tx "separate") l=false:=bj hi aj;have n5:aO (tx "retry") l=false:=bj hi aj;revert n0 n1 n2 n3 n4 n5;exact zq.out):=h ⟨k⟩
def vB(h:Bx Q->P:=by intro zq;have d2:=bc (H2.heap 0) 2;go_wp2_with fail;refine bD (H2.step λv hq up=>amS ih hq args hsa (up hx) az) λw3 H3=>?_;replace H3:=ah H3;go_wp2_with fail;go_end0;revert d2 w3 H3;exact zq.out):=h ⟨k⟩
def Ge(h:Bx Q->P:=by intro zq;have L9:=hM.c2;have NF:=hM.c3;have c1:=λw=>zx (s.high - s.low) w h1;have c2:=λw=>zx (s.high - s.low+1) w h2;have e1:IntKind.i64.wrap (s.high - s.low)=s.high - s.low:=lF _ Gf;have e2:IntKind.i64.wrap (s.high - s.low+1)=s.high - s.low+1:=lF _ Gf;revert L9 NF c1 c2 e1 e2;exact zq.out):=h ⟨k⟩
def Gg(h:Bx Q->P:=by intro zq;obtain⟨_,a,c,v1,-,q0,q1,q2⟩:=NZ hx.out bQ;replace q0:=hK.aq q0 (λe=>e);replace q1:=hK.aq q1 (λe=>e);replace q2:=hK.aq q2 (λe=>e);have xY:(k:Int) < 12:=ab;have oL:(0:Int)<=(k:Int):=ab;rename_i bC;revert bC a c v1 q0 q1 q2 xY oL;exact zq.out):=h ⟨k⟩
def CP(h:Bx Q->P:=by intro zq;have Rz:=gN RY ((Kept.refl _ _).drew.trans' K7) rf ij;have ac6:=Bm.bc jx.s 6;have ac7:=al jx.s 6;have RA:=ZF hvb ke.drew.lt;have mx:=jx.st 6 (sV ba body.length bc);have Mo:=A9 Mn ij 6 (sV ba body.length bc);revert Rz ac6 ac7 RA mx Mo;exact zq.out):=h ⟨k⟩
def Gh(h:Bx Q->P:=by intro zq hs q0;have h1:([T.str s]:Row).length=1:=rfl;rw[h1,fS,B6] at q0;have xY:(j:Int) < (KN:Int):=ab;have oL:(0:Int)<=(j:Int):=ab;have etk:ns.take (j+1)=ns.take j++[s]:=Gi;revert hs etk;refine ct ?_;intro hs etk;revert q0 h1 xY oL hs etk;exact zq.out):=h ⟨k⟩
def Gj(h:Bx Q->P:=by intro zq;have e6:=hI.2 6 _ rfl (hn 6 af);have d0:=hI.1.aq q0 (λe=>e);have d1:=hI.1.aq q1 (λe=>e);have d2:=hI.1.aq q2 (λe=>e);have d3:=hI.1.aq q3 (λe=>e);have d4:=hI.1.aq q4 (λe=>e);revert e6 d0 d1 d2 d3 d4;exact zq.out):=h ⟨k⟩
def Gk(h:Bx Q->P:=by intro zq;have e2:=hI.2 2 _ rfl (hn 2 af);have d0:=hI.1.aq p0 (λe=>e);have d1:=hI.1.aq p1 (λe=>e);have d2:=hI.1.aq p2 (λe=>e);have d3:=hI.1.aq p3 (λe=>e);have d4:=hI.1.aq p4 (λe=>e);revert e2 d0 d1 d2 d3 d4;exact zq.out):=h ⟨k⟩
def vC(h:Bx Q->P:=by
 intro zq;intro hF f hf;have IH:=ih ab;by_cases he:f<=F
 ·
  exact IH f he
 have:f=F+1:=ab;subst this;revert hF IH hf he;exact zq.out):=h ⟨k⟩
def kK(h:Bx Q->P:=by intro zq;have hw:=ah h.bd;have Ba:=ah (λw (h:PS C w (t::r))=>(show Calls prog 106 #[pP C] w λe w'=>e=.returned (iV (t.k:Nat))/\Kept aK w w' from gA h h5));have k4:((t.k:Int)==4)=false:=vD;have k1:((t.k:Int)==1)=false:=Gl;have S0:=ah (St.start h lA);revert hw Ba k4 k1 S0;exact zq.out):=h ⟨k⟩
def fN(h:Bx Q->P:=by intro zq;intro S S' w rows va vb eF v3 u3;obtain⟨a,cap,rfl,gF⟩:=v3.aU;obtain⟨b,vE,rfl,-⟩:=u3.aU;have lC:rows.length<=9223372036854775807:=gF;revert eF v3 u3;refine jk ?_;intro eF v3 u3;revert S S' w rows a cap gF b vE lC eF v3 u3;exact zq.out):=h ⟨k⟩
def vF(h:Bx Q->P:=by intro zq;have Pv:=aJ aks KZ;have hkW:=xi.kept KZ (λ_ _ _ e=>e);have L2:=L1.no KZ;have tH:an (λb=>W.heap.size<=b/\b < w1.heap.size) w1 (.sl rX) (sV ya yl yc):=qZ.mono (λb hb hl=>⟨by(try simp only[dB,eB] at hb);omega,hl⟩);have hxW:ge < W.heap.size:=(aQ.1 ads).1;revert Pv hkW L2 tH hxW;exact zq.out):=h ⟨k⟩
def vG(h:Bx Q->P:=by
 intro zq;obtain⟨W,hW⟩:∃W,W=w.alloc (cO #[oZ,eS,oZ,nS] 181):=⟨_,rfl⟩
 have dZ:Kept aK w W:=eW;have hz:W.heap[w.heap.size]?=some (.cells #[oZ,eS,oZ,nS] 181 (0,0)):=mO;have BM:=h.kept dZ (λ_ e=>e.elim);have xh:W.heap.size=w.heap.size+1:=iS;revert W hW dZ hz BM xh;exact zq.out):=h ⟨k⟩
def vH(h:Bx Q->P:=by intro zq;have hs9:=K9.size;have Xt:=aD (x:=(cO #[xk,xn,xm,sV xa xl xc] 181)) UD;have KA:Kept aK w9 (w9.alloc (cO #[xk,xn,xm,sV xa xl xc] 181)):=(Kept.refl _ _).alloc _;have hvA:=hv.kept KA (λ_ _ _ e=>e);have PA:=P9.kept KA (λ_ e=>e.elim);revert hs9 Xt KA hvA PA;exact zq.out):=h ⟨k⟩
def atH(h:Bx Q->P:=by intro zq;rintro e w3 ⟨rfl,P1,K1⟩;have G6:=ah (G5.aB P1 K1);have R6:Hid (aP (oW w w2) w3 [.int 2,nm,(strs cl),.sl [],.int 0,.str [],.sl [],false,false,.sl [],.sl [],.sl [],.sl [],.sl [],false] [iV 2,nm,sV ca cl.length cc,nS,oZ,eS,nS,false,false,nS,nS,nS,nS,nS,false]):=ah (eZ R5.out K1 eo.out);have pb:=Bm.bc (bZ G6.sg hb gU) 0;go_wp2_with fail;rename_i bC bX cU dz;revert w3 P1 K1 G6 R6 pb bC bX cU dz;exact zq.out):=h ⟨k⟩
def Gn(h:Bx Q->P:=by intro zq;go_wp2_with fail;refine bY (isA G7.ps ";") λw5 P1 K1=>?_;rw[h5.out];have G8:=ah (G7.aB P1 K1);have R8:Hid (aP (oW w w2) w5 [.int 2,nm,(strs cl),.sl [],tk,tn,Jc,lr,lu,.sl [],.sl [],.sl [],.sl [],.sl [],false] [iV 2,nm,sV ca cl.length cc,nS,tk,tn,sV ta tm tc,lr,lu,nS,nS,nS,nS,nS,false]):=ah (eZ R7.out K1 eo.out);rename_i bC bX cU dz fZ iI;revert bC bX cU dz fZ iI w5 P1 K1 G8 R8;exact zq.out):=h ⟨k⟩
def j9(h:Bx Q->P:=by intro zq K hK;go_simp;refine hK _ _ ?_;clear hK K;refine sp ?_;refine dnT ?_;exact zq.out):=h ⟨k⟩
def vI(h:Bx Q->P:=by intro zq K hK;go_simp;go_at_call 130;refine(kE _ _ ⟨_,_,_,rfl⟩).mono ?_;rintro e w' ⟨rfl,rfl⟩;go_wp2_with fail;refine hK _ _ vJ (λak=>?_);clear hK K;refine sp ?_;revert ak;exact zq.out):=h ⟨k⟩
def N2(h:Bx Q->P:=by intro zq qZ I6 SA;have h9:(wa.alloc (.cells #[ky,ny,my,.slice ay ly cy] 181)).heap[wa.heap.size]?=some (.cells #[ky,ny,my,.slice ay ly cy] 181):=ao;have tH:=qZ.kept (F:=aK) ((Kept.refl _ wa).alloc (cO #[ky,ny,my,sV ay ly cy] 181)) (λ_ _ _ e=>e);revert SA h9;refine ct ?_;intro SA h9;replace qZ:=ah tH;replace I6:=ah I6;revert tH SA h9 qZ I6;exact zq.out):=h ⟨k⟩
def Gp(h:Bx Q->P:=by intro zq;have x1:=Bn e1;have x2:=fl (B:=f) (λr n=>yF) (dE _) e2';have x3:=fl (B:=f) (λr n=>yF) (dE _) e3';have x4:=fl (B:=f) (λr n=>sd) (dE _) e4';have x5:=fl (B:=f) (λr n=>sd) (dE _) e5';revert x1 x2 x3 x4 x5;exact zq.out):=h ⟨k⟩
def Gq(h:Bx Q->P:=by
 intro zq;obtain⟨W,hW⟩:∃W,W=w.alloc zKd:=⟨_,rfl⟩
 have dZ:Kept aK w W:=eW;obtain⟨bz,IQ⟩:∃b,b=w.heap.size:=⟨_,rfl⟩
 have ey:W.heap[bz]?=some zKd:=oA;revert hW dZ IQ ey;refine jU ?_;intro hW dZ IQ ey;revert W bz hW dZ IQ ey;exact zq.out):=h ⟨k⟩
def Lb(h:Bx Q->P:=by intro zq;go_simp;have gc2:(V.alloc (cO #[I x] 3)).drew.cell? ⟨n+1,0,none⟩=some (sV a0 s.l.length akt):=(iW _ _ _ _ ab).trans gc;refine hK _ _ bw (λ_=>?_);refine sp ?_;refine jR 4 λK hK=>?_;rename_i bC;revert gc2 bC K hK;exact zq.out):=h ⟨k⟩
def M8(h:Bx Q->P:=by
 intro zq;have M9:=gN RC K8 rf ij;have Na:=gN RD K8 rf ij;have up:∀(N b:Nat),rl V0 b->b < N->V0.heap.size<=b:=λN b hb _=>by unfold rl at hb;omega
 go_wp2;go_end0;revert M9 Na up;exact zq.out):=h ⟨k⟩
def Gr(h:Bx Q->P:=by intro zq;have e8:=hI.2 8 _ rfl (hn 8 af);have d0:=hI.1.aq q1 (λe=>e);have d1:=hI.1.aq q2 (λe=>e);have d2:=hI.1.aq q3 (λe=>e);have d3:=hI.1.aq q4 (λe=>e);revert e8 d0 d1 d2 d3;exact zq.out):=h ⟨k⟩
def Gs(h:Bx Q->P:=by intro zq;have e3:=hI.2 3 _ rfl (hn 3 af);have d0:=hI.1.aq p1 (λe=>e);have d1:=hI.1.aq p2 (λe=>e);have d2:=hI.1.aq p3 (λe=>e);have d3:=hI.1.aq p4 (λe=>e);revert e3 d0 d1 d2 d3;exact zq.out):=h ⟨k⟩
def Lc(h:Bx Q->P:=by
 intro zq;have hz:=dp s;have h5L:Hid (∀w:World,an (λb=>b≠w.heap.size+1) (w.alloc (cO #[.string rv,.string nZ,.string ry,.string jX,.string kf] 9)) (.sl (strs kw5)) (sV (some ⟨w,0,none⟩) 5 5)):=ah (λw=>(aW (S:=λb=>b≠w.heap.size+1) (E:=9) (fr:=(0,0)) (wd:=1) (css:=kw5.map λs=>[.string (bs s)]) (arr:=#[.string rv,.string nZ,.string ry,.string jX,.string kf]) ao rfl (gP kw5) ab (aM _) aj));have h6L:Hid (∀w:World,an (λb=>b≠w.heap.size+1) (w.alloc (cO #[.string BU,.string xH,.string BV,.string qA,.string sJ] 9)) (.sl (strs kwl)) (sV (some ⟨w,0,none⟩) 5 5)):=ah (λw=>(aW (S:=λb=>b≠w.heap.size+1) (E:=9) (fr:=(0,0)) (wd:=1) (css:=kwl.map λs=>[.string (bs s)]) (arr:=#[.string BU,.string xH,.string BV,.string qA,.string sJ]) ao rfl (gP kwl) ab (aM _) aj));have hka:yG.contains s=(rn.contains s||kw5.contains s):=by rw[aku];simp
 revert hz h5L h6L hka;exact zq.out):=h ⟨k⟩
def dK(h:Bx Q->P:=by intro zq K hK;go_simp;refine hK _ _ vK (λak=>?_);clear hK K;refine sp ?_;revert ak;exact zq.out):=h ⟨k⟩
def ff(h:Bx Q->P:=by intro zq K hK;go_simp;refine hK _ _ pK (λak=>?_);clear hK K;refine sp ?_;revert ak;exact zq.out):=h ⟨k⟩
def kL(h:Bx Q->P:=by intro zq K hK;go_simp;refine hK _ _ vJ (λak=>?_);clear hK K;refine sp ?_;revert ak;exact zq.out):=h ⟨k⟩
def atI(h:Bx Q->P:=by intro zq;have Pu:¬((s.length:Int) > 20):=ab;go_wp2_with fail;have h6w:=h6L (w3.alloc (cO #[.string rv,.string nZ,.string ry,.string jX,.string kf] 9));simp only[dB] at h6w;rename_i bC bX cU dz fZ iI;revert Pu bC bX cU dz fZ iI h6w;exact zq.out):=h ⟨k⟩
def JO(h:Bx Q->P:=by intro zq;have hlA:([[xk,xn,xm,kids]]:Zg).length+ags.length<=1000000:=Sa;refine eh rfl (Gt (P:=prog) underlying179 hi hz cL dY rfl ab ab (.tmp 13) (.tmp 15) rfl rfl rfl hO Ph hlA hlen hA ?_);intro v' W' iH lE aL;obtain⟨va,vc,rfl⟩:=iH.form;revert hlA W' lE va vc iH aL;exact zq.out):=h ⟨k⟩
def vL(h:Bx Q->P:=by intro zq;have hl:s.length<=13:=Gu;have hz:=dp s;have BK:0 < s.length:=pH;have nB:=oR s hs 0 ab c vu;revert hl hz BK nB;exact zq.out):=h ⟨k⟩
def Cc(h:Bx Q->P:=by intro zq qZ S5;have h9:(w4.alloc (.cells #[ky,ny,my,.slice ay ly cy] 181)).heap[w4.heap.size]?=some (.cells #[ky,ny,my,.slice ay ly cy] 181):=ao;have tH:=qZ.kept (F:=aK) ((Kept.refl _ w4).alloc (cO #[ky,ny,my,sV ay ly cy] 181)) (λ_ _ _ e=>e);revert S5 h9;refine ct ?_;intro S5 h9;replace qZ:=ah tH;revert tH S5 h9 qZ;exact zq.out):=h ⟨k⟩
def Gv(h:Bx Q->P:=by
 intro zq hW;have hrel:Hid (EO "," one C w F ([x]::xs.map zT) r2 F (sV w1 1 1) W):=
  ah ⟨_,xs,F,r1,hO,hP,hK,ir.out,aM _,rfl,aM _,by have:=dx.out;simp;omega⟩
 go_wp2;rw[<-hW];replace hW:=ah hW;rename_i bC bX;revert hrel bC bX hW;exact zq.out):=h ⟨k⟩
def Gw(h:Bx Q->P:=by intro zq;go_wp2_with fail;refine bD (H3.step λv hq up=>Mt f p v _ _ k nm args vd sp c3 hq eF (up v3) fO) λw4 H4=>?_;replace H4:=ah H4;go_wp2_with fail;revert w4 H4;exact zq.out):=h ⟨k⟩
def kC(h:Bx Q->P:=by intro zq;intro v' W' iH lE aL;have Uq:PS C W' r3:=Jb.kept lE sf;have yu:Kept (ch C) w W':=jl.trans lE sj;revert v' W' iH lE aL Uq yu;exact zq.out):=h ⟨k⟩
def Ld(h:Bx Q->P:=by intro zq;have abr:=ah (rH (w:=w) sF dM);have G7:Hid (GB C w2 r4 [cO #[iV 2,nm,sV ca cl.length cc,nS,tk,tn,sV ta tm tc,lr,lu,nS,nS,nS,nS,nS,false] 149] w4):=ah (GT);have R7:Hid (aP (oW w w2) w4 [.int 2,nm,(strs cl),.sl [],tk,tn,Jc,lr,lu,.sl [],.sl [],.sl [],.sl [],.sl [],false] [iV 2,nm,sV ca cl.length cc,nS,tk,tn,sV ta tm tc,lr,lu,nS,nS,nS,nS,nS,false]):=ah (((((((lR R6 KT eo).mR (.int tk) 4).mR (.str tn) 5).mR abr 6).mR (.bool lr) 7).mR (.bool lu) 8));revert abr G7 R7;exact zq.out):=h ⟨k⟩
def vM(h:Bx Q->P:=by intro zq Xt PA ZL;obtain⟨z0,z1,z2,z3,-⟩:=cc (W:=w9.alloc (cO #[xk,xn,xm,sV xa xl xc] 181)) (b:=w) Xt;have y0:∀j,(w9.alloc (cO #[xk,xn,xm,sV xa xl xc] 181)).frozen? ⟨w,j,none⟩=false:=al Xt;revert Xt PA ZL;refine jk ?_;intro Xt PA ZL;revert z0 z1 z2 z3 y0 Xt PA ZL;exact zq.out):=h ⟨k⟩
def yH(h:Bx Q->P:=by intro zq;have rk:=ah h.bd;have eo:=ah (eP h);have G0:=ah (((GB.start h).push (cO #[pP C] 128) rfl).push (cO #[oZ,eS,nS,nS,oZ,eS,nS,false,false,nS,nS,nS,nS,nS,false] 149) ai);revert rk eo G0;exact zq.out):=h ⟨k⟩
def pL(h:Bx Q->P:=by intro zq fq;have hA1:=ah (aJ N4.out KK);have PJ:=ah (aJ nA.out KK);replace fq:=ah (fq.trans' KK);revert hA1 PJ fq;exact zq.out):=h ⟨k⟩
def pM(h:Bx Q->P:=by intro zq fq;have RO:=ah (aJ hA1.out KK);have Jd:=ah (aJ PJ.out KK);replace fq:=ah (fq.trans' KK);revert RO Jd fq;exact zq.out):=h ⟨k⟩
def rI(h:Bx Q->P:=by intro zq fq;have hA3:=ah (aJ RO.out KK);have Mp:=ah (aJ Jd.out KK);replace fq:=ah (fq.trans' KK);revert hA3 Mp fq;exact zq.out):=h ⟨k⟩
def pN(h:Bx Q->P:=by intro zq fq;have hA4:=ah (aJ hA3.out KK);have Xu:=ah (aJ Mp.out KK);replace fq:=ah (fq.trans' KK);revert hA4 Xu fq;exact zq.out):=h ⟨k⟩
def vN(h:Bx Q->P:=by intro zq o hr;simp only[res,Uf,wY] at hr;obtain⟨h1,hr⟩:=hr;obtain⟨r,hx,rfl⟩:=Ue.1 hr;revert h1 r hx hr;exact zq.out):=h ⟨k⟩
def Gx(h:Bx Q->P:=by intro zq;have Cj:=@run_makeMap prog;have z0:dG (w.alloc (.map #[] 0)) w.heap.size []:=UE;have x0:Hid (dG (w.alloc (.map #[] 0)) w.heap.size []/\Kept aK w (w.alloc (.map #[] 0))):=ah ⟨z0,(Kept.refl _ w).alloc _⟩;revert Cj z0 x0;exact zq.out):=h ⟨k⟩
def atK(h:Bx Q->P:=by intro zq;have hb:(w.alloc (cO #[nS,oZ] 30)).heap[w.heap.size]?=some (.cells #[nS,oZ] 30 (0,0)):=ao;have hK:=ah ((Kept.refl aK w).alloc (cO #[nS,oZ] 30));replace hb:=ah hb;revert hK hb;exact zq.out):=h ⟨k⟩
def Gy(h:Bx Q->P:=by
 intro zq;have e1:auX prog ns=(PK (mS ns)).map (nC prog):=by unfold auX;rw[if_pos ⟨h,h2⟩]
 have e2:clE ns=0:=by unfold clE;rw[if_neg ab,if_pos h2]
 rw[e1,e2];revert e1 e2;exact zq.out):=h ⟨k⟩
def fP(h:Bx Q->P:=by
 intro zq;obtain⟨row,aL⟩:∃x,rows[j]?=some x:=⟨_,ck hj⟩
 have nw:=eF row (cm aL);revert row aL nw;exact zq.out):=h ⟨k⟩
def GF(h:Bx Q->P:=by intro zq;have ut:aP S w [tk,tn,ta,tv,ts] [tk,tn,sV b6 ta.length e6,tv,ts]:=.cons (.int _) (.cons (.str _) (.cons u6 (.cons (.bool _) (.cons (.bool _) .nil))));have nB:(wr.alloc (cO #[fk,fn,sV b2 cl.length e2,sV b3 ags.length e3,tk,tn,sV b6 ta.length e6,tv,ts,sV b9 lo.length e9,sV Pn rq.length zv,sV Sb en.length xU,sV Sc bo.length Qz,sV L8 rb.length QA,rs] 149)).heap[wr.heap.size]?=some (.cells #[fk,fn,sV b2 cl.length e2,sV b3 ags.length e3,tk,tn,sV b6 ta.length e6,tv,ts,sV b9 lo.length e9,sV Pn rq.length zv,sV Sb en.length xU,sV Sc bo.length Qz,sV L8 rb.length QA,rs] 149 (0,0)):=ao;revert ut nB;exact zq.out):=h ⟨k⟩
def iX(h:Bx Q->P:=by intro zq cg;rw[fA] at cg;obtain⟨⟨y,r3⟩,lX,h4⟩:=aw.1 cg;revert cg y r3 lX h4;exact zq.out):=h ⟨k⟩
def kM(h:Bx Q->P:=by intro zq;have jS:(j:Int) < (l.length:Int):=ab;have sQ:(0:Int)<=(j:Int):=ab;revert jS sQ;exact zq.out):=h ⟨k⟩
def pO(h:Bx Q->P:=by intro zq;have jS:(j:Int) < (rows.length:Int):=ab;have sQ:(0:Int)<=(j:Int):=ab;revert jS sQ;exact zq.out):=h ⟨k⟩
def oB(h:Bx Q->P:=by intro zq;have hP:PS C W r1:=pI;have hK:Kept (ch C) w W:=FV;revert hP hK;exact zq.out):=h ⟨k⟩
def kN(h:Bx Q->P:=by intro zq;go_wp2_with (at_builtin;refine adw ?_);refine adx ?_;exact zq.out):=h ⟨k⟩
def rJ(h:Bx Q->P:=by
 intro zq;have Am:k=s.length:=by omega
 have h1:¬(k:Int) < (s.length:Int):=ab;revert Am h1;exact zq.out):=h ⟨k⟩
def vO(h:Bx Q->P:=by intro zq;have ph:((n:Int) < (C.L.length:Int)):=ab;have nz:(0:Int)<=(n:Int):=ab;revert ph nz;exact zq.out):=h ⟨k⟩
def GG(h:Bx Q->P:=by
 intro zq;have bQ:=(aQ.1 WC).1;have aL:∀(k:Nat) (row:Row),rows[k]?=some row->∃cs,css[k]?=some cs/\row.length=wd/\aP S' w row cs:=by exact Un
 revert bQ aL;exact zq.out):=h ⟨k⟩
def GH(h:Bx Q->P:=by
 intro zq;have xe:kwl.contains s=false/\(s.any cV&&s.any jT)=false/\s.length<=20/\k=if s.any cV then 1 else 2:=by exact RJ
 obtain⟨BK,hb,h20,xe⟩:=xe;revert BK hb h20 xe;exact zq.out):=h ⟨k⟩
def GI(h:Bx Q->P:=by intro zq;have hw:=ah h.bd;have Ba:=ah (λw (h:PS C w (t::r))=>(show Calls prog 106 #[pP C] w λe w'=>e=.returned (iV (t.k:Nat))/\Kept aK w w' from gA h h5));revert hw Ba;exact zq.out):=h ⟨k⟩
def fg(h:Bx Q->P:=by intro zq;have sE:∀(fn:Fn) (first cap:Zt) (w:YC),(Instr.makeFunc fn first cap).run prog w=.ok (.func fn first cap) w:=λ_ _ _ _=>rfl;revert sE;exact zq.out):=h ⟨k⟩
def et(h:Bx Q->P:=by
 intro zq;try simp only[Act.put,ma,mb,lj,hi]
 exact zq.out):=h ⟨k⟩
def oC(h:Bx Q->P:=by intro zq;have de:∀{p:Addr} {u},w.cell? p=some u->wr.cell? p=some u:=λh=>hK.aq h (λe=>e);revert de;exact zq.out):=h ⟨k⟩
def GK(h:Bx Q->P:=by intro zq;have gu:=ah (hK.alloc (cO #[fk,fn,sV b2 cl.length e2,sV b3 ags.length e3,tk,tn,sV b6 ta.length e6,tv,ts,sV b9 lo.length e9,sV Pn rq.length zv,sV Sb en.length xU,sV Sc bo.length Qz,sV L8 rb.length QA,rs] 149));revert gu;exact zq.out):=h ⟨k⟩
def GL(h:Bx Q->P:=by intro zq;have r3:v'.ownBlock=Value.ownBlock (.slice (some ⟨g,0,none⟩) rows.length cap)∨∀b,v'.ownBlock=some b->w.heap.size<=b:=.inr λb hb=>(r1.lt b hb).1;revert r3;exact zq.out):=h ⟨k⟩
def GM(h:Bx Q->P:=by intro zq;refine leaves_cons (f:=163) (args:=#[.pointer (some ⟨w.heap.size+1,0,none⟩),.pointer (some ⟨w.heap.size+1+1,0,none⟩)]) ai GP ?_;exact zq.out):=h ⟨k⟩
def GQ(h:Bx Q->P:=by intro zq;have de:∀{i u},w.cell? ⟨g,i,none⟩=some u->wr.cell? ⟨g,i,none⟩=some u:=λh=>(hK.cell (cA w _ h) (λe=>e)).trans h;revert de;exact zq.out):=h ⟨k⟩
def bJ(h:P:=by exact λe=>by have:=eo.out;change w.heap.size=C.p at e;omega):=h
def cT(h:P:=by exact λb hb e=>by have:=Ax.out;have:=(hO.lt b hb).1;unfold ch at e;omega):=h
def cC(h:P:=by exact λb hb _ e=>by have:=Ax.out;unfold ch at e;omega):=h
def ed(h:P:=by exact λb hb _ e=>by have:=eo.out;unfold ch at e;omega):=h
def gZ(h:P:=by exact λb hb _ e=>by have h1:=eo.out;have h2:=hb.1;change b=C.p at e;omega):=h
def fT(h:P:=by exact λb hb _ e=>by have:=hly.out;have:=eo.out;unfold ch at e;omega):=h
def sf(h:P:=by exact λb e=>by have:=(nR.lt b e).1;have:=hw.out;omega):=h
def nQ(h:P:=by exact λb hb e=>by have:=eo.out;have:=(hO.lt b hb).1;unfold ch at e;omega):=h
def bH(h:P:=by exact λb hb e=>by omega):=h
def bP(h:P:=by exact λ_=>by kernel_rfl):=h
def sj(h:P:=by exact λb hb e=>by have:=(nR.lt b e).1;omega):=h
def fh(h:P:=by exact λb e=>by have:=rk.out;omega):=h
def Ay(h:P:=by exact λb hb _ e=>by have h1:wb.heap.size<=B0:=nA.out;have h2:C.p < wb.heap.size:=G.pw;have h3:B0<=b:=hb;change b=C.p at e;omega):=h
def Az(h:P:=by exact λb hb e=>by have h1:wb.heap.size<=B0:=nA.out;have h2:C.p < wb.heap.size:=G.pw;have h3:=(hO.lt b hb).1;change b=C.p at e;omega):=h
def sa(h:P:=by exact λb hb _ e=>by have:=SS.pw;unfold ch at e;omega):=h
def fW(h:P:=by exact λb hb e=>by have:=IQ.out;omega):=h
def so(h:P:=by exact λb hb _ e=>by have:=eo.out;have:=xh.out;have h1:W.heap.size<=b:=hb;change b=C.p at e;omega):=h
def dH(h:P:=by exact λb hb _ e=>by omega):=h
def hZ(h:P:=by exact λb hb _ e=>by have:=hb.1;omega):=h
def jz(h:P:=by exact λe=>by have:=hF _ e (by omega);omega):=h
def dF(h:P:=by exact λb e _=>by omega):=h
def vP(h:P:=by exact λb hb _ e=>by have:=eo.out;rcases e with e|e<;>(try change b=C.p at e)<;>omega):=h
def pR(h:P:=by exact λb hb _ e=>by have h1:w.heap.size+1<=b:=hb;omega):=h
def sq(h:P:=by exact λb hb _ e=>by have:=S1.pp;have:=S1.WJ;unfold ch at e;have:=hb.1;omega):=h
def kO(h:P:=by exact λe=>by unfold ch at e;omega):=h
def Aw(h:P:=by exact λhb=>by have:=S4.lt;have:=(aQ.1 ak).1;omega):=h
def FC(h:P:=by exact λb hb e=>by have:=(iH.lt b hb).1;have:=S1.WJ;have:=de.out;omega):=h
def yJ(h:P:=by exact λb hb _ e=>by have:=eo.out;have:=hb.1;change b=C.p at e;omega):=h
def nT(h:P:=by exact λe=>by have:=hM.Zv _ e;simp at this;omega):=h
def PI(h:P:=by exact λb hb _ e=>by have h1:wb.heap.size<=B0:=nA.out;have h2:C.p < wb.heap.size:=G.pw;have h3:=hb.1;change b=C.p at e;omega):=h
def Dn(h:P:=by exact λb hb _=>⟨by have:=oL.out;have:=ij.out;omega,λe=>by have:=(hO.lt b e).2;have:=hlw.out;have:=ij.out;omega⟩):=h
def sr(h:P:=by exact λe=>by have:=(h.bx q hq).1;have:=hF _ e (h.lt q hq);omega):=h
def vQ(h:P:=by exact λb e _=>by have h1:=(hO.lt b e).1;have h2:=de.out;omega):=h
def nU(h:P:=by exact λb hb _ e=>by unfold xy at hb;omega):=h
def AB(h:P:=by exact λb hb _ e=>by have:=eo.out;have:=hb.1;rcases e with e|e<;>(try change b=C.p at e)<;>omega):=h
def su(h:P:=by exact λb e=>by have:=hF b e.1 e.2;have:=h.bd;omega):=h
def PH(h:P:=by exact λb hb _ e=>by have:=ij.out;have:=oL.out;have:=eo.out;unfold ch at e;omega):=h
def AD(h:P:=by exact λb hb _ e=>by have:=eo.out;have:=SS.le;have:=xY.out;unfold ch at e;omega):=h
def yt(h:P:=by exact λb e _=>by have:=(Ah.lt b e).1;omega):=h
def lJ(h:P:=by exact λb bQ e=>by omega):=h
def GS(h:P:=by exact λe=>by have:=eo.out;have:=xh.out;change w1.heap.size=C.p at e;omega):=h
def sv(h:P:=by exact λb e=>by cases e;exact aM _):=h
def Av(h:P:=by exact λb hb _ e=>by have:=ij.out;omega):=h
def FB(h:P:=by exact λb hb _ e=>by have:=S1.WJ;omega):=h
def sw(h:P:=by exact λb hb _=>by have:=UF.out;omega):=h
def lI(h:P:=by exact λe=>by omega):=h
def At(h:P:=by exact λb hb e=>by have:=hlw.out;omega):=h
def AE(h:P:=by exact λb hb _ e=>by have:=xh.out;have h1:W.heap.size<=b:=hb;omega):=h
def sx(h:P:=by exact λb hb _ e=>by have:=G.gv;omega):=h
def Au(h:P:=by exact λb e _=>by have:=oL.out;omega):=h
def lK(h:P:=by exact λb e=>by omega):=h
def PF(h:P:=by exact λb e=>by have h1:=(PC.lt b e).1;have h2:=nA.out;omega):=h
def AF(h:P:=by exact λe=>by dsimp only at e;subst e;rw[k7.out] at hd;cases hd):=h
def AH(h:P:=by exact λb hb hl e=>by have e':ge=b:=j6 e;omega):=h
def AI(h:P:=by exact λb _ hl=>⟨hl,λe=>by have:=(hO.lt b e).1;omega⟩):=h
def Ak(h:P:=by exact λb hb _ e=>by have h1:w.heap.size+2<=b:=hb;omega):=h
def nV(h:P:=by exact λi hi e=>by omega):=h
def AJ(h:P:=by exact λb hb _ e=>by have:=eo.out;change b=C.p at e;omega):=h
def GU(h:P:=by exact λe=>by subst e;have:=hx _ _ _ hA;revert this;decide):=h
def nW(h:P:=by exact λ_ h=>by cases h):=h
def AK(h:P:=by exact λe=>by have:=hF _ e;have:=h.pb;simp at*;omega):=h
def AM(h:P:=by exact λb hb _ e=>by unfold ch at e;have:=hpV.out;omega):=h
def nX(h:P:=by exact λj e=>by rw[e]):=h
def An(h:P:=by exact λb hb _ e=>by have:=S4.pw;unfold ch at e;omega):=h
def AN(h:P:=by exact λe=>by have:=eo.out;change g=C.p at e;omega):=h
def PG(h:P:=by exact λb hb _ e=>by have:=S1.WJ;have:=hb.1;omega):=h
def Aq(h:P:=by exact λb hb _=>by have:=de.out;unfold rl;omega):=h
def Ao(h:P:=by exact λe=>by have:=S4.pw;unfold ch at e;omega):=h
def as4(h:P:=by exact λrow h=>by rw[JH.1 h];rfl):=h
def Al(h:P:=by exact λb hb e=>by have:=(iH.lt b hb).1;omega):=h
def AO(h:P:=by exact λb hb e=>by have:=(hO.lt b e).1;omega):=h
def sy(h:P:=by exact λk hk=>by cases hk):=h
def AP(h:P:=by exact λb hb _ e=>by unfold N6 at hb;omega):=h
def AQ(h:P:=by exact λb e _=>by have:=iC.out;omega):=h
def GY(h:P:=by exact λg hg=>by have:=de g hg;omega):=h
def Aj(h:P:=by exact λe=>by have:=(hlb _ e).1;omega):=h
def Lf(h:P:=by exact λb hb e=>by have:=hF b e;omega):=h
def ef(h:P:=by(first|exact⟨b5,m5⟩|exact⟨(x5.1.alloc _).drew.gX,(x5.2.alloc _).drew.c4⟩|exact⟨((x5.1.alloc _).alloc _).drew.gX,((x5.2.alloc _).alloc _).drew.c4⟩|exact⟨(((x5.1.alloc _).alloc _).alloc _).drew.gX,(((x5.2.alloc _).alloc _).alloc _).drew.c4⟩|exact⟨TZ.1,TZ.2⟩|exact⟨x7.1.gX,x7.2.c4⟩|exact⟨hc8.1,hc8.2⟩|exact⟨x8.1.gX,x8.2.c4⟩|exact⟨ZD.1,ZD.2⟩|exact⟨x9.1.gX,x9.2.c4⟩|go_keep)):=h
def ab(h:P:=by omega):=h
def fM(h:P:=by(first|exact⟨b9,m9⟩|exact⟨(x9.1.alloc _).drew.gX,(x9.2.alloc _).drew.c4⟩|exact⟨((x9.1.alloc _).alloc _).drew.gX,((x9.2.alloc _).alloc _).drew.c4⟩|exact⟨adm.1,adm.2⟩|exact⟨zw.1.gX,zw.2.c4⟩|exact⟨ado.1,ado.2⟩|exact⟨As.1.gX,As.2.c4⟩|exact⟨adp.1,adp.2⟩|exact⟨xw.1.gX,xw.2.c4⟩|go_keep)):=h
def af(h:P:=by kernel_rfl):=h
def vK(h:P:=by(first|exact⟨b5,m5⟩|exact⟨TZ.1,TZ.2⟩|exact⟨x7.1.gX,x7.2.c4⟩|exact⟨hc8.1,hc8.2⟩|exact⟨x8.1.gX,x8.2.c4⟩|exact⟨ZD.1,ZD.2⟩|exact⟨x9.1.gX,x9.2.c4⟩|exact⟨UG.1,UG.2⟩|exact⟨xC.1.gX,xC.2.c4⟩|exact⟨zw.1.gX,zw.2.c4⟩|exact⟨As.1.gX,As.2.c4⟩|go_keep)):=h
def ao(h:P:=by rw[heap_alloc,aI rfl]):=h
def vJ(h:P:=by(first|exact⟨L8,m13⟩|exact⟨(xw.1.alloc _).drew.gX,(xw.2.alloc _).drew.c4⟩|exact⟨((xw.1.alloc _).alloc _).drew.gX,((xw.2.alloc _).alloc _).drew.c4⟩|exact⟨(((xw.1.alloc _).alloc _).alloc _).drew.gX,(((xw.2.alloc _).alloc _).alloc _).drew.c4⟩|exact⟨x15.1.gX,x15.2.c4⟩|exact⟨x16.1.gX,x16.2.c4⟩|exact⟨x17.1.gX,x17.2.c4⟩|go_keep)):=h
def pK(h:P:=by(first|exact⟨b5,m5⟩|exact⟨TZ.1,TZ.2⟩|exact⟨x7.1.gX,x7.2.c4⟩|exact⟨x8.1.gX,x8.2.c4⟩|exact⟨ZD.1,ZD.2⟩|exact⟨x9.1.gX,x9.2.c4⟩|exact⟨UG.1,UG.2⟩|exact⟨xC.1.gX,xC.2.c4⟩|exact⟨zw.1.gX,zw.2.c4⟩|go_keep)):=h
def aj(h:P:=by decide):=h
def N3(h:P:=by(first|exact⟨b5,m5⟩|exact⟨TZ.1,TZ.2⟩|exact⟨x7.1.gX,x7.2.c4⟩|exact⟨hc8.1,hc8.2⟩|exact⟨x8.1.gX,x8.2.c4⟩|exact⟨ZD.1,ZD.2⟩|exact⟨x9.1.gX,x9.2.c4⟩|exact⟨UG.1,UG.2⟩|exact⟨xC.1.gX,xC.2.c4⟩|go_keep)):=h
def ai(h:P:=by simp):=h
def ahr(h:P:=by have hh:=cH (iY S1.sg.ps) (aV (s:=tx ":=") (by decide));rw[dW (bs (tx ":="))] at hh;exact hh):=h
def ahs(h:P:=by have hh:=cH bL (aV (s:= "INTEGER") (by decide));rw[dW (bs "INTEGER")] at hh;exact hh):=h
def cw(h:P:=by rintro k ⟨⟩ bQ;exact absurd bQ (Nat.lt_irrefl _)):=h
def aht(h:P:=by rw[jQ];exact(by have h1:=kB.size;have h2:=iC.out;simp only[dB,eB] at h1;omega)):=h
def mT(h:P:=by rw[heap_alloc,aI (by simp)]):=h
def br(h:P:=by rw[sM];simp;omega):=h
def aH(h:P:=by simp;omega):=h
def FQ(h:P:=by have h1:=kB.size;have h2:=iC.out;simp only[dB,eB] at h1;omega):=h
def ahu(h:P:=by rw[hW];simp only[heap_alloc,dB];repeat (first|rw[aI bw]|rw[aI rfl]|rw[aE (by omega)])):=h
def bM(h:P:=by rw[ady] at e;cases e):=h
def ahv(h:P:=by have hh:=cH bL (aV (s:= "BOOLEAN") (by decide));rw[dW (bs "BOOLEAN")] at hh;exact hh):=h
def vD(h:P:=by first|(rw[gH];have:=n4;omega)|(rw[dU];omega)):=h
def bT(h:P:=by have:=gT.out;omega):=h
def ahw(h:P:=by rw[N7,hN];simp only[heap_alloc,dB];repeat (first|rw[aI bw]|rw[aI rfl]|rw[aE (by omega)])):=h
def Fm(h:P:=by have:=(S0.aB P1 K1).ps.pb;have:=(S0.aB P1 K1).ps.bd;omega):=h
def eW(h:P:=by rw[hW];exact(Kept.refl _ _).alloc _):=h
def eU(h:P:=by simp[results,results345,go_sem,b0,b1,b2,b3]):=h
def fU(h:P:=by simp[results,results335,go_sem,b0,b1,b2,b3]):=h
def cY(h:P:=by rw[heap_alloc,aI rfl];rfl):=h
def Gl(h:P:=by first|(rw[gH];have:=n1;omega)|(rw[dU];omega)):=h
def cX(h:P:=by rw[gH];omega):=h
def ahx(h:P:=by have hh:=cH bL (aV (s:= "NONE") (by decide));rw[dW (bs "NONE")] at hh;exact hh):=h
def gL(h:P:=by rw[jJ (by decide),hn 4 (by kernel_rfl)] at e;cases e):=h
def pE(h:P:=by rw[show(((aZ l).k:Int)==1)=((aZ l).k==1) from by rw[sM];simp;omega];exact h1):=h
def iT(h:P:=by have:=oL.out;have:=eo.out;omega):=h
def iN(h:P:=by rw[jJ (by decide),hn 3 (by kernel_rfl)] at e;cases e):=h
def iM(h:P:=by rw[jJ (by decide),hf 5 (by kernel_rfl)] at e;cases e):=h
def dJ(h:P:=by rw[hk];rfl):=h
def iJ(h:P:=by have:=iC.out;omega):=h
def bO(h:P:=by simpa using hj):=h
def pS(h:P:=by simp[results,results278,go_sem,ZM,ZP,ZQ,ZR,ZS,ZT,ZU,ZW];try rfl):=h
def bh(h:P:=by decide+kernel):=h
def vr(h:P:=by rw[show(((aZ l).k:Int)==4)=((aZ l).k==4) from by rw[sM];simp;omega];exact h4):=h
def aju(h:P:=by rw[jQ];exact(by have:=iC.out;omega)):=h
def kh(h:P:=by rw[jJ (by decide),hf 7 (by kernel_rfl)] at e;cases e):=h
def dr(h:P:=by have:=h6.out;omega):=h
def dL(h:P:=by with_reducible assumption):=h
def mg(h:P:=by rw[hV];exact(K2.trans' K3).alloc _):=h
def Be(h:P:=by have:=G4.ps;rw[hl.out,] at this;have:=this.ok;rwa[ht] at this):=h
def fO(h:P:=by have h2:=Je.out;simp at h2|-;omega):=h
def mO(h:P:=by rw[hW,heap_alloc,aI rfl]):=h
def mU(h:P:=by simp[results,results229,go_sem,b0,b1,b2,b3,b4]):=h
def mV(h:P:=by rw[jJ (by decide),hn 5 (by kernel_rfl)] at e;cases e):=h
def uT(h:P:=by have:=eK.out;simpa[MQ] using this):=h
def bR(h:P:=by simp[strs]):=h
def vR(h:P:=by simp[results,results182,go_sem,b0,b1,b2,b3,b4,b5,b6,b7,b8,b9,Pn,Sb,Sc,L8,b14]):=h
def az(h:P:=by have h1:=hN.out;simp at h1|-;omega):=h
def Fy(h:P:=by rw[show(((aZ l).k:Int)==3)=((aZ l).k==3) from by rw[sM];simp;omega];exact h3):=h
def dA(h:P:=by simpa using hi):=h
def yD(h:P:=by have:=M7.out;have:=SS.pw;omega):=h
def pT(h:P:=by simp[results,results311,go_sem,b0,b1,b2,b3];try rfl):=h
def pI(h:P:=by rw[hW];exact P1.alloc _):=h
def nK(h:P:=by rw[hV];exact P3.alloc _):=h
def gO(h:P:=by have:=eo.out;omega):=h
def cP(h:P:=by simp[maxLen]):=h
def kF(h:P:=by rw[hV];exact eH):=h
def Gu(h:P:=by have:=ahy (he▸hd) h0 (he▸hm);rw[he];simp;omega):=h
def iZ(h:P:=by simp only[maxLen];omega):=h
def mX(h:P:=by rw[h0 7 (by decide)] at e;cases e):=h
def kg(h:P:=by have:=fY 0 _ rfl;simpa using this):=h
def yx(h:P:=by simpa using aV (s:= "NONE") (by decide)):=h
def pU(h:P:=by simp[results,results197,go_sem,b0,b1,b2,b3,b4]):=h
def rK(h:P:=by rw[jJ (by decide),hf 8 (by kernel_rfl)] at e;cases e):=h
def kG(h:P:=by have:=jl.size;omega):=h
def oA(h:P:=by rw[hW,IQ,heap_alloc,aI rfl]):=h
def ahz(h:P:=by rw[dV];intro d hd;exact tR d (by rw[Am,qB];exact hd)):=h
def pV(h:P:=by simp[results,results286,go_sem,z0,z1,z2,z3]):=h
def dR(h:P:=by simpa using g):=h
def fX(h:P:=by unfold World.cell?;rw[heap_alloc,if_pos rfl];rfl):=h
def eR(h:P:=by rw[Cn];rfl):=h
def pX(h:P:=by have:=xe.out;rw[hsm] at this;simpa using this):=h
def FV(h:P:=by rw[hW];exact K1.alloc _):=h
def Fo(h:P:=by simpa using rY):=h
def i7(h:P:=by have:=dM.out;omega):=h
def CV(h:P:=by have:=S2.pw;simp;omega):=h
def Lh(h:P:=by first|exact((Kept.refl aK V).alloc _).drew|exact((((Kept.refl aK V).alloc _).drew.setCell (by simp) _).setCell (by simp) _)):=h
def gR(h:P:=by dsimp only;omega):=h
def pY(h:P:=by show _ < W.heap.size;rw[dM.out];omega):=h
def pr(h:P:=by rw[hV];exact(Kept.refl aK w3).alloc _):=h
def gQ(h:P:=by have h2:=Lg.out;simp at h2|-;omega):=h
def iS(h:P:=by rw[hW];simp):=h
def pZ(h:P:=by have:=UF.out;have:=eo.out;omega):=h
def qb(h:P:=by have:=h.pb;have:=h.bd;simp;omega):=h
def vS(h:P:=by rw[jJ (by decide),hf 6 (by kernel_rfl)] at e;cases e):=h
def tV(h:P:=by rw[jJ (by decide),hf 4 (by kernel_rfl)] at e;cases e):=h
def GZ(h:P:=by rw[Md.out,rA,ck (show k < eN.length from hk)];exact Ug _):=h
def kP(h:P:=by have:=Zo.out;omega):=h
def Ha(h:P:=by have:=xi.size;have:w.heap.size<=W.drew.heap.size:=by{show _<=W.heap.size;rw[dM.out];omega};omega):=h
def pc(h:P:=by have:=I6.out;have:=eo.out;omega):=h
def yg(h:P:=by simp[results,results279,go_sem,b0,b1,b2,b3]):=h
def Li(h:P:=by simp[results,results278,go_sem,adz,adA,adB,adC,adD,adE,adF,adG];try rfl):=h
def Hb(h:P:=by simp[results,results278,go_sem,adH,adI,adJ,adK,adL,adM,adN,adO];try rfl):=h
def vT(h:P:=by simp[results,results255,go_sem,z0,z1,z2,z3]):=h
def ajD(h:P:=by rw[hW];exact aD (by rw[heap_alloc,aI rfl])):=h
def qd(h:P:=by rw[h0 5 (by decide)] at e;cases e):=h
def qe(h:P:=by rw[h0 4 (by decide)] at e;cases e):=h
def qf(h:P:=by rw[h0 3 (by decide)] at e;cases e):=h
def vU(h:P:=by have:=S1.pp;have:=S1.WJ;have:=de.out;omega):=h
def kW(h:P:=by simpa using h1):=h
def mh(h:P:=by rw[hd];simp[h1,h2]):=h
def Hc(h:P:=by simp[results,results278,go_sem,ajv,ajw,ajx,ajy,ajz,ajA,ajB,ajC];try rfl):=h
def qg(h:P:=by rw[hW,mf];exact Cn _ _ _ _):=h
def Uw(h:P:=by injection hg7 with e1 e2 e3;injection e1 with e1;injection e1 with e1;exact⟨e1.symm,e3.symm⟩):=h
def Ux(h:P:=by have h:=hd.out;rw[dV] at h|-;intro x hx;exact h x (Uh hx)):=h
def yi(h:P:=by simp[results,results193,go_sem,z0,z1]):=h
def vV(h:P:=by simp[results,results105,go_sem,z0,z1]):=h
def pG(h:P:=by rw[Zx];exact eH):=h
def jb(h:P:=by simpa using h2):=h
def Hd(h:P:=by rw[Qv,qC,show i+(j - 1 - i)=j - 1 by omega,hj];rfl):=h
def om(h:P:=by rw[e8];try rfl):=h
def ki(h:P:=by rw[e2];try rfl):=h
def pH(h:P:=by rw[he];simp):=h
def wj(h:P:=by simp[maxLen];omega):=h
def kR(h:P:=by rw[hd];simp[h2]):=h
def kU(h:P:=by rw[hd];simp[h1]):=h
def mY(h:P:=by intro p hp;cases hp):=h
def He(h:P:=by have h1:=hN.out;have h2:=Lg.out;rw[aE Px] at h2;simp at h1 h2|-;omega):=h
def jc(h:P:=by simpa using hk):=h
def ahB(h:P:=by rw[gH];intro e;rw[e,hk] at eF;exact absurd eF (by decide)):=h
def yK(h:P:=by have:=hG.len;have:=hG.cap;omega):=h
def RU(h:P:=by have h1:=hfe.out;have h2:=gq List.length zV.out;simp at h2;omega):=h
def JM(h:P:=by have:=Xi.out;simp only[dB,eB] at*;omega):=h
def vW(h:P:=by rw[Am,qB];exact hd):=h
def vX(h:P:=by rw[h0 11 (by decide)] at e;cases e):=h
def vY(h:P:=by intro q hq;simp at hq;rw[hq];rfl):=h
def vZ(h:P:=by have:=xE i u hi;simpa using this):=h
def qh(h:P:=by have:=S4.sg.bd;omega):=h
def Hf(h:P:=by have:(C.dj fs fv Bd).L=C.L:=rfl;rw[this] at nz;simp at nz;omega):=h
def mW(h:P:=by simp[strsOf,strs,Function.comp_def]):=h
def qi(h:P:=by simp[World.frozen?,k2]):=h
def Gf(h:P:=by unfold iu at*;omega):=h
def ahF(h:P:=by rw[hW,heap_alloc,aI (by simp)]):=h
def pt(h:P:=by rw[e6];try rfl):=h
def rD(h:P:=by rw[e3];try rfl):=h
def mZ(h:P:=by intro h;cases h):=h
def kQ(h:P:=by have:=hKN.out;omega):=h
def we(h:P:=by rw[heap_alloc];exact aI rfl):=h
def vu(h:P:=by rw[he];rfl):=h
def qj(h:P:=by simp[Value.oneCell']):=h
def atq(h:P:=by rintro e w' ⟨a,c,h1,h2,-,h3⟩;exact⟨a,c,h1,h2,h3⟩):=h
def agz(h:P:=by simpa using h0):=h
def oD(h:P:=by simp at e1;omega):=h
def qk(h:P:=by simp[World.cell?,k2]):=h
def Ll(h:P:=by first|(rw[gH];omega)|(rw[dU];omega)):=h
def aug(h:P:=by rw[Nat.pow_succ] at h2;omega):=h
def awo(h:P:=by rw[hr.out,at5 (by rw[sc.out];omega)];rfl):=h
def asK(h:P:=by rw[sc.out];omega):=h
def na(h:P:=by simpa using hl):=h
def Hg(h:P:=by rw[jJ (by decide),hf 11 (by kernel_rfl)] at e;cases e):=h
def Hh(h:P:=by rw[jJ (by decide),hn 7 (by kernel_rfl)] at e;cases e):=h
def Gi(h:P:=by rw[wZ,hs];rfl):=h
def atM(h:P:=by simp only[tD,dD] at h3;exact h3.1):=h
def ahC(h:P:=by rw[hV,heap_alloc,aE (by simp),heap_alloc,aI rfl]):=h
def yM(h:P:=by simpa[Value.ownBlock] using e):=h
def mi(h:P:=by rw[ht];rfl):=h
def asO(h:P:=by rw[sK];omega):=h
def asW(h:P:=by rw[Af];omega):=h
def atN(h:P:=by cases dn with|nil=>exact absurd rfl hd|cons=>rfl):=h
def Hi(h:P:=by simp[results,results199,go_sem,z0,z1,z2,z3]):=h
def CC(h:P:=by show W.heap.size<=(V.alloc _).heap.size;simp;omega):=h
def rL(h:P:=by rw[e];exact hbm):=h
def asH(h:P:=by rw[xU];try rfl):=h
def uJ(h:P:=by rw[zv];try rfl):=h
def RS(h:P:=by have:=hB5.out;have:=lE.size;simp at this;omega):=h
def Hj(h:P:=by unfold T0 at ho;rw[Bool.and_eq_true] at ho;exact ho.1):=h
def tX(h:P:=by rw[e1];try rfl):=h
def mI(h:P:=by rw[e0];try rfl):=h
def atO(h:P:=by rw[<-hn];unfold as3;split;omega;split<;>omega):=h
def Hk(h:P:=by rw[lp];exact eC _ hm):=h
def atP(h:P:=by simp[results,results54,go_sem,z0,z1,z2]):=h
def Hl(h:P:=by simp[results,results29,go_sem,z0,z1,z2]):=h
def pf(h:P:=by simp[strs,hx]):=h
def JN(h:P:=by have:=(aQ.1 ak).1;omega):=h
def vo(h:P:=by simpa using G2.lt):=h
def atQ(h:P:=by rw[auy.out,hCR.out,j0,hKC];rfl):=h
def Hm(h:P:=by have:=(aQ.1 AR).1;omega):=h
def Hn(h:P:=by have:=(aQ.1 oY).1;omega):=h
def Ln(h:P:=by have:=(aQ.1 ey).1;omega):=h
def vh(h:P:=by simpa using e1):=h
def wh(h:P:=by rw[hg b e];exact hgm):=h
def auj(h:P:=by rw[hW];exact((Kept.refl aK w).alloc _).alloc _):=h
def KY(h:P:=by have:=Pm.out;omega):=h
def Ho(h:P:=by unfold strs;rw[List.getElem?_map,hz];rfl):=h
def Lo(h:P:=by unfold strs;rw[List.getElem?_map,hs];rfl):=h
def ql(h:P:=by simpa using e):=h
def Hq(h:P:=by rw[gH];have:=c0.out;omega):=h
def Hr(h:P:=by rw[dW,kY,he];rfl):=h
def yd(h:P:=by rw[e5,e6];try rfl):=h
def tT(h:P:=by rw[e3,e7];try rfl):=h
def wm(h:P:=by rw[e3,e4];try rfl):=h
def wo(h:P:=by have:=hl.out;omega):=h
def yN(h:P:=by cases d<;>simp_all):=h
def ahE(h:P:=by unfold clE;rw[if_neg (by omega),if_pos h2]):=h
def UE(h:P:=by unfold dG;rw[heap_alloc,if_pos rfl];rfl):=h
def Lp(h:P:=by rw[hW];exact(Kept.refl aK w1).alloc _):=h
def Hs(h:P:=by rw[Bm.size_setCell];exact aM _):=h
def Ht(h:P:=by intro q hq;simp at hq;rw[hq];exact hy):=h
def RX(h:P:=by rw[auT];exact N8 s hp):=h
def wt(h:P:=by have:=h.lt;omega):=h
def Hu(h:P:=by simp[results,results168,go_sem]):=h
def Hv(h:P:=by have:=qN.size;simp at this;omega):=h
def Hw(h:P:=by have:=h.gb;have:=h.bd;simp;omega):=h
def Fx(h:P:=by simpa using G1.out.lt):=h
def RV(h:P:=by rw[Zx];exact(Kept.refl aK w5).alloc _):=h
def Hy(h:P:=by rw[Zx];exact(Kept.refl aK w3).alloc _):=h
def Hz(h:P:=by intro row hr;simp at hr;rw[hr];rfl):=h
def Cr(h:P:=by have:=M7.out;have:=S4.pw;omega):=h
def wJ(h:P:=by simpa using h):=h
def HA(h:P:=by rw[lF _ (by omega)];rfl):=h
def HB(h:P:=by have:=kc.2;have:=gT.out;omega):=h
def wu(h:P:=by simp at hN;omega):=h
def au1(h:P:=by rw[<-auv];unfold avk;rw[if_pos h0]):=h
def atS(h:P:=by rw[<-auv];unfold avk;rw[if_neg h0]):=h
def HC(h:P:=by rw[h0 12 (by decide)] at e;cases e):=h
def atT(h:P:=by rw[Af,lXL.out];omega):=h
def HD(h:P:=by rw[h0 8 (by decide)] at e;cases e):=h
def HE(h:P:=by have:=inb hi;have:=h.lt;omega):=h
def HF(h:P:=by have:=K0.size;have:=K1.size;omega):=h
def wy(h:P:=by simp at hn;omega):=h
def ej(h:P:=by rw[hl.out];simp):=h
def HG(h:P:=by rw[hV];exact(Kept.refl _ _).alloc _):=h
def uk(h:P:=by rw[e5];try rfl):=h
def auk(h:P:=by rw[dC] at hi;omega):=h
def Lq(h:P:=by have:=hN.out;simp[strs];omega):=h
def RT(h:P:=by have:=S1.WJ;have:=de.out;omega):=h
def asD(h:P:=by cases h):=h
def CD(h:P:=by rw[TS];exact hM.Lr jF WB aL):=h
def axF(h:P:=by rw[hr.out,axE,tD];rfl):=h
def Ls(h:P:=by rw[hW];exact(K0.trans' K1).alloc _):=h
def ahG(h:P:=by rw[hV,heap_alloc,aI (by simp)]):=h
def wC(h:P:=by simp[strs,hs]):=h
def HH(h:P:=by rw[hd (by omega)] at e;cases e):=h
def uD(h:P:=by rw[e4,e5];omega):=h
def wD(h:P:=by rw[c0.out];rfl):=h
def HI(h:P:=by show N<=N+1+1+1;omega):=h
def HJ(h:P:=by intro c;cases c<;>decide+kernel):=h
def wF(h:P:=by simpa using g0):=h
def HK(h:P:=by with_reducible exact x4.out.1):=h
def HL(h:P:=by with_reducible exact x3.out.1):=h
def HM(h:P:=by with_reducible exact x2.out.1):=h
def HN(h:P:=by with_reducible exact x1.out.1):=h
def HO(h:P:=by with_reducible exact x0.out.1):=h
def CA(h:P:=by rw[TS];exact hM.Bp jF):=h
def atU(h:P:=by rw[Nat.pow_succ] at h;omega):=h
def atV(h:P:=by rw[j0,Am];rfl):=h
def Lt(h:P:=by have:=h.pb;have:=h.bd;omega):=h
def wG(h:P:=by simpa using h3):=h
def wH(h:P:=by simpa using g1):=h
def GP(h:P:=by simp[go_sem]):=h
def Lu(h:P:=by have:=eo.out;simp;omega):=h
def HR(h:P:=by have:=hB5.out;simp;omega):=h
def Lv(h:P:=by rw[hpr.out,hrm.out];simp):=h
def atW(h:P:=by rw[e];exact aM _):=h
def HS(h:P:=by rw[wZ,hz];rfl):=h
def Lw(h:P:=by have:=h6.out;simp;omega):=h
def wI(h:P:=by simpa using hc):=h
def HT(h:P:=by rw[dp];exact Nc hli):=h
def Sa(h:P:=by have:=ahH.out;simp;omega):=h
def HW(h:P:=by simp[World.frozen?,hv]):=h
def HX(h:P:=by simp[Value.ownBlock,e]):=h
def Cd(h:P:=by rw[<-hg9];exact Rw):=h
def uC(h:P:=by rw[e5];omega):=h
def uB(h:P:=by rw[e4];omega):=h
def wg(h:P:=by rw[dC];omega):=h
end Go.Proofs
