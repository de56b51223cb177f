/- Texts of this claim, one behind the other: Px7, Px8, Of, LaySl, Touch, AffP, LayInts, Affected, Del, Replace. Merged by wip/mkmerge.py. -/
import Derived.Test.YtodmmckieoakjaaCaRd1
import Derived.Shelf.SlicesQ.IndexFunc
import Derived.Shelf.SlicesE.Clone
import Derived.Test.YtodmmckieoakjaaProg
import Derived.Maps.OwnIn
import Derived.Lib.SlKeysI
import Derived.RangeFuncWrites
import Derived.RangeFuncNested
import Derived.RangeFuncCalls
import Derived.Shelf.SlIterI.Nil
import Derived.Shelf.SortM.Plain
import Derived.Shelf.SortM.SortNone
namespace Go.Proofs.Ytodmmckieoakjaa.P
open Go.RowKit Go.Proofs.YtodmmckieoakjaaW.PrintWords Go.Proofs.YtodmmckieoakjaaW.PrintLast Go.Proofs.YtodmmckieoakjaaW.PrintMore
attribute [local go_sem] max2_int min2_int max_two min_two max_three min_three max_four min_four   -- for this text's walks alone
set_option linter.unusedVariables false
set_option linter.unusedSimpArgs false
def index_Check.l0 : Nat → Int → List (S49) → Int → Int → List (S49) → Option (Int)
 | 0, _, _, _, _, _ => none
 | k + 1, x1, x8, x9, x10, x157000 => if x10 < x9 then (if 0 ≤ x10 then (if x10 < (x8.length : Int) then (if ((rd_T49 x8 x10).f1) < 0 then (some 350) else (if ((rd_T49 x8 x10).f1) ≥ x1 then (some 350) else (if x10 > 0 then (if 0 ≤ (wrap64 (x10 - 1)) then (if (wrap64 (x10 - 1)) < (x157000.length : Int) then ((index_compare.f k ((rd_T49 x157000 (wrap64 (x10 - 1))).f0.f0.f0) ((rd_T49 x157000 (wrap64 (x10 - 1))).f0.f0.f1) ((rd_T49 x157000 (wrap64 (x10 - 1))).f0.f0.f2) ((rd_T49 x157000 (wrap64 (x10 - 1))).f0.f1) ((rd_T49 x157000 (wrap64 (x10 - 1))).f0.f2) ((rd_T49 x157000 (wrap64 (x10 - 1))).f1) ((rd_T49 x8 x10).f0.f0.f0) ((rd_T49 x8 x10).f0.f0.f1) ((rd_T49 x8 x10).f0.f0.f2) ((rd_T49 x8 x10).f0.f1) ((rd_T49 x8 x10).f0.f2) ((rd_T49 x8 x10).f1)).bind fun t160 => (if t160 ≥ 0 then (some 350) else (index_Check.l0 k x1 x8 x9 (wrap64 (x10 + 1)) x157000))) else (none)) else (none)) else (index_Check.l0 k x1 x8 x9 (wrap64 (x10 + 1)) x157000)))) else (none)) else (none)) else (some 0)
def index_Check.f (k : Nat) (l0_0 : List (S49)) (a1 : Int) : Option (Int) := index_Check.l0 k a1 l0_0 (l0_0.length : Int) 0 l0_0
def index_Check.T4 : Bool × List (List Nat × List Nat) := (true, [([], []), ([0], [0]), ([1], [1]), ([2], [2]), ([3], [3]), ([4, 3], [3, 4]), ([3], [3]), ([5, 6, 3], [3, 5, 6]), ([3, 7], [3, 7]), ([8, 3], [8]), ([9], [9]), ([10, 9], [9, 10]), ([11, 9, 9], [9, 11]), ([12], [12]), ([13, 12], [12, 13]), ([12], [12]), ([15, 12], [12, 15]), ([14, 16, 12], [12, 14, 16]), ([17, 12], [12, 17]), ([12], [12]), ([18, 19, 12, 12], [12, 18, 19]), ([20, 12], [12, 20]), ([12, 21, 9], [9, 12, 21]), ([9, 22], [9, 22])])
def index_Check.B4 : List Nat := [0, 1, 3, 7, 15, 31, 15, 127, 255, 511, 1023, 2047, 4095, 8191, 16383, 8191, 40959, 131071, 262143, 8191, 1048575, 2097151, 4194303, 8388607]
theorem index_Check.tab4 : rtab .any (opsOf Try.f16 4) = index_Check.T4 := by kernel_rfl
theorem index_Check.bits4 : waitsOk index_Check.T4.2 index_Check.B4 = true := by kernel_rfl
set_option maxHeartbeats 8000000 in
set_option maxRecDepth 100000 in
theorem index_Check.calls (k : Nat) (A0_0 : Option Addr) (c0_0 : Nat) (l0_0 : List (S49)) (a1 : Int) (r : Int) (w : World) (hr0_0 : Kd.C k49 w A0_0 l0_0.length l0_0) (hc0_0 : l0_0.length ≤ c0_0) (h : index_Check.f k l0_0 a1 = some r) :
  Calls Try.prog 16 #[.agg #[.slice A0_0 l0_0.length c0_0], .int .i64 a1] w fun e w' => e = .returned (.int .i64 r) ∧ Below w.heap.size w w' := by
 have hu28 := Try.underlying28
 have hu49 := Try.underlying49
 have HR0_0 := Aside0.mk hr0_0
 have HC0_0 := Aside0.mk hc0_0
 clear hr0_0 hc0_0
 have HB := Aside0.mk (Below.refl w.heap.size w)
 have H : (index_Check.l0 k a1 l0_0 (l0_0.length : Int) 0 l0_0) = some r := h
 clear h
 have H' := Aside0.mk H
 clear H
 go_enter Try.func16, Try.ntmps16
 go_wp2_with (first | ((with_reducible refine gate_dst (N := 2) rfl ?_); refine box_event ?hg (N := 2) ?hd (cs := #[.slice A0_0 l0_0.length c0_0]) (t := 28) ?hr ?_; (case hd => rfl); (case hg => rfl); (case hr => first | (go_simp; done) | (go_simp; rfl)); intro gb156 hg w3 hbox hb; have n0_ := Aside0.mk (below_step (by repeat (first | (with_reducible first | exact HB.out | apply below_alloc | apply pw_below_drewN | apply below_drew1) | exact HB.out)) hb); have n1_ := Aside0.mk (hbox); have n2_ := Aside0.mk ((by rw [hg]; exact (below_size (by repeat (first | (with_reducible first | exact HB.out | apply below_alloc | apply pw_below_drewN | apply below_drew1) | exact HB.out))) : w.heap.size ≤ gb156)); have n3_ := Aside0.mk ((by rw [hg]; exact (below_size (by repeat (first | (with_reducible first | exact HB.out | apply below_alloc | apply pw_below_drewN | apply below_drew1) | exact HB.out))) : w.heap.size ≤ gb156)); clear HB; have HB := n0_; have BK156 := n1_; have GW156 := n2_; have GE156 := n3_; clear n0_ n1_ n2_ n3_; clear hb hbox hg; have hcz4_0 : w3.cell? ⟨gb156, 0, none⟩ = some (.slice A0_0 l0_0.length c0_0) := (blk_cell BK156.out 0).trans rfl; have hfz4_0 := blk_frozen BK156.out 0))
 go_loopg [10] k (fun kq v10 w' => ∃ (x10_1 : Int), v10 = .int .i64 x10_1 ∧ Aside0 (index_Check.l0 kq a1 l0_0 (l0_0.length : Int) x10_1 l0_0 = some r) ∧ Aside0 (kq ≤ k) ∧ Aside0 (w'.heap[gb156]? = some (.cells #[(.slice A0_0 l0_0.length c0_0)] 28 (0, 0))) ∧ Aside0 (Below w.heap.size w w'))
 case atStart => exact ⟨(0), (by first | rfl | (simp; done) | (simp [*]; done)), H', ⟨Nat.le_refl _⟩, ⟨by (with_reducible repeat (first | refine blk_drewN ?_ _ | refine blk_drew ?_ | refine blk_alloc ?_ _)); exact BK156.out⟩, ⟨by repeat (first | (with_reducible first | exact HB.out | apply below_alloc | apply pw_below_drewN | apply below_drew1 | refine below_set ?_ GE156.out) | exact HB.out)⟩⟩
 case round =>
  clear H'
  try clear c1
  try clear p2
  try clear hcz4_0
  try clear hfz4_0
  obtain ⟨x10_1, rfl, HA, HK1, BK156, HB⟩ := hrel
  cases gk with
  | zero => exact absurd HA.out (by simp [index_Check.l0])
  | succ k1 =>
   have H := HA.out
   clear HA
   simp only [index_Check.l0] at H
   by_cases c5 : x10_1 < (l0_0.length : Int)
   ·rw [if_pos c5] at H
    have c5b0 : decide (x10_1 < (l0_0.length : Int)) = true := decide_eq_true c5
    clear c5
    by_cases c6 : 0 ≤ x10_1
    ·rw [if_pos c6] at H
     have c6b0 : decide (0 ≤ x10_1) = true := decide_eq_true c6
     clear c6
     by_cases c7 : x10_1 < (l0_0.length : Int)
     ·rw [if_pos c7] at H
      have c7b0 : decide (x10_1 < (l0_0.length : Int)) = true := decide_eq_true c7
      clear c7
      by_cases c8 : ((rd_T49 l0_0 x10_1).f1) < 0
      ·rw [if_pos c8] at H
       have c8b0 : decide (((rd_T49 l0_0 x10_1).f1) < 0) = true := decide_eq_true c8
       clear c8
       obtain rfl := Option.some.inj H
       have p157 : 0 ≤ (x10_1 : Int) := of_decide_eq_true (by first | (with_reducible assumption) | assumption)
       have q157 : x10_1 < (l0_0.length : Int) := of_decide_eq_true (by first | (with_reducible assumption) | assumption)
       obtain ⟨ad157, e157, hx157_0, hx157_1, hx157_2, hx157_3, hx157_4, hx157_5⟩ := at_T49 HR0_0.out x10_1 p157 q157
       cases e157
       replace hx157_0 := (HB.out.cell (World.block_lt_of_cell? w _ hx157_0)).trans hx157_0
       replace hx157_1 := (HB.out.cell (World.block_lt_of_cell? w _ hx157_1)).trans hx157_1
       replace hx157_2 := (HB.out.cell (World.block_lt_of_cell? w _ hx157_2)).trans hx157_2
       replace hx157_3 := (HB.out.cell (World.block_lt_of_cell? w _ hx157_3)).trans hx157_3
       replace hx157_4 := (HB.out.cell (World.block_lt_of_cell? w _ hx157_4)).trans hx157_4
       replace hx157_5 := (HB.out.cell (World.block_lt_of_cell? w _ hx157_5)).trans hx157_5
       replace p157 := eq_true p157
       replace q157 := eq_true q157
       try go_wp2_with (first | ((with_reducible refine gate_dst (N := 6) rfl ?_); refine box_event ?hg (N := 6) ?hd (cs := #[.int .i64 0, .int .i64 0, .int .i64 0, .int .i64 0, .int .i64 0, .int .i64 0]) (t := 49) ?hr ?_; (case hd => rfl); (case hg => rfl); (case hr => first | (go_simp; done) | (go_simp; rfl)); intro gb158 hg w9 hbox hb; have n0_ := Aside0.mk (blk_below (g := gb156) (o := .cells #[.slice (some ad157) l0_0.length c0_0] 28 (0, 0)) (by (with_reducible repeat (first | refine blk_drewN ?_ _ | refine blk_drew ?_ | refine blk_alloc ?_ _)); exact BK156.out) hb); have n1_ := Aside0.mk (below_step (by repeat (first | (with_reducible first | exact HB.out | apply below_alloc | apply pw_below_drewN | apply below_drew1 | refine below_set ?_ GE156.out) | exact HB.out)) hb); have n2_ := Aside0.mk (hbox); have n3_ := Aside0.mk ((by rw [hg]; exact (below_size (by repeat (first | (with_reducible first | exact HB.out | apply below_alloc | apply pw_below_drewN | apply below_drew1 | refine below_set ?_ GE156.out) | exact HB.out))) : w.heap.size ≤ gb158)); have n4_ := Aside0.mk ((by rw [hg]; exact (below_size (by repeat (first | (with_reducible first | exact HB.out | apply below_alloc | apply pw_below_drewN | apply below_drew1 | refine below_set ?_ GE156.out) | exact HB.out))) : w.heap.size ≤ gb158)); have n5_ := Aside0.mk ((by rw [hg]; exact Nat.ne_of_lt (blk_lt (g := gb156) (o := .cells #[.slice (some ad157) l0_0.length c0_0] 28 (0, 0)) (by (with_reducible repeat (first | refine blk_drewN ?_ _ | refine blk_drew ?_ | refine blk_alloc ?_ _)); exact BK156.out)) : gb156 ≠ gb158)); have n6_ := Aside0.mk ((by rw [hg]; exact Nat.ne_of_gt (blk_lt (g := gb156) (o := .cells #[.slice (some ad157) l0_0.length c0_0] 28 (0, 0)) (by (with_reducible repeat (first | refine blk_drewN ?_ _ | refine blk_drew ?_ | refine blk_alloc ?_ _)); exact BK156.out)) : gb158 ≠ gb156)); clear BK156; clear HB; have BK156 := n0_; have HB := n1_; have BK158 := n2_; have GW158 := n3_; have GE158 := n4_; have NB156_158 := n5_; have NB158_156 := n6_; clear n0_ n1_ n2_ n3_ n4_ n5_ n6_; clear hb hbox hg; have hnb10 := NB158_156.out; have hnc10 := NB156_158.out; have hcz11_0 : w9.cell? ⟨gb158, 0, none⟩ = some (.int .i64 0) := (blk_cell BK158.out 0).trans rfl; have hcz11_1 : w9.cell? ⟨gb158, 1, none⟩ = some (.int .i64 0) := (blk_cell BK158.out 1).trans rfl; have hcz11_2 : w9.cell? ⟨gb158, 2, none⟩ = some (.int .i64 0) := (blk_cell BK158.out 2).trans rfl; have hcz11_3 : w9.cell? ⟨gb158, 3, none⟩ = some (.int .i64 0) := (blk_cell BK158.out 3).trans rfl; have hcz11_4 : w9.cell? ⟨gb158, 4, none⟩ = some (.int .i64 0) := (blk_cell BK158.out 4).trans rfl; have hcz11_5 : w9.cell? ⟨gb158, 5, none⟩ = some (.int .i64 0) := (blk_cell BK158.out 5).trans rfl; have hfz11_0 := blk_frozen BK158.out 0; have hfz11_1 := blk_frozen BK158.out 1; have hfz11_2 := blk_frozen BK158.out 2; have hfz11_3 := blk_frozen BK158.out 3; have hfz11_4 := blk_frozen BK158.out 4; have hfz11_5 := blk_frozen BK158.out 5))
       have n0_ : Aside0 (((((((w9.setCell ⟨gb158, 0, none⟩ (.int .i64 ((rd_T49 l0_0 x10_1).f0.f0.f0))).setCell ⟨gb158, 1, none⟩ (.int .i64 ((rd_T49 l0_0 x10_1).f0.f0.f1))).setCell ⟨gb158, 2, none⟩ (.int .i64 ((rd_T49 l0_0 x10_1).f0.f0.f2))).setCell ⟨gb158, 3, none⟩ (.int .i64 ((rd_T49 l0_0 x10_1).f0.f1))).setCell ⟨gb158, 4, none⟩ (.int .i64 ((rd_T49 l0_0 x10_1).f0.f2))).setCell ⟨gb158, 5, none⟩ (.int .i64 ((rd_T49 l0_0 x10_1).f1))).heap[gb156]? = some (.cells #[.slice (some ad157) l0_0.length c0_0] 28 (0, 0))) := ⟨by (with_reducible repeat (first | refine blk_drewN ?_ _ | refine blk_drew ?_ | refine blk_alloc ?_ _)); refine blk_far ?_ NB156_158.out _; (with_reducible repeat (first | refine blk_drewN ?_ _ | refine blk_drew ?_ | refine blk_alloc ?_ _)); refine blk_far ?_ NB156_158.out _; (with_reducible repeat (first | refine blk_drewN ?_ _ | refine blk_drew ?_ | refine blk_alloc ?_ _)); refine blk_far ?_ NB156_158.out _; (with_reducible repeat (first | refine blk_drewN ?_ _ | refine blk_drew ?_ | refine blk_alloc ?_ _)); refine blk_far ?_ NB156_158.out _; (with_reducible repeat (first | refine blk_drewN ?_ _ | refine blk_drew ?_ | refine blk_alloc ?_ _)); refine blk_far ?_ NB156_158.out _; (with_reducible repeat (first | refine blk_drewN ?_ _ | refine blk_drew ?_ | refine blk_alloc ?_ _)); refine blk_far ?_ NB156_158.out _; (with_reducible repeat (first | refine blk_drewN ?_ _ | refine blk_drew ?_ | refine blk_alloc ?_ _)); exact BK156.out⟩
       have n1_ : Aside0 (((((((w9.setCell ⟨gb158, 0, none⟩ (.int .i64 ((rd_T49 l0_0 x10_1).f0.f0.f0))).setCell ⟨gb158, 1, none⟩ (.int .i64 ((rd_T49 l0_0 x10_1).f0.f0.f1))).setCell ⟨gb158, 2, none⟩ (.int .i64 ((rd_T49 l0_0 x10_1).f0.f0.f2))).setCell ⟨gb158, 3, none⟩ (.int .i64 ((rd_T49 l0_0 x10_1).f0.f1))).setCell ⟨gb158, 4, none⟩ (.int .i64 ((rd_T49 l0_0 x10_1).f0.f2))).setCell ⟨gb158, 5, none⟩ (.int .i64 ((rd_T49 l0_0 x10_1).f1))).heap[gb158]? = some (.cells #[.int .i64 ((rd_T49 l0_0 x10_1).f0.f0.f0), .int .i64 ((rd_T49 l0_0 x10_1).f0.f0.f1), .int .i64 ((rd_T49 l0_0 x10_1).f0.f0.f2), .int .i64 ((rd_T49 l0_0 x10_1).f0.f1), .int .i64 ((rd_T49 l0_0 x10_1).f0.f2), .int .i64 ((rd_T49 l0_0 x10_1).f1)] 49 (0, 0))) := ⟨by (with_reducible repeat (first | refine blk_drewN ?_ _ | refine blk_drew ?_ | refine blk_alloc ?_ _)); refine blk_put (cs := #[.int .i64 ((rd_T49 l0_0 x10_1).f0.f0.f0), .int .i64 ((rd_T49 l0_0 x10_1).f0.f0.f1), .int .i64 ((rd_T49 l0_0 x10_1).f0.f0.f2), .int .i64 ((rd_T49 l0_0 x10_1).f0.f1), .int .i64 ((rd_T49 l0_0 x10_1).f0.f2), .int .i64 0]) ?_ 5 _ rfl; (with_reducible repeat (first | refine blk_drewN ?_ _ | refine blk_drew ?_ | refine blk_alloc ?_ _)); refine blk_put (cs := #[.int .i64 ((rd_T49 l0_0 x10_1).f0.f0.f0), .int .i64 ((rd_T49 l0_0 x10_1).f0.f0.f1), .int .i64 ((rd_T49 l0_0 x10_1).f0.f0.f2), .int .i64 ((rd_T49 l0_0 x10_1).f0.f1), .int .i64 0, .int .i64 0]) ?_ 4 _ rfl; (with_reducible repeat (first | refine blk_drewN ?_ _ | refine blk_drew ?_ | refine blk_alloc ?_ _)); refine blk_put (cs := #[.int .i64 ((rd_T49 l0_0 x10_1).f0.f0.f0), .int .i64 ((rd_T49 l0_0 x10_1).f0.f0.f1), .int .i64 ((rd_T49 l0_0 x10_1).f0.f0.f2), .int .i64 0, .int .i64 0, .int .i64 0]) ?_ 3 _ rfl; (with_reducible repeat (first | refine blk_drewN ?_ _ | refine blk_drew ?_ | refine blk_alloc ?_ _)); refine blk_put (cs := #[.int .i64 ((rd_T49 l0_0 x10_1).f0.f0.f0), .int .i64 ((rd_T49 l0_0 x10_1).f0.f0.f1), .int .i64 0, .int .i64 0, .int .i64 0, .int .i64 0]) ?_ 2 _ rfl; (with_reducible repeat (first | refine blk_drewN ?_ _ | refine blk_drew ?_ | refine blk_alloc ?_ _)); refine blk_put (cs := #[.int .i64 ((rd_T49 l0_0 x10_1).f0.f0.f0), .int .i64 0, .int .i64 0, .int .i64 0, .int .i64 0, .int .i64 0]) ?_ 1 _ rfl; (with_reducible repeat (first | refine blk_drewN ?_ _ | refine blk_drew ?_ | refine blk_alloc ?_ _)); refine blk_put (cs := #[.int .i64 0, .int .i64 0, .int .i64 0, .int .i64 0, .int .i64 0, .int .i64 0]) ?_ 0 _ rfl; (with_reducible repeat (first | refine blk_drewN ?_ _ | refine blk_drew ?_ | refine blk_alloc ?_ _)); exact BK158.out⟩
       have n2_ : Aside0 (Below w.heap.size w ((((((w9.setCell ⟨gb158, 0, none⟩ (.int .i64 ((rd_T49 l0_0 x10_1).f0.f0.f0))).setCell ⟨gb158, 1, none⟩ (.int .i64 ((rd_T49 l0_0 x10_1).f0.f0.f1))).setCell ⟨gb158, 2, none⟩ (.int .i64 ((rd_T49 l0_0 x10_1).f0.f0.f2))).setCell ⟨gb158, 3, none⟩ (.int .i64 ((rd_T49 l0_0 x10_1).f0.f1))).setCell ⟨gb158, 4, none⟩ (.int .i64 ((rd_T49 l0_0 x10_1).f0.f2))).setCell ⟨gb158, 5, none⟩ (.int .i64 ((rd_T49 l0_0 x10_1).f1)))) := ⟨by repeat (first | (with_reducible first | exact HB.out | apply below_alloc | apply pw_below_drewN | apply below_drew1 | refine below_set ?_ GE156.out | refine below_set ?_ GE158.out) | exact HB.out)⟩
       (try clear BK156)
       (try clear BK158)
       (try clear HB)
       generalize ((((((w9.setCell ⟨gb158, 0, none⟩ (.int .i64 ((rd_T49 l0_0 x10_1).f0.f0.f0))).setCell ⟨gb158, 1, none⟩ (.int .i64 ((rd_T49 l0_0 x10_1).f0.f0.f1))).setCell ⟨gb158, 2, none⟩ (.int .i64 ((rd_T49 l0_0 x10_1).f0.f0.f2))).setCell ⟨gb158, 3, none⟩ (.int .i64 ((rd_T49 l0_0 x10_1).f0.f1))).setCell ⟨gb158, 4, none⟩ (.int .i64 ((rd_T49 l0_0 x10_1).f0.f2))).setCell ⟨gb158, 5, none⟩ (.int .i64 ((rd_T49 l0_0 x10_1).f1))) = w12 at n0_ n1_ n2_ ⊢
       have BK156 := n0_
       have BK158 := n1_
       have HB := n2_
       clear n0_ n1_ n2_
       have n0_ := Aside0.mk (blk_drew BK156.out)
       have n1_ := Aside0.mk (blk_drew BK158.out)
       have n2_ := Aside0.mk (below_drew1 HB.out)
       clear BK156
       clear BK158
       clear HB
       have BK156 := n0_
       have BK158 := n1_
       have HB := n2_
       clear n0_ n1_ n2_
       refine start_ (n := 24) (S := fun w' => w'.cell? ⟨gb158, 0, none⟩ = some (.int .i64 ((rd_T49 l0_0 x10_1).f0.f0.f0)) ∧ w'.cell? ⟨gb158, 1, none⟩ = some (.int .i64 ((rd_T49 l0_0 x10_1).f0.f0.f1)) ∧ w'.cell? ⟨gb158, 2, none⟩ = some (.int .i64 ((rd_T49 l0_0 x10_1).f0.f0.f2)) ∧ w'.cell? ⟨gb158, 3, none⟩ = some (.int .i64 ((rd_T49 l0_0 x10_1).f0.f1)) ∧ w'.cell? ⟨gb158, 4, none⟩ = some (.int .i64 ((rd_T49 l0_0 x10_1).f0.f2)) ∧ w'.cell? ⟨gb158, 5, none⟩ = some (.int .i64 ((rd_T49 l0_0 x10_1).f1))) (ds := []) #[false, false, false, false, false, false, false, false, false, false, false, false, false, false, false, false, false, false, false, false, false, false, false, false] (by kernel_rfl) rfl rfl ⟨(blk_cell BK158.out 0).trans rfl, (blk_cell BK158.out 1).trans rfl, (blk_cell BK158.out 2).trans rfl, (blk_cell BK158.out 3).trans rfl, (blk_cell BK158.out 4).trans rfl, (blk_cell BK158.out 5).trans rfl⟩ (fun hHeld => ?_); refine with_tabW index_Check.tab4 index_Check.bits4 (fun HT_ HW_ => ?_)
       generalize w12.drew = w13 at BK156 BK158 HB hHeld ⊢
       refine pure_ (i := 0) (N := some 15) (v := ?_) (a' := ?_) #[true, false, false, false, false, false, false, false, false, false, false, false, false, false, false, false, false, false, false, false, false, false, false, false] rfl rfl (any_of HT_.out (by kernel_rfl)) (fun _ _ _ h => h) (Or.inl ⟨by rfl, ?_⟩) ?_ ?_
       rotate_left
       ·intro w'
        go_simp
        with_reducible rfl
       rotate_left
       ·simp only [Act.put, List.setIfInBounds_toArray, List.set_cons_zero, List.set_cons_succ, i64_w, i32_w]
        rfl
       refine take_ (i := 1) (N := some 16) (v := ?_) (a' := ?_) #[true, true, false, false, false, false, false, false, false, false, false, false, false, false, false, false, false, false, false, false, false, false, false, false] rfl rfl (take_ofW HT_.out HW_.out (by kernel_rfl)) (fun _ _ _ h => h) (Or.inl ⟨by rfl, ?_⟩) hHeld ?_ ?_
       rotate_left
       ·rintro w' ⟨s0, s1, s2, s3, s4, s5⟩
        go_simp
        with_reducible rfl
       rotate_left
       ·simp only [Act.put, List.setIfInBounds_toArray, List.set_cons_zero, List.set_cons_succ, i64_w, i32_w]
        rfl
       refine pure_ (i := 2) (N := some 17) (v := ?_) (a' := ?_) #[true, true, true, false, false, false, false, false, false, false, false, false, false, false, false, false, false, false, false, false, false, false, false, false] rfl rfl (any_of HT_.out (by kernel_rfl)) (fun _ _ _ h => h) (Or.inl ⟨by rfl, ?_⟩) ?_ ?_
       rotate_left
       ·intro w'
        go_simp
        with_reducible rfl
       rotate_left
       ·simp only [Act.put, List.setIfInBounds_toArray, List.set_cons_zero, List.set_cons_succ, i64_w, i32_w]
        rfl
       refine pure_ (i := 3) (N := some 18) (v := ?_) (a' := ?_) #[true, true, true, true, false, false, false, false, false, false, false, false, false, false, false, false, false, false, false, false, false, false, false, false] rfl rfl (any_of HT_.out (by kernel_rfl)) (fun _ _ _ h => h) (Or.inl ⟨by rfl, ?_⟩) ?_ ?_
       rotate_left
       ·intro w'
        go_simp
        with_reducible rfl
       rotate_left
       ·simp only [Act.put, List.setIfInBounds_toArray, List.set_cons_zero, List.set_cons_succ, i64_w, i32_w]
        rfl
       refine pure_ (i := 4) (N := some 19) (v := undef) (a' := ?_) #[true, true, true, true, true, false, false, false, false, false, false, false, false, false, false, false, false, false, false, false, false, false, false, false] rfl rfl (any_of HT_.out (by kernel_rfl)) (fun _ _ _ h => h) (Or.inr ⟨by rfl, rfl⟩) ?_ ?_
       rotate_left
       ·simp only [Act.put, List.setIfInBounds_toArray, List.set_cons_zero, List.set_cons_succ, i64_w, i32_w]
        rfl
       refine pure_ (i := 5) (N := some 20) (v := undef) (a' := ?_) #[true, true, true, true, true, true, false, false, false, false, false, false, false, false, false, false, false, false, false, false, false, false, false, false] rfl rfl (any_of HT_.out (by kernel_rfl)) (fun _ _ _ h => h) (Or.inr ⟨by rfl, rfl⟩) ?_ ?_
       rotate_left
       ·simp only [Act.put, List.setIfInBounds_toArray, List.set_cons_zero, List.set_cons_succ, i64_w, i32_w]
        rfl
       refine pure_ (i := 6) (N := some 21) (v := undef) (a' := ?_) #[true, true, true, true, true, true, true, false, false, false, false, false, false, false, false, false, false, false, false, false, false, false, false, false] rfl rfl (any_of HT_.out (by kernel_rfl)) (fun _ _ _ h => h) (Or.inr ⟨by rfl, rfl⟩) ?_ ?_
       rotate_left
       ·simp only [Act.put, List.setIfInBounds_toArray, List.set_cons_zero, List.set_cons_succ, i64_w, i32_w]
        rfl
       refine pure_ (i := 7) (N := some 22) (v := undef) (a' := ?_) #[true, true, true, true, true, true, true, true, false, false, false, false, false, false, false, false, false, false, false, false, false, false, false, false] rfl rfl (any_of HT_.out (by kernel_rfl)) (fun _ _ _ h => h) (Or.inr ⟨by rfl, rfl⟩) ?_ ?_
       rotate_left
       ·simp only [Act.put, List.setIfInBounds_toArray, List.set_cons_zero, List.set_cons_succ, i64_w, i32_w]
        rfl
       refine pure_ (i := 8) (N := some 23) (v := ?_) (a' := ?_) #[true, true, true, true, true, true, true, true, true, false, false, false, false, false, false, false, false, false, false, false, false, false, false, false] rfl rfl (any_of HT_.out (by kernel_rfl)) (fun _ _ _ h => h) (Or.inl ⟨by rfl, ?_⟩) ?_ ?_
       rotate_left
       ·intro w'
        go_simp
        with_reducible rfl
       rotate_left
       ·simp only [Act.put, List.setIfInBounds_toArray, List.set_cons_zero, List.set_cons_succ, i64_w, i32_w]
        rfl
       refine pure_ (i := 9) (N := some 24) (v := ?_) (a' := ?_) #[true, true, true, true, true, true, true, true, true, true, false, false, false, false, false, false, false, false, false, false, false, false, false, false] rfl rfl (any_of HT_.out (by kernel_rfl)) (fun _ _ _ h => h) (Or.inl ⟨by rfl, ?_⟩) ?_ ?_
       rotate_left
       ·intro w'
        go_simp
        with_reducible rfl
       rotate_left
       ·simp only [Act.put, List.setIfInBounds_toArray, List.set_cons_zero, List.set_cons_succ, i64_w, i32_w]
        rfl
       refine pure_ (i := 10) (N := some 25) (v := undef) (a' := ?_) #[true, true, true, true, true, true, true, true, true, true, true, false, false, false, false, false, false, false, false, false, false, false, false, false] rfl rfl (any_of HT_.out (by kernel_rfl)) (fun _ _ _ h => h) (Or.inr ⟨by rfl, rfl⟩) ?_ ?_
       rotate_left
       ·simp only [Act.put, List.setIfInBounds_toArray, List.set_cons_zero, List.set_cons_succ, i64_w, i32_w]
        rfl
       refine pure_ (i := 11) (N := some 26) (v := undef) (a' := ?_) #[true, true, true, true, true, true, true, true, true, true, true, true, false, false, false, false, false, false, false, false, false, false, false, false] rfl rfl (any_of HT_.out (by kernel_rfl)) (fun _ _ _ h => h) (Or.inr ⟨by rfl, rfl⟩) ?_ ?_
       rotate_left
       ·simp only [Act.put, List.setIfInBounds_toArray, List.set_cons_zero, List.set_cons_succ, i64_w, i32_w]
        rfl
       refine pure_ (i := 12) (N := some 27) (v := undef) (a' := ?_) #[true, true, true, true, true, true, true, true, true, true, true, true, true, false, false, false, false, false, false, false, false, false, false, false] rfl rfl (any_of HT_.out (by kernel_rfl)) (fun _ _ _ h => h) (Or.inr ⟨by rfl, rfl⟩) ?_ ?_
       rotate_left
       ·simp only [Act.put, List.setIfInBounds_toArray, List.set_cons_zero, List.set_cons_succ, i64_w, i32_w]
        rfl
       refine pure_ (i := 13) (N := some 28) (v := undef) (a' := ?_) #[true, true, true, true, true, true, true, true, true, true, true, true, true, true, false, false, false, false, false, false, false, false, false, false] rfl rfl (any_of HT_.out (by kernel_rfl)) (fun _ _ _ h => h) (Or.inr ⟨by rfl, rfl⟩) ?_ ?_
       rotate_left
       ·simp only [Act.put, List.setIfInBounds_toArray, List.set_cons_zero, List.set_cons_succ, i64_w, i32_w]
        rfl
       refine pure_ (i := 14) (N := some 29) (v := undef) (a' := ?_) #[true, true, true, true, true, true, true, true, true, true, true, true, true, true, true, false, false, false, false, false, false, false, false, false] rfl rfl (any_of HT_.out (by kernel_rfl)) (fun _ _ _ h => h) (Or.inr ⟨by rfl, rfl⟩) ?_ ?_
       rotate_left
       ·simp only [Act.put, List.setIfInBounds_toArray, List.set_cons_zero, List.set_cons_succ, i64_w, i32_w]
        rfl
       refine pure_ (i := 15) (N := some 30) (v := undef) (a' := ?_) #[true, true, true, true, true, true, true, true, true, true, true, true, true, true, true, true, false, false, false, false, false, false, false, false] rfl rfl (any_of HT_.out (by kernel_rfl)) (fun _ _ _ h => h) (Or.inr ⟨by rfl, rfl⟩) ?_ ?_
       rotate_left
       ·simp only [Act.put, List.setIfInBounds_toArray, List.set_cons_zero, List.set_cons_succ, i64_w, i32_w]
        rfl
       refine pure_ (i := 16) (N := some 31) (v := undef) (a' := ?_) #[true, true, true, true, true, true, true, true, true, true, true, true, true, true, true, true, true, false, false, false, false, false, false, false] rfl rfl (any_of HT_.out (by kernel_rfl)) (fun _ _ _ h => h) (Or.inr ⟨by rfl, rfl⟩) ?_ ?_
       rotate_left
       ·simp only [Act.put, List.setIfInBounds_toArray, List.set_cons_zero, List.set_cons_succ, i64_w, i32_w]
        rfl
       refine pure_ (i := 17) (N := some 32) (v := undef) (a' := ?_) #[true, true, true, true, true, true, true, true, true, true, true, true, true, true, true, true, true, true, false, false, false, false, false, false] rfl rfl (any_of HT_.out (by kernel_rfl)) (fun _ _ _ h => h) (Or.inr ⟨by rfl, rfl⟩) ?_ ?_
       rotate_left
       ·simp only [Act.put, List.setIfInBounds_toArray, List.set_cons_zero, List.set_cons_succ, i64_w, i32_w]
        rfl
       refine pure_ (i := 18) (N := some 33) (v := undef) (a' := ?_) #[true, true, true, true, true, true, true, true, true, true, true, true, true, true, true, true, true, true, true, false, false, false, false, false] rfl rfl (any_of HT_.out (by kernel_rfl)) (fun _ _ _ h => h) (Or.inr ⟨by rfl, rfl⟩) ?_ ?_
       rotate_left
       ·simp only [Act.put, List.setIfInBounds_toArray, List.set_cons_zero, List.set_cons_succ, i64_w, i32_w]
        rfl
       refine pure_ (i := 19) (N := some 34) (v := undef) (a' := ?_) #[true, true, true, true, true, true, true, true, true, true, true, true, true, true, true, true, true, true, true, true, false, false, false, false] rfl rfl (any_of HT_.out (by kernel_rfl)) (fun _ _ _ h => h) (Or.inr ⟨by rfl, rfl⟩) ?_ ?_
       rotate_left
       ·simp only [Act.put, List.setIfInBounds_toArray, List.set_cons_zero, List.set_cons_succ, i64_w, i32_w]
        rfl
       refine pure_ (i := 20) (N := some 35) (v := undef) (a' := ?_) #[true, true, true, true, true, true, true, true, true, true, true, true, true, true, true, true, true, true, true, true, true, false, false, false] rfl rfl (any_of HT_.out (by kernel_rfl)) (fun _ _ _ h => h) (Or.inr ⟨by rfl, rfl⟩) ?_ ?_
       rotate_left
       ·simp only [Act.put, List.setIfInBounds_toArray, List.set_cons_zero, List.set_cons_succ, i64_w, i32_w]
        rfl
       refine pure_ (i := 21) (N := some 36) (v := undef) (a' := ?_) #[true, true, true, true, true, true, true, true, true, true, true, true, true, true, true, true, true, true, true, true, true, true, false, false] rfl rfl (any_of HT_.out (by kernel_rfl)) (fun _ _ _ h => h) (Or.inr ⟨by rfl, rfl⟩) ?_ ?_
       rotate_left
       ·simp only [Act.put, List.setIfInBounds_toArray, List.set_cons_zero, List.set_cons_succ, i64_w, i32_w]
        rfl
       refine pure_ (i := 22) (N := some 37) (v := undef) (a' := ?_) #[true, true, true, true, true, true, true, true, true, true, true, true, true, true, true, true, true, true, true, true, true, true, true, false] rfl rfl (any_of HT_.out (by kernel_rfl)) (fun _ _ _ h => h) (Or.inr ⟨by rfl, rfl⟩) ?_ ?_
       rotate_left
       ·simp only [Act.put, List.setIfInBounds_toArray, List.set_cons_zero, List.set_cons_succ, i64_w, i32_w]
        rfl
       refine pure_ (i := 23) (N := some 38) (v := ?_) (a' := ?_) #[true, true, true, true, true, true, true, true, true, true, true, true, true, true, true, true, true, true, true, true, true, true, true, true] rfl rfl (any_of HT_.out (by kernel_rfl)) (fun _ _ _ h => h) (Or.inl ⟨by rfl, ?_⟩) ?_ ?_
       rotate_left
       ·intro w'
        go_simp
        with_reducible rfl
       rotate_left
       ·simp only [Act.put, List.setIfInBounds_toArray, List.set_cons_zero, List.set_cons_succ, i64_w, i32_w]
        rfl
       refine done_ (done_of HT_.out (by kernel_rfl)) ?_
       try go_wp2
       go_ret
       exact ⟨by first | rfl | (simp [errW_none, errW_some] <;> rfl) | (simp [*, errW_none, errW_some] <;> rfl), by repeat (first | (with_reducible first | exact HB.out | apply below_alloc | apply pw_below_drewN | apply below_drew1 | refine below_set ?_ GE156.out | refine below_set ?_ GE158.out) | exact HB.out)⟩
      ·rw [if_neg c8] at H
       have c8b0 : decide (((rd_T49 l0_0 x10_1).f1) < 0) = false := decide_eq_false c8
       clear c8
       by_cases c14 : ((rd_T49 l0_0 x10_1).f1) ≥ a1
       ·rw [if_pos c14] at H
        have c14b0 : decide (a1 ≤ ((rd_T49 l0_0 x10_1).f1)) = true := decide_eq_true c14
        clear c14
        obtain rfl := Option.some.inj H
        have p157 : 0 ≤ (x10_1 : Int) := of_decide_eq_true (by first | (with_reducible assumption) | assumption)
        have q157 : x10_1 < (l0_0.length : Int) := of_decide_eq_true (by first | (with_reducible assumption) | assumption)
        obtain ⟨ad157, e157, hx157_0, hx157_1, hx157_2, hx157_3, hx157_4, hx157_5⟩ := at_T49 HR0_0.out x10_1 p157 q157
        cases e157
        replace hx157_0 := (HB.out.cell (World.block_lt_of_cell? w _ hx157_0)).trans hx157_0
        replace hx157_1 := (HB.out.cell (World.block_lt_of_cell? w _ hx157_1)).trans hx157_1
        replace hx157_2 := (HB.out.cell (World.block_lt_of_cell? w _ hx157_2)).trans hx157_2
        replace hx157_3 := (HB.out.cell (World.block_lt_of_cell? w _ hx157_3)).trans hx157_3
        replace hx157_4 := (HB.out.cell (World.block_lt_of_cell? w _ hx157_4)).trans hx157_4
        replace hx157_5 := (HB.out.cell (World.block_lt_of_cell? w _ hx157_5)).trans hx157_5
        replace p157 := eq_true p157
        replace q157 := eq_true q157
        try go_wp2_with (first | ((with_reducible refine gate_dst (N := 6) rfl ?_); refine box_event ?hg (N := 6) ?hd (cs := #[.int .i64 0, .int .i64 0, .int .i64 0, .int .i64 0, .int .i64 0, .int .i64 0]) (t := 49) ?hr ?_; (case hd => rfl); (case hg => rfl); (case hr => first | (go_simp; done) | (go_simp; rfl)); intro gb158 hg w15 hbox hb; have n0_ := Aside0.mk (blk_below (g := gb156) (o := .cells #[.slice (some ad157) l0_0.length c0_0] 28 (0, 0)) (by (with_reducible repeat (first | refine blk_drewN ?_ _ | refine blk_drew ?_ | refine blk_alloc ?_ _)); exact BK156.out) hb); have n1_ := Aside0.mk (below_step (by repeat (first | (with_reducible first | exact HB.out | apply below_alloc | apply pw_below_drewN | apply below_drew1 | refine below_set ?_ GE156.out) | exact HB.out)) hb); have n2_ := Aside0.mk (hbox); have n3_ := Aside0.mk ((by rw [hg]; exact (below_size (by repeat (first | (with_reducible first | exact HB.out | apply below_alloc | apply pw_below_drewN | apply below_drew1 | refine below_set ?_ GE156.out) | exact HB.out))) : w.heap.size ≤ gb158)); have n4_ := Aside0.mk ((by rw [hg]; exact (below_size (by repeat (first | (with_reducible first | exact HB.out | apply below_alloc | apply pw_below_drewN | apply below_drew1 | refine below_set ?_ GE156.out) | exact HB.out))) : w.heap.size ≤ gb158)); have n5_ := Aside0.mk ((by rw [hg]; exact Nat.ne_of_lt (blk_lt (g := gb156) (o := .cells #[.slice (some ad157) l0_0.length c0_0] 28 (0, 0)) (by (with_reducible repeat (first | refine blk_drewN ?_ _ | refine blk_drew ?_ | refine blk_alloc ?_ _)); exact BK156.out)) : gb156 ≠ gb158)); have n6_ := Aside0.mk ((by rw [hg]; exact Nat.ne_of_gt (blk_lt (g := gb156) (o := .cells #[.slice (some ad157) l0_0.length c0_0] 28 (0, 0)) (by (with_reducible repeat (first | refine blk_drewN ?_ _ | refine blk_drew ?_ | refine blk_alloc ?_ _)); exact BK156.out)) : gb158 ≠ gb156)); clear BK156; clear HB; have BK156 := n0_; have HB := n1_; have BK158 := n2_; have GW158 := n3_; have GE158 := n4_; have NB156_158 := n5_; have NB158_156 := n6_; clear n0_ n1_ n2_ n3_ n4_ n5_ n6_; clear hb hbox hg; have hnb16 := NB158_156.out; have hnc16 := NB156_158.out; have hcz17_0 : w15.cell? ⟨gb158, 0, none⟩ = some (.int .i64 0) := (blk_cell BK158.out 0).trans rfl; have hcz17_1 : w15.cell? ⟨gb158, 1, none⟩ = some (.int .i64 0) := (blk_cell BK158.out 1).trans rfl; have hcz17_2 : w15.cell? ⟨gb158, 2, none⟩ = some (.int .i64 0) := (blk_cell BK158.out 2).trans rfl; have hcz17_3 : w15.cell? ⟨gb158, 3, none⟩ = some (.int .i64 0) := (blk_cell BK158.out 3).trans rfl; have hcz17_4 : w15.cell? ⟨gb158, 4, none⟩ = some (.int .i64 0) := (blk_cell BK158.out 4).trans rfl; have hcz17_5 : w15.cell? ⟨gb158, 5, none⟩ = some (.int .i64 0) := (blk_cell BK158.out 5).trans rfl; have hfz17_0 := blk_frozen BK158.out 0; have hfz17_1 := blk_frozen BK158.out 1; have hfz17_2 := blk_frozen BK158.out 2; have hfz17_3 := blk_frozen BK158.out 3; have hfz17_4 := blk_frozen BK158.out 4; have hfz17_5 := blk_frozen BK158.out 5))
        have n0_ : Aside0 (((((((w15.setCell ⟨gb158, 0, none⟩ (.int .i64 ((rd_T49 l0_0 x10_1).f0.f0.f0))).setCell ⟨gb158, 1, none⟩ (.int .i64 ((rd_T49 l0_0 x10_1).f0.f0.f1))).setCell ⟨gb158, 2, none⟩ (.int .i64 ((rd_T49 l0_0 x10_1).f0.f0.f2))).setCell ⟨gb158, 3, none⟩ (.int .i64 ((rd_T49 l0_0 x10_1).f0.f1))).setCell ⟨gb158, 4, none⟩ (.int .i64 ((rd_T49 l0_0 x10_1).f0.f2))).setCell ⟨gb158, 5, none⟩ (.int .i64 ((rd_T49 l0_0 x10_1).f1))).heap[gb156]? = some (.cells #[.slice (some ad157) l0_0.length c0_0] 28 (0, 0))) := ⟨by (with_reducible repeat (first | refine blk_drewN ?_ _ | refine blk_drew ?_ | refine blk_alloc ?_ _)); refine blk_far ?_ NB156_158.out _; (with_reducible repeat (first | refine blk_drewN ?_ _ | refine blk_drew ?_ | refine blk_alloc ?_ _)); refine blk_far ?_ NB156_158.out _; (with_reducible repeat (first | refine blk_drewN ?_ _ | refine blk_drew ?_ | refine blk_alloc ?_ _)); refine blk_far ?_ NB156_158.out _; (with_reducible repeat (first | refine blk_drewN ?_ _ | refine blk_drew ?_ | refine blk_alloc ?_ _)); refine blk_far ?_ NB156_158.out _; (with_reducible repeat (first | refine blk_drewN ?_ _ | refine blk_drew ?_ | refine blk_alloc ?_ _)); refine blk_far ?_ NB156_158.out _; (with_reducible repeat (first | refine blk_drewN ?_ _ | refine blk_drew ?_ | refine blk_alloc ?_ _)); refine blk_far ?_ NB156_158.out _; (with_reducible repeat (first | refine blk_drewN ?_ _ | refine blk_drew ?_ | refine blk_alloc ?_ _)); exact BK156.out⟩
        have n1_ : Aside0 (((((((w15.setCell ⟨gb158, 0, none⟩ (.int .i64 ((rd_T49 l0_0 x10_1).f0.f0.f0))).setCell ⟨gb158, 1, none⟩ (.int .i64 ((rd_T49 l0_0 x10_1).f0.f0.f1))).setCell ⟨gb158, 2, none⟩ (.int .i64 ((rd_T49 l0_0 x10_1).f0.f0.f2))).setCell ⟨gb158, 3, none⟩ (.int .i64 ((rd_T49 l0_0 x10_1).f0.f1))).setCell ⟨gb158, 4, none⟩ (.int .i64 ((rd_T49 l0_0 x10_1).f0.f2))).setCell ⟨gb158, 5, none⟩ (.int .i64 ((rd_T49 l0_0 x10_1).f1))).heap[gb158]? = some (.cells #[.int .i64 ((rd_T49 l0_0 x10_1).f0.f0.f0), .int .i64 ((rd_T49 l0_0 x10_1).f0.f0.f1), .int .i64 ((rd_T49 l0_0 x10_1).f0.f0.f2), .int .i64 ((rd_T49 l0_0 x10_1).f0.f1), .int .i64 ((rd_T49 l0_0 x10_1).f0.f2), .int .i64 ((rd_T49 l0_0 x10_1).f1)] 49 (0, 0))) := ⟨by (with_reducible repeat (first | refine blk_drewN ?_ _ | refine blk_drew ?_ | refine blk_alloc ?_ _)); refine blk_put (cs := #[.int .i64 ((rd_T49 l0_0 x10_1).f0.f0.f0), .int .i64 ((rd_T49 l0_0 x10_1).f0.f0.f1), .int .i64 ((rd_T49 l0_0 x10_1).f0.f0.f2), .int .i64 ((rd_T49 l0_0 x10_1).f0.f1), .int .i64 ((rd_T49 l0_0 x10_1).f0.f2), .int .i64 0]) ?_ 5 _ rfl; (with_reducible repeat (first | refine blk_drewN ?_ _ | refine blk_drew ?_ | refine blk_alloc ?_ _)); refine blk_put (cs := #[.int .i64 ((rd_T49 l0_0 x10_1).f0.f0.f0), .int .i64 ((rd_T49 l0_0 x10_1).f0.f0.f1), .int .i64 ((rd_T49 l0_0 x10_1).f0.f0.f2), .int .i64 ((rd_T49 l0_0 x10_1).f0.f1), .int .i64 0, .int .i64 0]) ?_ 4 _ rfl; (with_reducible repeat (first | refine blk_drewN ?_ _ | refine blk_drew ?_ | refine blk_alloc ?_ _)); refine blk_put (cs := #[.int .i64 ((rd_T49 l0_0 x10_1).f0.f0.f0), .int .i64 ((rd_T49 l0_0 x10_1).f0.f0.f1), .int .i64 ((rd_T49 l0_0 x10_1).f0.f0.f2), .int .i64 0, .int .i64 0, .int .i64 0]) ?_ 3 _ rfl; (with_reducible repeat (first | refine blk_drewN ?_ _ | refine blk_drew ?_ | refine blk_alloc ?_ _)); refine blk_put (cs := #[.int .i64 ((rd_T49 l0_0 x10_1).f0.f0.f0), .int .i64 ((rd_T49 l0_0 x10_1).f0.f0.f1), .int .i64 0, .int .i64 0, .int .i64 0, .int .i64 0]) ?_ 2 _ rfl; (with_reducible repeat (first | refine blk_drewN ?_ _ | refine blk_drew ?_ | refine blk_alloc ?_ _)); refine blk_put (cs := #[.int .i64 ((rd_T49 l0_0 x10_1).f0.f0.f0), .int .i64 0, .int .i64 0, .int .i64 0, .int .i64 0, .int .i64 0]) ?_ 1 _ rfl; (with_reducible repeat (first | refine blk_drewN ?_ _ | refine blk_drew ?_ | refine blk_alloc ?_ _)); refine blk_put (cs := #[.int .i64 0, .int .i64 0, .int .i64 0, .int .i64 0, .int .i64 0, .int .i64 0]) ?_ 0 _ rfl; (with_reducible repeat (first | refine blk_drewN ?_ _ | refine blk_drew ?_ | refine blk_alloc ?_ _)); exact BK158.out⟩
        have n2_ : Aside0 (Below w.heap.size w ((((((w15.setCell ⟨gb158, 0, none⟩ (.int .i64 ((rd_T49 l0_0 x10_1).f0.f0.f0))).setCell ⟨gb158, 1, none⟩ (.int .i64 ((rd_T49 l0_0 x10_1).f0.f0.f1))).setCell ⟨gb158, 2, none⟩ (.int .i64 ((rd_T49 l0_0 x10_1).f0.f0.f2))).setCell ⟨gb158, 3, none⟩ (.int .i64 ((rd_T49 l0_0 x10_1).f0.f1))).setCell ⟨gb158, 4, none⟩ (.int .i64 ((rd_T49 l0_0 x10_1).f0.f2))).setCell ⟨gb158, 5, none⟩ (.int .i64 ((rd_T49 l0_0 x10_1).f1)))) := ⟨by repeat (first | (with_reducible first | exact HB.out | apply below_alloc | apply pw_below_drewN | apply below_drew1 | refine below_set ?_ GE156.out | refine below_set ?_ GE158.out) | exact HB.out)⟩
        (try clear BK156)
        (try clear BK158)
        (try clear HB)
        generalize ((((((w15.setCell ⟨gb158, 0, none⟩ (.int .i64 ((rd_T49 l0_0 x10_1).f0.f0.f0))).setCell ⟨gb158, 1, none⟩ (.int .i64 ((rd_T49 l0_0 x10_1).f0.f0.f1))).setCell ⟨gb158, 2, none⟩ (.int .i64 ((rd_T49 l0_0 x10_1).f0.f0.f2))).setCell ⟨gb158, 3, none⟩ (.int .i64 ((rd_T49 l0_0 x10_1).f0.f1))).setCell ⟨gb158, 4, none⟩ (.int .i64 ((rd_T49 l0_0 x10_1).f0.f2))).setCell ⟨gb158, 5, none⟩ (.int .i64 ((rd_T49 l0_0 x10_1).f1))) = w18 at n0_ n1_ n2_ ⊢
        have BK156 := n0_
        have BK158 := n1_
        have HB := n2_
        clear n0_ n1_ n2_
        have n0_ := Aside0.mk (blk_drew BK156.out)
        have n1_ := Aside0.mk (blk_drew BK158.out)
        have n2_ := Aside0.mk (below_drew1 HB.out)
        clear BK156
        clear BK158
        clear HB
        have BK156 := n0_
        have BK158 := n1_
        have HB := n2_
        clear n0_ n1_ n2_
        refine start_ (n := 24) (S := fun w' => w'.cell? ⟨gb158, 0, none⟩ = some (.int .i64 ((rd_T49 l0_0 x10_1).f0.f0.f0)) ∧ w'.cell? ⟨gb158, 1, none⟩ = some (.int .i64 ((rd_T49 l0_0 x10_1).f0.f0.f1)) ∧ w'.cell? ⟨gb158, 2, none⟩ = some (.int .i64 ((rd_T49 l0_0 x10_1).f0.f0.f2)) ∧ w'.cell? ⟨gb158, 3, none⟩ = some (.int .i64 ((rd_T49 l0_0 x10_1).f0.f1)) ∧ w'.cell? ⟨gb158, 4, none⟩ = some (.int .i64 ((rd_T49 l0_0 x10_1).f0.f2)) ∧ w'.cell? ⟨gb158, 5, none⟩ = some (.int .i64 ((rd_T49 l0_0 x10_1).f1))) (ds := []) #[false, false, false, false, false, false, false, false, false, false, false, false, false, false, false, false, false, false, false, false, false, false, false, false] (by kernel_rfl) rfl rfl ⟨(blk_cell BK158.out 0).trans rfl, (blk_cell BK158.out 1).trans rfl, (blk_cell BK158.out 2).trans rfl, (blk_cell BK158.out 3).trans rfl, (blk_cell BK158.out 4).trans rfl, (blk_cell BK158.out 5).trans rfl⟩ (fun hHeld => ?_); refine with_tabW index_Check.tab4 index_Check.bits4 (fun HT_ HW_ => ?_)
        generalize w18.drew = w19 at BK156 BK158 HB hHeld ⊢
        refine pure_ (i := 0) (N := some 15) (v := ?_) (a' := ?_) #[true, false, false, false, false, false, false, false, false, false, false, false, false, false, false, false, false, false, false, false, false, false, false, false] rfl rfl (any_of HT_.out (by kernel_rfl)) (fun _ _ _ h => h) (Or.inl ⟨by rfl, ?_⟩) ?_ ?_
        rotate_left
        ·intro w'
         go_simp
         with_reducible rfl
        rotate_left
        ·simp only [Act.put, List.setIfInBounds_toArray, List.set_cons_zero, List.set_cons_succ, i64_w, i32_w]
         rfl
        refine take_ (i := 1) (N := some 16) (v := ?_) (a' := ?_) #[true, true, false, false, false, false, false, false, false, false, false, false, false, false, false, false, false, false, false, false, false, false, false, false] rfl rfl (take_ofW HT_.out HW_.out (by kernel_rfl)) (fun _ _ _ h => h) (Or.inl ⟨by rfl, ?_⟩) hHeld ?_ ?_
        rotate_left
        ·rintro w' ⟨s0, s1, s2, s3, s4, s5⟩
         go_simp
         with_reducible rfl
        rotate_left
        ·simp only [Act.put, List.setIfInBounds_toArray, List.set_cons_zero, List.set_cons_succ, i64_w, i32_w]
         rfl
        refine pure_ (i := 2) (N := some 17) (v := ?_) (a' := ?_) #[true, true, true, false, false, false, false, false, false, false, false, false, false, false, false, false, false, false, false, false, false, false, false, false] rfl rfl (any_of HT_.out (by kernel_rfl)) (fun _ _ _ h => h) (Or.inl ⟨by rfl, ?_⟩) ?_ ?_
        rotate_left
        ·intro w'
         go_simp
         with_reducible rfl
        rotate_left
        ·simp only [Act.put, List.setIfInBounds_toArray, List.set_cons_zero, List.set_cons_succ, i64_w, i32_w]
         rfl
        refine pure_ (i := 3) (N := some 18) (v := ?_) (a' := ?_) #[true, true, true, true, false, false, false, false, false, false, false, false, false, false, false, false, false, false, false, false, false, false, false, false] rfl rfl (any_of HT_.out (by kernel_rfl)) (fun _ _ _ h => h) (Or.inl ⟨by rfl, ?_⟩) ?_ ?_
        rotate_left
        ·intro w'
         go_simp
         with_reducible rfl
        rotate_left
        ·simp only [Act.put, List.setIfInBounds_toArray, List.set_cons_zero, List.set_cons_succ, i64_w, i32_w]
         rfl
        refine pure_ (i := 4) (N := some 19) (v := ?_) (a' := ?_) #[true, true, true, true, true, false, false, false, false, false, false, false, false, false, false, false, false, false, false, false, false, false, false, false] rfl rfl (any_of HT_.out (by kernel_rfl)) (fun _ _ _ h => h) (Or.inl ⟨by rfl, ?_⟩) ?_ ?_
        rotate_left
        ·intro w'
         go_simp
         with_reducible rfl
        rotate_left
        ·simp only [Act.put, List.setIfInBounds_toArray, List.set_cons_zero, List.set_cons_succ, i64_w, i32_w]
         rfl
        refine pure_ (i := 6) (N := some 21) (v := ?_) (a' := ?_) #[true, true, true, true, true, false, true, false, false, false, false, false, false, false, false, false, false, false, false, false, false, false, false, false] rfl rfl (any_of HT_.out (by kernel_rfl)) (fun _ _ _ h => h) (Or.inl ⟨by rfl, ?_⟩) ?_ ?_
        rotate_left
        ·intro w'
         go_simp
         with_reducible rfl
        rotate_left
        ·simp only [Act.put, List.setIfInBounds_toArray, List.set_cons_zero, List.set_cons_succ, i64_w, i32_w]
         rfl
        refine take_ (i := 5) (N := some 20) (v := ?_) (a' := ?_) #[true, true, true, true, true, true, true, false, false, false, false, false, false, false, false, false, false, false, false, false, false, false, false, false] rfl rfl (take_ofW HT_.out HW_.out (by kernel_rfl)) (fun _ _ _ h => h) (Or.inl ⟨by rfl, ?_⟩) hHeld ?_ ?_
        rotate_left
        ·rintro w' ⟨s0, s1, s2, s3, s4, s5⟩
         go_simp
         with_reducible rfl
        rotate_left
        ·simp only [Act.put, List.setIfInBounds_toArray, List.set_cons_zero, List.set_cons_succ, i64_w, i32_w]
         rfl
        refine pure_ (i := 7) (N := some 22) (v := ?_) (a' := ?_) #[true, true, true, true, true, true, true, true, false, false, false, false, false, false, false, false, false, false, false, false, false, false, false, false] rfl rfl (any_of HT_.out (by kernel_rfl)) (fun _ _ _ h => h) (Or.inl ⟨by rfl, ?_⟩) ?_ ?_
        rotate_left
        ·intro w'
         go_simp
         with_reducible rfl
        rotate_left
        ·simp only [Act.put, List.setIfInBounds_toArray, List.set_cons_zero, List.set_cons_succ, i64_w, i32_w]
         rfl
        refine pure_ (i := 8) (N := some 23) (v := ?_) (a' := ?_) #[true, true, true, true, true, true, true, true, true, false, false, false, false, false, false, false, false, false, false, false, false, false, false, false] rfl rfl (any_of HT_.out (by kernel_rfl)) (fun _ _ _ h => h) (Or.inl ⟨by rfl, ?_⟩) ?_ ?_
        rotate_left
        ·intro w'
         go_simp
         with_reducible rfl
        rotate_left
        ·simp only [Act.put, List.setIfInBounds_toArray, List.set_cons_zero, List.set_cons_succ, i64_w, i32_w]
         rfl
        refine pure_ (i := 9) (N := some 24) (v := ?_) (a' := ?_) #[true, true, true, true, true, true, true, true, true, true, false, false, false, false, false, false, false, false, false, false, false, false, false, false] rfl rfl (any_of HT_.out (by kernel_rfl)) (fun _ _ _ h => h) (Or.inl ⟨by rfl, ?_⟩) ?_ ?_
        rotate_left
        ·intro w'
         go_simp
         with_reducible rfl
        rotate_left
        ·simp only [Act.put, List.setIfInBounds_toArray, List.set_cons_zero, List.set_cons_succ, i64_w, i32_w]
         rfl
        refine pure_ (i := 10) (N := some 25) (v := undef) (a' := ?_) #[true, true, true, true, true, true, true, true, true, true, true, false, false, false, false, false, false, false, false, false, false, false, false, false] rfl rfl (any_of HT_.out (by kernel_rfl)) (fun _ _ _ h => h) (Or.inr ⟨by rfl, rfl⟩) ?_ ?_
        rotate_left
        ·simp only [Act.put, List.setIfInBounds_toArray, List.set_cons_zero, List.set_cons_succ, i64_w, i32_w]
         rfl
        refine pure_ (i := 11) (N := some 26) (v := undef) (a' := ?_) #[true, true, true, true, true, true, true, true, true, true, true, true, false, false, false, false, false, false, false, false, false, false, false, false] rfl rfl (any_of HT_.out (by kernel_rfl)) (fun _ _ _ h => h) (Or.inr ⟨by rfl, rfl⟩) ?_ ?_
        rotate_left
        ·simp only [Act.put, List.setIfInBounds_toArray, List.set_cons_zero, List.set_cons_succ, i64_w, i32_w]
         rfl
        refine pure_ (i := 12) (N := some 27) (v := undef) (a' := ?_) #[true, true, true, true, true, true, true, true, true, true, true, true, true, false, false, false, false, false, false, false, false, false, false, false] rfl rfl (any_of HT_.out (by kernel_rfl)) (fun _ _ _ h => h) (Or.inr ⟨by rfl, rfl⟩) ?_ ?_
        rotate_left
        ·simp only [Act.put, List.setIfInBounds_toArray, List.set_cons_zero, List.set_cons_succ, i64_w, i32_w]
         rfl
        refine pure_ (i := 13) (N := some 28) (v := undef) (a' := ?_) #[true, true, true, true, true, true, true, true, true, true, true, true, true, true, false, false, false, false, false, false, false, false, false, false] rfl rfl (any_of HT_.out (by kernel_rfl)) (fun _ _ _ h => h) (Or.inr ⟨by rfl, rfl⟩) ?_ ?_
        rotate_left
        ·simp only [Act.put, List.setIfInBounds_toArray, List.set_cons_zero, List.set_cons_succ, i64_w, i32_w]
         rfl
        refine pure_ (i := 14) (N := some 29) (v := undef) (a' := ?_) #[true, true, true, true, true, true, true, true, true, true, true, true, true, true, true, false, false, false, false, false, false, false, false, false] rfl rfl (any_of HT_.out (by kernel_rfl)) (fun _ _ _ h => h) (Or.inr ⟨by rfl, rfl⟩) ?_ ?_
        rotate_left
        ·simp only [Act.put, List.setIfInBounds_toArray, List.set_cons_zero, List.set_cons_succ, i64_w, i32_w]
         rfl
        refine pure_ (i := 15) (N := some 30) (v := undef) (a' := ?_) #[true, true, true, true, true, true, true, true, true, true, true, true, true, true, true, true, false, false, false, false, false, false, false, false] rfl rfl (any_of HT_.out (by kernel_rfl)) (fun _ _ _ h => h) (Or.inr ⟨by rfl, rfl⟩) ?_ ?_
        rotate_left
        ·simp only [Act.put, List.setIfInBounds_toArray, List.set_cons_zero, List.set_cons_succ, i64_w, i32_w]
         rfl
        refine pure_ (i := 16) (N := some 31) (v := undef) (a' := ?_) #[true, true, true, true, true, true, true, true, true, true, true, true, true, true, true, true, true, false, false, false, false, false, false, false] rfl rfl (any_of HT_.out (by kernel_rfl)) (fun _ _ _ h => h) (Or.inr ⟨by rfl, rfl⟩) ?_ ?_
        rotate_left
        ·simp only [Act.put, List.setIfInBounds_toArray, List.set_cons_zero, List.set_cons_succ, i64_w, i32_w]
         rfl
        refine pure_ (i := 17) (N := some 32) (v := undef) (a' := ?_) #[true, true, true, true, true, true, true, true, true, true, true, true, true, true, true, true, true, true, false, false, false, false, false, false] rfl rfl (any_of HT_.out (by kernel_rfl)) (fun _ _ _ h => h) (Or.inr ⟨by rfl, rfl⟩) ?_ ?_
        rotate_left
        ·simp only [Act.put, List.setIfInBounds_toArray, List.set_cons_zero, List.set_cons_succ, i64_w, i32_w]
         rfl
        refine pure_ (i := 18) (N := some 33) (v := undef) (a' := ?_) #[true, true, true, true, true, true, true, true, true, true, true, true, true, true, true, true, true, true, true, false, false, false, false, false] rfl rfl (any_of HT_.out (by kernel_rfl)) (fun _ _ _ h => h) (Or.inr ⟨by rfl, rfl⟩) ?_ ?_
        rotate_left
        ·simp only [Act.put, List.setIfInBounds_toArray, List.set_cons_zero, List.set_cons_succ, i64_w, i32_w]
         rfl
        refine pure_ (i := 19) (N := some 34) (v := undef) (a' := ?_) #[true, true, true, true, true, true, true, true, true, true, true, true, true, true, true, true, true, true, true, true, false, false, false, false] rfl rfl (any_of HT_.out (by kernel_rfl)) (fun _ _ _ h => h) (Or.inr ⟨by rfl, rfl⟩) ?_ ?_
        rotate_left
        ·simp only [Act.put, List.setIfInBounds_toArray, List.set_cons_zero, List.set_cons_succ, i64_w, i32_w]
         rfl
        refine pure_ (i := 20) (N := some 35) (v := undef) (a' := ?_) #[true, true, true, true, true, true, true, true, true, true, true, true, true, true, true, true, true, true, true, true, true, false, false, false] rfl rfl (any_of HT_.out (by kernel_rfl)) (fun _ _ _ h => h) (Or.inr ⟨by rfl, rfl⟩) ?_ ?_
        rotate_left
        ·simp only [Act.put, List.setIfInBounds_toArray, List.set_cons_zero, List.set_cons_succ, i64_w, i32_w]
         rfl
        refine pure_ (i := 21) (N := some 36) (v := undef) (a' := ?_) #[true, true, true, true, true, true, true, true, true, true, true, true, true, true, true, true, true, true, true, true, true, true, false, false] rfl rfl (any_of HT_.out (by kernel_rfl)) (fun _ _ _ h => h) (Or.inr ⟨by rfl, rfl⟩) ?_ ?_
        rotate_left
        ·simp only [Act.put, List.setIfInBounds_toArray, List.set_cons_zero, List.set_cons_succ, i64_w, i32_w]
         rfl
        refine pure_ (i := 22) (N := some 37) (v := undef) (a' := ?_) #[true, true, true, true, true, true, true, true, true, true, true, true, true, true, true, true, true, true, true, true, true, true, true, false] rfl rfl (any_of HT_.out (by kernel_rfl)) (fun _ _ _ h => h) (Or.inr ⟨by rfl, rfl⟩) ?_ ?_
        rotate_left
        ·simp only [Act.put, List.setIfInBounds_toArray, List.set_cons_zero, List.set_cons_succ, i64_w, i32_w]
         rfl
        refine pure_ (i := 23) (N := some 38) (v := ?_) (a' := ?_) #[true, true, true, true, true, true, true, true, true, true, true, true, true, true, true, true, true, true, true, true, true, true, true, true] rfl rfl (any_of HT_.out (by kernel_rfl)) (fun _ _ _ h => h) (Or.inl ⟨by rfl, ?_⟩) ?_ ?_
        rotate_left
        ·intro w'
         go_simp
         with_reducible rfl
        rotate_left
        ·simp only [Act.put, List.setIfInBounds_toArray, List.set_cons_zero, List.set_cons_succ, i64_w, i32_w]
         rfl
        refine done_ (done_of HT_.out (by kernel_rfl)) ?_
        try go_wp2
        go_ret
        exact ⟨by first | rfl | (simp [errW_none, errW_some] <;> rfl) | (simp [*, errW_none, errW_some] <;> rfl), by repeat (first | (with_reducible first | exact HB.out | apply below_alloc | apply pw_below_drewN | apply below_drew1 | refine below_set ?_ GE156.out | refine below_set ?_ GE158.out) | exact HB.out)⟩
       ·rw [if_neg c14] at H
        have c14b0 : decide (a1 ≤ ((rd_T49 l0_0 x10_1).f1)) = false := decide_eq_false c14
        clear c14
        by_cases c20 : x10_1 > 0
        ·rw [if_pos c20] at H
         have c20b0 : decide (0 < x10_1) = true := decide_eq_true c20
         clear c20
         obtain ⟨ji21, hji21⟩ : ∃ j_ : Int, (wrap64 (x10_1 - 1)) = j_ := ⟨_, rfl⟩
         replace H : (if 0 ≤ (ji21) then (if (ji21) < (l0_0.length : Int) then ((index_compare.f k1 ((rd_T49 l0_0 (ji21)).f0.f0.f0) ((rd_T49 l0_0 (ji21)).f0.f0.f1) ((rd_T49 l0_0 (ji21)).f0.f0.f2) ((rd_T49 l0_0 (ji21)).f0.f1) ((rd_T49 l0_0 (ji21)).f0.f2) ((rd_T49 l0_0 (ji21)).f1) ((rd_T49 l0_0 x10_1).f0.f0.f0) ((rd_T49 l0_0 x10_1).f0.f0.f1) ((rd_T49 l0_0 x10_1).f0.f0.f2) ((rd_T49 l0_0 x10_1).f0.f1) ((rd_T49 l0_0 x10_1).f0.f2) ((rd_T49 l0_0 x10_1).f1)).bind fun t160 => (if t160 ≥ 0 then (some 350) else (index_Check.l0 k1 a1 l0_0 (l0_0.length : Int) (wrap64 (x10_1 + 1)) l0_0))) else (none)) else (none)) = some r := by first | (rw [hji21] at H; exact H) | (simp only [hji21] at H ⊢; exact H)
         have hji21w : (IntKind.i64.wrap (x10_1 - 1)) = ji21 := (i64_w _).trans hji21
         by_cases c22 : 0 ≤ (ji21)
         ·rw [if_pos c22] at H
          have c22b0 : decide (0 ≤ (ji21)) = true := decide_eq_true c22
          clear c22
          by_cases c23 : (ji21) < (l0_0.length : Int)
          ·rw [if_pos c23] at H
           have c23b0 : decide ((ji21) < (l0_0.length : Int)) = true := decide_eq_true c23
           clear c23
           replace H := Option.bind_eq_some_iff.mp H
           obtain ⟨t160, A240, H⟩ := H
           replace H : (if t160 ≥ 0 then (some 350) else (index_Check.l0 k1 a1 l0_0 (l0_0.length : Int) (wrap64 (x10_1 + 1)) l0_0)) = some r := H
           have A24 := Aside0.mk A240
           clear A240
           by_cases c25 : t160 ≥ 0
           ·rw [if_pos c25] at H
            have c25b0 : decide (0 ≤ t160) = true := decide_eq_true c25
            clear c25
            obtain rfl := Option.some.inj H
            have p157 : 0 ≤ (x10_1 : Int) := of_decide_eq_true (by first | (with_reducible assumption) | assumption)
            have q157 : x10_1 < (l0_0.length : Int) := of_decide_eq_true (by first | (with_reducible assumption) | assumption)
            obtain ⟨ad157, e157, hx157_0, hx157_1, hx157_2, hx157_3, hx157_4, hx157_5⟩ := at_T49 HR0_0.out x10_1 p157 q157
            cases e157
            replace hx157_0 := (HB.out.cell (World.block_lt_of_cell? w _ hx157_0)).trans hx157_0
            replace hx157_1 := (HB.out.cell (World.block_lt_of_cell? w _ hx157_1)).trans hx157_1
            replace hx157_2 := (HB.out.cell (World.block_lt_of_cell? w _ hx157_2)).trans hx157_2
            replace hx157_3 := (HB.out.cell (World.block_lt_of_cell? w _ hx157_3)).trans hx157_3
            replace hx157_4 := (HB.out.cell (World.block_lt_of_cell? w _ hx157_4)).trans hx157_4
            replace hx157_5 := (HB.out.cell (World.block_lt_of_cell? w _ hx157_5)).trans hx157_5
            replace p157 := eq_true p157
            replace q157 := eq_true q157
            try go_wp2_with (first | ((with_reducible refine gate_dst (N := 6) rfl ?_); refine box_event ?hg (N := 6) ?hd (cs := #[.int .i64 0, .int .i64 0, .int .i64 0, .int .i64 0, .int .i64 0, .int .i64 0]) (t := 49) ?hr ?_; (case hd => rfl); (case hg => rfl); (case hr => first | (go_simp; done) | (go_simp; rfl)); intro gb158 hg w26 hbox hb; have n0_ := Aside0.mk (blk_below (g := gb156) (o := .cells #[.slice (some ad157) l0_0.length c0_0] 28 (0, 0)) (by (with_reducible repeat (first | refine blk_drewN ?_ _ | refine blk_drew ?_ | refine blk_alloc ?_ _)); exact BK156.out) hb); have n1_ := Aside0.mk (below_step (by repeat (first | (with_reducible first | exact HB.out | apply below_alloc | apply pw_below_drewN | apply below_drew1 | refine below_set ?_ GE156.out) | exact HB.out)) hb); have n2_ := Aside0.mk (hbox); have n3_ := Aside0.mk ((by rw [hg]; exact (below_size (by repeat (first | (with_reducible first | exact HB.out | apply below_alloc | apply pw_below_drewN | apply below_drew1 | refine below_set ?_ GE156.out) | exact HB.out))) : w.heap.size ≤ gb158)); have n4_ := Aside0.mk ((by rw [hg]; exact (below_size (by repeat (first | (with_reducible first | exact HB.out | apply below_alloc | apply pw_below_drewN | apply below_drew1 | refine below_set ?_ GE156.out) | exact HB.out))) : w.heap.size ≤ gb158)); have n5_ := Aside0.mk ((by rw [hg]; exact Nat.ne_of_lt (blk_lt (g := gb156) (o := .cells #[.slice (some ad157) l0_0.length c0_0] 28 (0, 0)) (by (with_reducible repeat (first | refine blk_drewN ?_ _ | refine blk_drew ?_ | refine blk_alloc ?_ _)); exact BK156.out)) : gb156 ≠ gb158)); have n6_ := Aside0.mk ((by rw [hg]; exact Nat.ne_of_gt (blk_lt (g := gb156) (o := .cells #[.slice (some ad157) l0_0.length c0_0] 28 (0, 0)) (by (with_reducible repeat (first | refine blk_drewN ?_ _ | refine blk_drew ?_ | refine blk_alloc ?_ _)); exact BK156.out)) : gb158 ≠ gb156)); clear BK156; clear HB; have BK156 := n0_; have HB := n1_; have BK158 := n2_; have GW158 := n3_; have GE158 := n4_; have NB156_158 := n5_; have NB158_156 := n6_; clear n0_ n1_ n2_ n3_ n4_ n5_ n6_; clear hb hbox hg; have hnb27 := NB158_156.out; have hnc27 := NB156_158.out; have hcz28_0 : w26.cell? ⟨gb158, 0, none⟩ = some (.int .i64 0) := (blk_cell BK158.out 0).trans rfl; have hcz28_1 : w26.cell? ⟨gb158, 1, none⟩ = some (.int .i64 0) := (blk_cell BK158.out 1).trans rfl; have hcz28_2 : w26.cell? ⟨gb158, 2, none⟩ = some (.int .i64 0) := (blk_cell BK158.out 2).trans rfl; have hcz28_3 : w26.cell? ⟨gb158, 3, none⟩ = some (.int .i64 0) := (blk_cell BK158.out 3).trans rfl; have hcz28_4 : w26.cell? ⟨gb158, 4, none⟩ = some (.int .i64 0) := (blk_cell BK158.out 4).trans rfl; have hcz28_5 : w26.cell? ⟨gb158, 5, none⟩ = some (.int .i64 0) := (blk_cell BK158.out 5).trans rfl; have hfz28_0 := blk_frozen BK158.out 0; have hfz28_1 := blk_frozen BK158.out 1; have hfz28_2 := blk_frozen BK158.out 2; have hfz28_3 := blk_frozen BK158.out 3; have hfz28_4 := blk_frozen BK158.out 4; have hfz28_5 := blk_frozen BK158.out 5))
            have n0_ : Aside0 (((((((w26.setCell ⟨gb158, 0, none⟩ (.int .i64 ((rd_T49 l0_0 x10_1).f0.f0.f0))).setCell ⟨gb158, 1, none⟩ (.int .i64 ((rd_T49 l0_0 x10_1).f0.f0.f1))).setCell ⟨gb158, 2, none⟩ (.int .i64 ((rd_T49 l0_0 x10_1).f0.f0.f2))).setCell ⟨gb158, 3, none⟩ (.int .i64 ((rd_T49 l0_0 x10_1).f0.f1))).setCell ⟨gb158, 4, none⟩ (.int .i64 ((rd_T49 l0_0 x10_1).f0.f2))).setCell ⟨gb158, 5, none⟩ (.int .i64 ((rd_T49 l0_0 x10_1).f1))).heap[gb156]? = some (.cells #[.slice (some ad157) l0_0.length c0_0] 28 (0, 0))) := ⟨by (with_reducible repeat (first | refine blk_drewN ?_ _ | refine blk_drew ?_ | refine blk_alloc ?_ _)); refine blk_far ?_ NB156_158.out _; (with_reducible repeat (first | refine blk_drewN ?_ _ | refine blk_drew ?_ | refine blk_alloc ?_ _)); refine blk_far ?_ NB156_158.out _; (with_reducible repeat (first | refine blk_drewN ?_ _ | refine blk_drew ?_ | refine blk_alloc ?_ _)); refine blk_far ?_ NB156_158.out _; (with_reducible repeat (first | refine blk_drewN ?_ _ | refine blk_drew ?_ | refine blk_alloc ?_ _)); refine blk_far ?_ NB156_158.out _; (with_reducible repeat (first | refine blk_drewN ?_ _ | refine blk_drew ?_ | refine blk_alloc ?_ _)); refine blk_far ?_ NB156_158.out _; (with_reducible repeat (first | refine blk_drewN ?_ _ | refine blk_drew ?_ | refine blk_alloc ?_ _)); refine blk_far ?_ NB156_158.out _; (with_reducible repeat (first | refine blk_drewN ?_ _ | refine blk_drew ?_ | refine blk_alloc ?_ _)); exact BK156.out⟩
            have n1_ : Aside0 (((((((w26.setCell ⟨gb158, 0, none⟩ (.int .i64 ((rd_T49 l0_0 x10_1).f0.f0.f0))).setCell ⟨gb158, 1, none⟩ (.int .i64 ((rd_T49 l0_0 x10_1).f0.f0.f1))).setCell ⟨gb158, 2, none⟩ (.int .i64 ((rd_T49 l0_0 x10_1).f0.f0.f2))).setCell ⟨gb158, 3, none⟩ (.int .i64 ((rd_T49 l0_0 x10_1).f0.f1))).setCell ⟨gb158, 4, none⟩ (.int .i64 ((rd_T49 l0_0 x10_1).f0.f2))).setCell ⟨gb158, 5, none⟩ (.int .i64 ((rd_T49 l0_0 x10_1).f1))).heap[gb158]? = some (.cells #[.int .i64 ((rd_T49 l0_0 x10_1).f0.f0.f0), .int .i64 ((rd_T49 l0_0 x10_1).f0.f0.f1), .int .i64 ((rd_T49 l0_0 x10_1).f0.f0.f2), .int .i64 ((rd_T49 l0_0 x10_1).f0.f1), .int .i64 ((rd_T49 l0_0 x10_1).f0.f2), .int .i64 ((rd_T49 l0_0 x10_1).f1)] 49 (0, 0))) := ⟨by (with_reducible repeat (first | refine blk_drewN ?_ _ | refine blk_drew ?_ | refine blk_alloc ?_ _)); refine blk_put (cs := #[.int .i64 ((rd_T49 l0_0 x10_1).f0.f0.f0), .int .i64 ((rd_T49 l0_0 x10_1).f0.f0.f1), .int .i64 ((rd_T49 l0_0 x10_1).f0.f0.f2), .int .i64 ((rd_T49 l0_0 x10_1).f0.f1), .int .i64 ((rd_T49 l0_0 x10_1).f0.f2), .int .i64 0]) ?_ 5 _ rfl; (with_reducible repeat (first | refine blk_drewN ?_ _ | refine blk_drew ?_ | refine blk_alloc ?_ _)); refine blk_put (cs := #[.int .i64 ((rd_T49 l0_0 x10_1).f0.f0.f0), .int .i64 ((rd_T49 l0_0 x10_1).f0.f0.f1), .int .i64 ((rd_T49 l0_0 x10_1).f0.f0.f2), .int .i64 ((rd_T49 l0_0 x10_1).f0.f1), .int .i64 0, .int .i64 0]) ?_ 4 _ rfl; (with_reducible repeat (first | refine blk_drewN ?_ _ | refine blk_drew ?_ | refine blk_alloc ?_ _)); refine blk_put (cs := #[.int .i64 ((rd_T49 l0_0 x10_1).f0.f0.f0), .int .i64 ((rd_T49 l0_0 x10_1).f0.f0.f1), .int .i64 ((rd_T49 l0_0 x10_1).f0.f0.f2), .int .i64 0, .int .i64 0, .int .i64 0]) ?_ 3 _ rfl; (with_reducible repeat (first | refine blk_drewN ?_ _ | refine blk_drew ?_ | refine blk_alloc ?_ _)); refine blk_put (cs := #[.int .i64 ((rd_T49 l0_0 x10_1).f0.f0.f0), .int .i64 ((rd_T49 l0_0 x10_1).f0.f0.f1), .int .i64 0, .int .i64 0, .int .i64 0, .int .i64 0]) ?_ 2 _ rfl; (with_reducible repeat (first | refine blk_drewN ?_ _ | refine blk_drew ?_ | refine blk_alloc ?_ _)); refine blk_put (cs := #[.int .i64 ((rd_T49 l0_0 x10_1).f0.f0.f0), .int .i64 0, .int .i64 0, .int .i64 0, .int .i64 0, .int .i64 0]) ?_ 1 _ rfl; (with_reducible repeat (first | refine blk_drewN ?_ _ | refine blk_drew ?_ | refine blk_alloc ?_ _)); refine blk_put (cs := #[.int .i64 0, .int .i64 0, .int .i64 0, .int .i64 0, .int .i64 0, .int .i64 0]) ?_ 0 _ rfl; (with_reducible repeat (first | refine blk_drewN ?_ _ | refine blk_drew ?_ | refine blk_alloc ?_ _)); exact BK158.out⟩
            have n2_ : Aside0 (Below w.heap.size w ((((((w26.setCell ⟨gb158, 0, none⟩ (.int .i64 ((rd_T49 l0_0 x10_1).f0.f0.f0))).setCell ⟨gb158, 1, none⟩ (.int .i64 ((rd_T49 l0_0 x10_1).f0.f0.f1))).setCell ⟨gb158, 2, none⟩ (.int .i64 ((rd_T49 l0_0 x10_1).f0.f0.f2))).setCell ⟨gb158, 3, none⟩ (.int .i64 ((rd_T49 l0_0 x10_1).f0.f1))).setCell ⟨gb158, 4, none⟩ (.int .i64 ((rd_T49 l0_0 x10_1).f0.f2))).setCell ⟨gb158, 5, none⟩ (.int .i64 ((rd_T49 l0_0 x10_1).f1)))) := ⟨by repeat (first | (with_reducible first | exact HB.out | apply below_alloc | apply pw_below_drewN | apply below_drew1 | refine below_set ?_ GE156.out | refine below_set ?_ GE158.out) | exact HB.out)⟩
            (try clear BK156)
            (try clear BK158)
            (try clear HB)
            generalize ((((((w26.setCell ⟨gb158, 0, none⟩ (.int .i64 ((rd_T49 l0_0 x10_1).f0.f0.f0))).setCell ⟨gb158, 1, none⟩ (.int .i64 ((rd_T49 l0_0 x10_1).f0.f0.f1))).setCell ⟨gb158, 2, none⟩ (.int .i64 ((rd_T49 l0_0 x10_1).f0.f0.f2))).setCell ⟨gb158, 3, none⟩ (.int .i64 ((rd_T49 l0_0 x10_1).f0.f1))).setCell ⟨gb158, 4, none⟩ (.int .i64 ((rd_T49 l0_0 x10_1).f0.f2))).setCell ⟨gb158, 5, none⟩ (.int .i64 ((rd_T49 l0_0 x10_1).f1))) = w29 at n0_ n1_ n2_ ⊢
            have BK156 := n0_
            have BK158 := n1_
            have HB := n2_
            clear n0_ n1_ n2_
            have n0_ := Aside0.mk (blk_drew BK156.out)
            have n1_ := Aside0.mk (blk_drew BK158.out)
            have n2_ := Aside0.mk (below_drew1 HB.out)
            clear BK156
            clear BK158
            clear HB
            have BK156 := n0_
            have BK158 := n1_
            have HB := n2_
            clear n0_ n1_ n2_
            have p159 : 0 ≤ ((ji21) : Int) := of_decide_eq_true (by first | (with_reducible assumption) | assumption)
            have q159 : (ji21) < (l0_0.length : Int) := of_decide_eq_true (by first | (with_reducible assumption) | assumption)
            obtain ⟨ad159, e159, hx159_0, hx159_1, hx159_2, hx159_3, hx159_4, hx159_5⟩ := at_T49 HR0_0.out (ji21) p159 q159
            have hw159_5 := hx159_5
            have hw159_4 := hx159_4
            have hw159_3 := hx159_3
            have hw159_2 := hx159_2
            have hw159_1 := hx159_1
            have hw159_0 := hx159_0
            obtain rfl : ad157 = ad159 := (by injection e159)
            replace hx159_0 := (HB.out.cell (World.block_lt_of_cell? w _ hx159_0)).trans hx159_0
            replace hx159_1 := (HB.out.cell (World.block_lt_of_cell? w _ hx159_1)).trans hx159_1
            replace hx159_2 := (HB.out.cell (World.block_lt_of_cell? w _ hx159_2)).trans hx159_2
            replace hx159_3 := (HB.out.cell (World.block_lt_of_cell? w _ hx159_3)).trans hx159_3
            replace hx159_4 := (HB.out.cell (World.block_lt_of_cell? w _ hx159_4)).trans hx159_4
            replace hx159_5 := (HB.out.cell (World.block_lt_of_cell? w _ hx159_5)).trans hx159_5
            replace p159 := eq_true p159
            replace q159 := eq_true q159
            refine start_ (n := 24) (S := fun w' => w'.cell? ⟨gb158, 0, none⟩ = some (.int .i64 ((rd_T49 l0_0 x10_1).f0.f0.f0)) ∧ w'.cell? ⟨gb158, 1, none⟩ = some (.int .i64 ((rd_T49 l0_0 x10_1).f0.f0.f1)) ∧ w'.cell? ⟨gb158, 2, none⟩ = some (.int .i64 ((rd_T49 l0_0 x10_1).f0.f0.f2)) ∧ w'.cell? ⟨gb158, 3, none⟩ = some (.int .i64 ((rd_T49 l0_0 x10_1).f0.f1)) ∧ w'.cell? ⟨gb158, 4, none⟩ = some (.int .i64 ((rd_T49 l0_0 x10_1).f0.f2)) ∧ w'.cell? ⟨gb158, 5, none⟩ = some (.int .i64 ((rd_T49 l0_0 x10_1).f1)) ∧ w'.cell? ⟨gb156, 0, none⟩ = some (.slice (some ad157) l0_0.length c0_0) ∧ w'.cell? (ad157.add (((ji21)).toNat * 6)) = some (.int .i64 ((rd_T49 l0_0 (ji21)).f0.f0.f0)) ∧ w'.cell? ⟨(ad157.add (((ji21)).toNat * 6)).block, (ad157.add (((ji21)).toNat * 6)).off + 1, none⟩ = some (.int .i64 ((rd_T49 l0_0 (ji21)).f0.f0.f1)) ∧ w'.cell? ⟨(ad157.add (((ji21)).toNat * 6)).block, (ad157.add (((ji21)).toNat * 6)).off + 2, none⟩ = some (.int .i64 ((rd_T49 l0_0 (ji21)).f0.f0.f2)) ∧ w'.cell? ⟨(ad157.add (((ji21)).toNat * 6)).block, (ad157.add (((ji21)).toNat * 6)).off + 3, none⟩ = some (.int .i64 ((rd_T49 l0_0 (ji21)).f0.f1)) ∧ w'.cell? ⟨(ad157.add (((ji21)).toNat * 6)).block, (ad157.add (((ji21)).toNat * 6)).off + 4, none⟩ = some (.int .i64 ((rd_T49 l0_0 (ji21)).f0.f2)) ∧ w'.cell? ⟨(ad157.add (((ji21)).toNat * 6)).block, (ad157.add (((ji21)).toNat * 6)).off + 5, none⟩ = some (.int .i64 ((rd_T49 l0_0 (ji21)).f1))) (ds := []) #[false, false, false, false, false, false, false, false, false, false, false, false, false, false, false, false, false, false, false, false, false, false, false, false] (by kernel_rfl) rfl rfl ⟨(blk_cell BK158.out 0).trans rfl, (blk_cell BK158.out 1).trans rfl, (blk_cell BK158.out 2).trans rfl, (blk_cell BK158.out 3).trans rfl, (blk_cell BK158.out 4).trans rfl, (blk_cell BK158.out 5).trans rfl, (blk_cell BK156.out 0).trans rfl, ((HB.out.cell (World.block_lt_of_cell? w _ hw159_0)).trans hw159_0), ((HB.out.cell (World.block_lt_of_cell? w _ hw159_1)).trans hw159_1), ((HB.out.cell (World.block_lt_of_cell? w _ hw159_2)).trans hw159_2), ((HB.out.cell (World.block_lt_of_cell? w _ hw159_3)).trans hw159_3), ((HB.out.cell (World.block_lt_of_cell? w _ hw159_4)).trans hw159_4), ((HB.out.cell (World.block_lt_of_cell? w _ hw159_5)).trans hw159_5)⟩ (fun hHeld => ?_); refine with_tabW index_Check.tab4 index_Check.bits4 (fun HT_ HW_ => ?_)
            generalize w29.drew = w30 at BK156 BK158 HB hx159_0 hx159_1 hx159_2 hx159_3 hx159_4 hx159_5 hHeld ⊢
            refine pure_ (i := 0) (N := some 15) (v := ?_) (a' := ?_) #[true, false, false, false, false, false, false, false, false, false, false, false, false, false, false, false, false, false, false, false, false, false, false, false] rfl rfl (any_of HT_.out (by kernel_rfl)) (fun _ _ _ h => h) (Or.inl ⟨by rfl, ?_⟩) ?_ ?_
            rotate_left
            ·intro w'
             go_simp
             with_reducible rfl
            rotate_left
            ·simp only [Act.put, List.setIfInBounds_toArray, List.set_cons_zero, List.set_cons_succ, i64_w, i32_w]
             rfl
            refine take_ (i := 1) (N := some 16) (v := ?_) (a' := ?_) #[true, true, false, false, false, false, false, false, false, false, false, false, false, false, false, false, false, false, false, false, false, false, false, false] rfl rfl (take_ofW HT_.out HW_.out (by kernel_rfl)) (fun _ _ _ h => h) (Or.inl ⟨by rfl, ?_⟩) hHeld ?_ ?_
            rotate_left
            ·rintro w' ⟨s0, s1, s2, s3, s4, s5, s6, s7, s8, s9, s10, s11, s12⟩
             go_simp
             with_reducible rfl
            rotate_left
            ·simp only [Act.put, List.setIfInBounds_toArray, List.set_cons_zero, List.set_cons_succ, i64_w, i32_w]
             rfl
            refine pure_ (i := 2) (N := some 17) (v := ?_) (a' := ?_) #[true, true, true, false, false, false, false, false, false, false, false, false, false, false, false, false, false, false, false, false, false, false, false, false] rfl rfl (any_of HT_.out (by kernel_rfl)) (fun _ _ _ h => h) (Or.inl ⟨by rfl, ?_⟩) ?_ ?_
            rotate_left
            ·intro w'
             go_simp
             with_reducible rfl
            rotate_left
            ·simp only [Act.put, List.setIfInBounds_toArray, List.set_cons_zero, List.set_cons_succ, i64_w, i32_w]
             rfl
            refine pure_ (i := 3) (N := some 18) (v := ?_) (a' := ?_) #[true, true, true, true, false, false, false, false, false, false, false, false, false, false, false, false, false, false, false, false, false, false, false, false] rfl rfl (any_of HT_.out (by kernel_rfl)) (fun _ _ _ h => h) (Or.inl ⟨by rfl, ?_⟩) ?_ ?_
            rotate_left
            ·intro w'
             go_simp
             with_reducible rfl
            rotate_left
            ·simp only [Act.put, List.setIfInBounds_toArray, List.set_cons_zero, List.set_cons_succ, i64_w, i32_w]
             rfl
            refine pure_ (i := 4) (N := some 19) (v := ?_) (a' := ?_) #[true, true, true, true, true, false, false, false, false, false, false, false, false, false, false, false, false, false, false, false, false, false, false, false] rfl rfl (any_of HT_.out (by kernel_rfl)) (fun _ _ _ h => h) (Or.inl ⟨by rfl, ?_⟩) ?_ ?_
            rotate_left
            ·intro w'
             go_simp
             with_reducible rfl
            rotate_left
            ·simp only [Act.put, List.setIfInBounds_toArray, List.set_cons_zero, List.set_cons_succ, i64_w, i32_w]
             rfl
            refine pure_ (i := 6) (N := some 21) (v := ?_) (a' := ?_) #[true, true, true, true, true, false, true, false, false, false, false, false, false, false, false, false, false, false, false, false, false, false, false, false] rfl rfl (any_of HT_.out (by kernel_rfl)) (fun _ _ _ h => h) (Or.inl ⟨by rfl, ?_⟩) ?_ ?_
            rotate_left
            ·intro w'
             go_simp
             with_reducible rfl
            rotate_left
            ·simp only [Act.put, List.setIfInBounds_toArray, List.set_cons_zero, List.set_cons_succ, i64_w, i32_w]
             rfl
            refine take_ (i := 5) (N := some 20) (v := ?_) (a' := ?_) #[true, true, true, true, true, true, true, false, false, false, false, false, false, false, false, false, false, false, false, false, false, false, false, false] rfl rfl (take_ofW HT_.out HW_.out (by kernel_rfl)) (fun _ _ _ h => h) (Or.inl ⟨by rfl, ?_⟩) hHeld ?_ ?_
            rotate_left
            ·rintro w' ⟨s0, s1, s2, s3, s4, s5, s6, s7, s8, s9, s10, s11, s12⟩
             go_simp
             with_reducible rfl
            rotate_left
            ·simp only [Act.put, List.setIfInBounds_toArray, List.set_cons_zero, List.set_cons_succ, i64_w, i32_w]
             rfl
            refine pure_ (i := 7) (N := some 22) (v := ?_) (a' := ?_) #[true, true, true, true, true, true, true, true, false, false, false, false, false, false, false, false, false, false, false, false, false, false, false, false] rfl rfl (any_of HT_.out (by kernel_rfl)) (fun _ _ _ h => h) (Or.inl ⟨by rfl, ?_⟩) ?_ ?_
            rotate_left
            ·intro w'
             go_simp
             with_reducible rfl
            rotate_left
            ·simp only [Act.put, List.setIfInBounds_toArray, List.set_cons_zero, List.set_cons_succ, i64_w, i32_w]
             rfl
            refine pure_ (i := 8) (N := some 23) (v := ?_) (a' := ?_) #[true, true, true, true, true, true, true, true, true, false, false, false, false, false, false, false, false, false, false, false, false, false, false, false] rfl rfl (any_of HT_.out (by kernel_rfl)) (fun _ _ _ h => h) (Or.inl ⟨by rfl, ?_⟩) ?_ ?_
            rotate_left
            ·intro w'
             go_simp
             with_reducible rfl
            rotate_left
            ·simp only [Act.put, List.setIfInBounds_toArray, List.set_cons_zero, List.set_cons_succ, i64_w, i32_w]
             rfl
            refine pure_ (i := 9) (N := some 24) (v := ?_) (a' := ?_) #[true, true, true, true, true, true, true, true, true, true, false, false, false, false, false, false, false, false, false, false, false, false, false, false] rfl rfl (any_of HT_.out (by kernel_rfl)) (fun _ _ _ h => h) (Or.inl ⟨by rfl, ?_⟩) ?_ ?_
            rotate_left
            ·intro w'
             go_simp
             with_reducible rfl
            rotate_left
            ·simp only [Act.put, List.setIfInBounds_toArray, List.set_cons_zero, List.set_cons_succ, i64_w, i32_w]
             rfl
            refine pure_ (i := 10) (N := some 25) (v := ?_) (a' := ?_) #[true, true, true, true, true, true, true, true, true, true, true, false, false, false, false, false, false, false, false, false, false, false, false, false] rfl rfl (any_of HT_.out (by kernel_rfl)) (fun _ _ _ h => h) (Or.inl ⟨by rfl, ?_⟩) ?_ ?_
            rotate_left
            ·intro w'
             go_simp
             with_reducible rfl
            rotate_left
            ·simp only [Act.put, List.setIfInBounds_toArray, List.set_cons_zero, List.set_cons_succ, i64_w, i32_w]
             rfl
            refine pure_ (i := 11) (N := some 26) (v := ?_) (a' := ?_) #[true, true, true, true, true, true, true, true, true, true, true, true, false, false, false, false, false, false, false, false, false, false, false, false] rfl rfl (any_of HT_.out (by kernel_rfl)) (fun _ _ _ h => h) (Or.inl ⟨by rfl, ?_⟩) ?_ ?_
            rotate_left
            ·intro w'
             go_simp
             with_reducible rfl
            rotate_left
            ·simp only [Act.put, List.setIfInBounds_toArray, List.set_cons_zero, List.set_cons_succ, i64_w, i32_w]
             rfl
            refine pure_ (i := 12) (N := some 27) (v := ?_) (a' := ?_) #[true, true, true, true, true, true, true, true, true, true, true, true, true, false, false, false, false, false, false, false, false, false, false, false] rfl rfl (any_of HT_.out (by kernel_rfl)) (fun _ _ _ h => h) (Or.inl ⟨by rfl, ?_⟩) ?_ ?_
            rotate_left
            ·intro w'
             go_simp
             with_reducible rfl
            rotate_left
            ·simp only [Act.put, List.setIfInBounds_toArray, List.set_cons_zero, List.set_cons_succ, i64_w, i32_w]
             rfl
            refine pure_ (i := 13) (N := some 28) (v := ?_) (a' := ?_) #[true, true, true, true, true, true, true, true, true, true, true, true, true, true, false, false, false, false, false, false, false, false, false, false] rfl rfl (any_of HT_.out (by kernel_rfl)) (fun _ _ _ h => h) (Or.inl ⟨by rfl, ?_⟩) ?_ ?_
            rotate_left
            ·intro w'
             go_simp
             with_reducible rfl
            rotate_left
            ·simp only [Act.put, List.setIfInBounds_toArray, List.set_cons_zero, List.set_cons_succ, i64_w, i32_w]
             rfl
            refine pure_ (i := 15) (N := some 30) (v := ?_) (a' := ?_) #[true, true, true, true, true, true, true, true, true, true, true, true, true, true, false, true, false, false, false, false, false, false, false, false] rfl rfl (any_of HT_.out (by kernel_rfl)) (fun _ _ _ h => h) (Or.inl ⟨by rfl, ?_⟩) ?_ ?_
            rotate_left
            ·intro w'
             go_simp
             with_reducible rfl
            rotate_left
            ·simp only [Act.put, List.setIfInBounds_toArray, List.set_cons_zero, List.set_cons_succ, i64_w, i32_w]
             rfl
            refine pure_ (i := 16) (N := some 31) (v := ?_) (a' := ?_) #[true, true, true, true, true, true, true, true, true, true, true, true, true, true, false, true, true, false, false, false, false, false, false, false] rfl rfl (any_of HT_.out (by kernel_rfl)) (fun _ _ _ h => h) (Or.inl ⟨by rfl, ?_⟩) ?_ ?_
            rotate_left
            ·intro w'
             go_simp
             with_reducible rfl
            rotate_left
            ·simp only [Act.put, List.setIfInBounds_toArray, List.set_cons_zero, List.set_cons_succ, i64_w, i32_w]
             rfl
            refine take_ (i := 14) (N := some 29) (v := ?_) (a' := ?_) #[true, true, true, true, true, true, true, true, true, true, true, true, true, true, true, true, true, false, false, false, false, false, false, false] rfl rfl (take_ofW HT_.out HW_.out (by kernel_rfl)) (fun _ _ _ h => h) (Or.inl ⟨by rfl, ?_⟩) hHeld ?_ ?_
            rotate_left
            ·rintro w' ⟨s0, s1, s2, s3, s4, s5, s6, s7, s8, s9, s10, s11, s12⟩
             go_simp
             with_reducible rfl
            rotate_left
            ·simp only [Act.put, List.setIfInBounds_toArray, List.set_cons_zero, List.set_cons_succ, i64_w, i32_w]
             rfl
            refine pure_ (i := 17) (N := some 32) (v := ?_) (a' := ?_) #[true, true, true, true, true, true, true, true, true, true, true, true, true, true, true, true, true, true, false, false, false, false, false, false] rfl rfl (any_of HT_.out (by kernel_rfl)) (fun _ _ _ h => h) (Or.inl ⟨by rfl, ?_⟩) ?_ ?_
            rotate_left
            ·intro w'
             go_simp
             with_reducible rfl
            rotate_left
            ·simp only [Act.put, List.setIfInBounds_toArray, List.set_cons_zero, List.set_cons_succ, i64_w, i32_w]
             rfl
            refine take_ (i := 18) (N := some 33) (v := ?_) (a' := ?_) #[true, true, true, true, true, true, true, true, true, true, true, true, true, true, true, true, true, true, true, false, false, false, false, false] rfl rfl (take_ofW HT_.out HW_.out (by kernel_rfl)) (fun _ _ _ h => h) (Or.inl ⟨by rfl, ?_⟩) hHeld ?_ ?_
            rotate_left
            ·rintro w' ⟨s0, s1, s2, s3, s4, s5, s6, s7, s8, s9, s10, s11, s12⟩
             go_simp
             with_reducible rfl
            rotate_left
            ·simp only [Act.put, List.setIfInBounds_toArray, List.set_cons_zero, List.set_cons_succ, i64_w, i32_w]
             rfl
            refine take_ (i := 19) (N := some 34) (v := ?_) (a' := ?_) #[true, true, true, true, true, true, true, true, true, true, true, true, true, true, true, true, true, true, true, true, false, false, false, false] rfl rfl (take_ofW HT_.out HW_.out (by kernel_rfl)) (fun _ _ _ h => h) (Or.inl ⟨by rfl, ?_⟩) hHeld ?_ ?_
            rotate_left
            ·rintro w' ⟨s0, s1, s2, s3, s4, s5, s6, s7, s8, s9, s10, s11, s12⟩
             go_simp
             with_reducible rfl
            rotate_left
            ·simp only [Act.put, List.setIfInBounds_toArray, List.set_cons_zero, List.set_cons_succ, i64_w, i32_w]
             rfl
            refine one_ (i := 20) (N := some 35) #[true, true, true, true, true, true, true, true, true, true, true, true, true, true, true, true, true, true, true, true, true, false, false, false] rfl rfl (one_of HT_.out (by kernel_rfl)) (by decide) (fun K hK => ?_)
            refine goes_ Try.func32 (by kernel_rfl) rfl #[.agg #[.int .i64 ((rd_T49 l0_0 (ji21)).f0.f0.f0), .int .i64 ((rd_T49 l0_0 (ji21)).f0.f0.f1), .int .i64 ((rd_T49 l0_0 (ji21)).f0.f0.f2), .int .i64 ((rd_T49 l0_0 (ji21)).f0.f1), .int .i64 ((rd_T49 l0_0 (ji21)).f0.f2), .int .i64 ((rd_T49 l0_0 (ji21)).f1)], .agg #[.int .i64 ((rd_T49 l0_0 x10_1).f0.f0.f0), .int .i64 ((rd_T49 l0_0 x10_1).f0.f0.f1), .int .i64 ((rd_T49 l0_0 x10_1).f0.f0.f2), .int .i64 ((rd_T49 l0_0 x10_1).f0.f1), .int .i64 ((rd_T49 l0_0 x10_1).f0.f2), .int .i64 ((rd_T49 l0_0 x10_1).f1)]] (by rfl) rfl rfl (by (try simp only [List.map_toArray, List.map_cons, List.map_nil]); first | done | (simp only [hji21]; rfl) | rfl | (simp only [List.length_drop, List.length_take]; rfl)) ?_
            with_reducible refine (index_compare.calls k1 ((rd_T49 l0_0 (ji21)).f0.f0.f0) ((rd_T49 l0_0 (ji21)).f0.f0.f1) ((rd_T49 l0_0 (ji21)).f0.f0.f2) ((rd_T49 l0_0 (ji21)).f0.f1) ((rd_T49 l0_0 (ji21)).f0.f2) ((rd_T49 l0_0 (ji21)).f1) ((rd_T49 l0_0 x10_1).f0.f0.f0) ((rd_T49 l0_0 x10_1).f0.f0.f1) ((rd_T49 l0_0 x10_1).f0.f0.f2) ((rd_T49 l0_0 x10_1).f0.f1) ((rd_T49 l0_0 x10_1).f0.f2) ((rd_T49 l0_0 x10_1).f1) t160 _ A24.out).mono ?_
            rintro e w31 ⟨rfl, hb⟩
            refine ⟨_, rfl, ?_⟩
            have n0_ := Aside0.mk (blk_below (g := gb156) (o := .cells #[.slice (some ad157) l0_0.length c0_0] 28 (0, 0)) (by (with_reducible repeat (first | refine blk_drewN ?_ _ | refine blk_drew ?_ | refine blk_alloc ?_ _)); exact BK156.out) hb)
            have n1_ := Aside0.mk (blk_below (g := gb158) (o := .cells #[.int .i64 ((rd_T49 l0_0 x10_1).f0.f0.f0), .int .i64 ((rd_T49 l0_0 x10_1).f0.f0.f1), .int .i64 ((rd_T49 l0_0 x10_1).f0.f0.f2), .int .i64 ((rd_T49 l0_0 x10_1).f0.f1), .int .i64 ((rd_T49 l0_0 x10_1).f0.f2), .int .i64 ((rd_T49 l0_0 x10_1).f1)] 49 (0, 0)) (by (with_reducible repeat (first | refine blk_drewN ?_ _ | refine blk_drew ?_ | refine blk_alloc ?_ _)); exact BK158.out) hb)
            have n2_ := Aside0.mk (below_step (by repeat (first | (with_reducible first | exact HB.out | apply below_alloc | apply pw_below_drewN | apply below_drew1 | refine below_set ?_ GE156.out | refine below_set ?_ GE158.out) | exact HB.out)) hb)
            clear BK156
            clear BK158
            clear HB
            have BK156 := n0_
            have BK158 := n1_
            have HB := n2_
            clear n0_ n1_ n2_
            (try clear hb)
            (try clear hb2)
            (try clear hk)
            (try clear hi)
            refine hK.out _ _ ⟨(blk_cell BK158.out 0).trans rfl, (blk_cell BK158.out 1).trans rfl, (blk_cell BK158.out 2).trans rfl, (blk_cell BK158.out 3).trans rfl, (blk_cell BK158.out 4).trans rfl, (blk_cell BK158.out 5).trans rfl, (blk_cell BK156.out 0).trans rfl, ((HB.out.cell (World.block_lt_of_cell? w _ hw159_0)).trans hw159_0), ((HB.out.cell (World.block_lt_of_cell? w _ hw159_1)).trans hw159_1), ((HB.out.cell (World.block_lt_of_cell? w _ hw159_2)).trans hw159_2), ((HB.out.cell (World.block_lt_of_cell? w _ hw159_3)).trans hw159_3), ((HB.out.cell (World.block_lt_of_cell? w _ hw159_4)).trans hw159_4), ((HB.out.cell (World.block_lt_of_cell? w _ hw159_5)).trans hw159_5)⟩ (fun hHeld => ?_)
            clear hK K
            refine norm_ (a' := ?_) ?_ ?_
            rotate_left
            ·show Act.put _ (some 35) _ = _
             simp only [Act.put, List.setIfInBounds_toArray, List.set_cons_zero, List.set_cons_succ, i64_w, i32_w]
             rfl
            refine pure_ (i := 21) (N := some 36) (v := ?_) (a' := ?_) #[true, true, true, true, true, true, true, true, true, true, true, true, true, true, true, true, true, true, true, true, true, true, false, false] rfl rfl (any_of HT_.out (by kernel_rfl)) (fun _ _ _ h => h) (Or.inl ⟨by rfl, ?_⟩) ?_ ?_
            rotate_left
            ·intro w'
             go_simp
             with_reducible rfl
            rotate_left
            ·simp only [Act.put, List.setIfInBounds_toArray, List.set_cons_zero, List.set_cons_succ, i64_w, i32_w]
             rfl
            refine pure_ (i := 22) (N := some 37) (v := ?_) (a' := ?_) #[true, true, true, true, true, true, true, true, true, true, true, true, true, true, true, true, true, true, true, true, true, true, true, false] rfl rfl (any_of HT_.out (by kernel_rfl)) (fun _ _ _ h => h) (Or.inl ⟨by rfl, ?_⟩) ?_ ?_
            rotate_left
            ·intro w'
             go_simp
             with_reducible rfl
            rotate_left
            ·simp only [Act.put, List.setIfInBounds_toArray, List.set_cons_zero, List.set_cons_succ, i64_w, i32_w]
             rfl
            refine pure_ (i := 23) (N := some 38) (v := ?_) (a' := ?_) #[true, true, true, true, true, true, true, true, true, true, true, true, true, true, true, true, true, true, true, true, true, true, true, true] rfl rfl (any_of HT_.out (by kernel_rfl)) (fun _ _ _ h => h) (Or.inl ⟨by rfl, ?_⟩) ?_ ?_
            rotate_left
            ·intro w'
             go_simp
             with_reducible rfl
            rotate_left
            ·simp only [Act.put, List.setIfInBounds_toArray, List.set_cons_zero, List.set_cons_succ, i64_w, i32_w]
             rfl
            refine done_ (done_of HT_.out (by kernel_rfl)) ?_
            try go_wp2
            go_ret
            exact ⟨by first | rfl | (simp [errW_none, errW_some] <;> rfl) | (simp only [← hji21]; first | rfl | (simp [errW_none, errW_some] <;> rfl)) | (simp [*, errW_none, errW_some] <;> rfl), by repeat (first | (with_reducible first | exact HB.out | apply below_alloc | apply pw_below_drewN | apply below_drew1 | refine below_set ?_ GE156.out | refine below_set ?_ GE158.out) | exact HB.out)⟩
           ·rw [if_neg c25] at H
            have c25b0 : decide (0 ≤ t160) = false := decide_eq_false c25
            clear c25
            have H' := Aside0.mk H
            clear H
            have p157 : 0 ≤ (x10_1 : Int) := of_decide_eq_true (by first | (with_reducible assumption) | assumption)
            have q157 : x10_1 < (l0_0.length : Int) := of_decide_eq_true (by first | (with_reducible assumption) | assumption)
            obtain ⟨ad157, e157, hx157_0, hx157_1, hx157_2, hx157_3, hx157_4, hx157_5⟩ := at_T49 HR0_0.out x10_1 p157 q157
            cases e157
            replace hx157_0 := (HB.out.cell (World.block_lt_of_cell? w _ hx157_0)).trans hx157_0
            replace hx157_1 := (HB.out.cell (World.block_lt_of_cell? w _ hx157_1)).trans hx157_1
            replace hx157_2 := (HB.out.cell (World.block_lt_of_cell? w _ hx157_2)).trans hx157_2
            replace hx157_3 := (HB.out.cell (World.block_lt_of_cell? w _ hx157_3)).trans hx157_3
            replace hx157_4 := (HB.out.cell (World.block_lt_of_cell? w _ hx157_4)).trans hx157_4
            replace hx157_5 := (HB.out.cell (World.block_lt_of_cell? w _ hx157_5)).trans hx157_5
            replace p157 := eq_true p157
            replace q157 := eq_true q157
            try go_wp2_with (first | ((with_reducible refine gate_dst (N := 6) rfl ?_); refine box_event ?hg (N := 6) ?hd (cs := #[.int .i64 0, .int .i64 0, .int .i64 0, .int .i64 0, .int .i64 0, .int .i64 0]) (t := 49) ?hr ?_; (case hd => rfl); (case hg => rfl); (case hr => first | (go_simp; done) | (go_simp; rfl)); intro gb158 hg w32 hbox hb; have n0_ := Aside0.mk (blk_below (g := gb156) (o := .cells #[.slice (some ad157) l0_0.length c0_0] 28 (0, 0)) (by (with_reducible repeat (first | refine blk_drewN ?_ _ | refine blk_drew ?_ | refine blk_alloc ?_ _)); exact BK156.out) hb); have n1_ := Aside0.mk (below_step (by repeat (first | (with_reducible first | exact HB.out | apply below_alloc | apply pw_below_drewN | apply below_drew1 | refine below_set ?_ GE156.out) | exact HB.out)) hb); have n2_ := Aside0.mk (hbox); have n3_ := Aside0.mk ((by rw [hg]; exact (below_size (by repeat (first | (with_reducible first | exact HB.out | apply below_alloc | apply pw_below_drewN | apply below_drew1 | refine below_set ?_ GE156.out) | exact HB.out))) : w.heap.size ≤ gb158)); have n4_ := Aside0.mk ((by rw [hg]; exact (below_size (by repeat (first | (with_reducible first | exact HB.out | apply below_alloc | apply pw_below_drewN | apply below_drew1 | refine below_set ?_ GE156.out) | exact HB.out))) : w.heap.size ≤ gb158)); have n5_ := Aside0.mk ((by rw [hg]; exact Nat.ne_of_lt (blk_lt (g := gb156) (o := .cells #[.slice (some ad157) l0_0.length c0_0] 28 (0, 0)) (by (with_reducible repeat (first | refine blk_drewN ?_ _ | refine blk_drew ?_ | refine blk_alloc ?_ _)); exact BK156.out)) : gb156 ≠ gb158)); have n6_ := Aside0.mk ((by rw [hg]; exact Nat.ne_of_gt (blk_lt (g := gb156) (o := .cells #[.slice (some ad157) l0_0.length c0_0] 28 (0, 0)) (by (with_reducible repeat (first | refine blk_drewN ?_ _ | refine blk_drew ?_ | refine blk_alloc ?_ _)); exact BK156.out)) : gb158 ≠ gb156)); clear BK156; clear HB; have BK156 := n0_; have HB := n1_; have BK158 := n2_; have GW158 := n3_; have GE158 := n4_; have NB156_158 := n5_; have NB158_156 := n6_; clear n0_ n1_ n2_ n3_ n4_ n5_ n6_; clear hb hbox hg; have hnb33 := NB158_156.out; have hnc33 := NB156_158.out; have hcz34_0 : w32.cell? ⟨gb158, 0, none⟩ = some (.int .i64 0) := (blk_cell BK158.out 0).trans rfl; have hcz34_1 : w32.cell? ⟨gb158, 1, none⟩ = some (.int .i64 0) := (blk_cell BK158.out 1).trans rfl; have hcz34_2 : w32.cell? ⟨gb158, 2, none⟩ = some (.int .i64 0) := (blk_cell BK158.out 2).trans rfl; have hcz34_3 : w32.cell? ⟨gb158, 3, none⟩ = some (.int .i64 0) := (blk_cell BK158.out 3).trans rfl; have hcz34_4 : w32.cell? ⟨gb158, 4, none⟩ = some (.int .i64 0) := (blk_cell BK158.out 4).trans rfl; have hcz34_5 : w32.cell? ⟨gb158, 5, none⟩ = some (.int .i64 0) := (blk_cell BK158.out 5).trans rfl; have hfz34_0 := blk_frozen BK158.out 0; have hfz34_1 := blk_frozen BK158.out 1; have hfz34_2 := blk_frozen BK158.out 2; have hfz34_3 := blk_frozen BK158.out 3; have hfz34_4 := blk_frozen BK158.out 4; have hfz34_5 := blk_frozen BK158.out 5))
            have n0_ : Aside0 (((((((w32.setCell ⟨gb158, 0, none⟩ (.int .i64 ((rd_T49 l0_0 x10_1).f0.f0.f0))).setCell ⟨gb158, 1, none⟩ (.int .i64 ((rd_T49 l0_0 x10_1).f0.f0.f1))).setCell ⟨gb158, 2, none⟩ (.int .i64 ((rd_T49 l0_0 x10_1).f0.f0.f2))).setCell ⟨gb158, 3, none⟩ (.int .i64 ((rd_T49 l0_0 x10_1).f0.f1))).setCell ⟨gb158, 4, none⟩ (.int .i64 ((rd_T49 l0_0 x10_1).f0.f2))).setCell ⟨gb158, 5, none⟩ (.int .i64 ((rd_T49 l0_0 x10_1).f1))).heap[gb156]? = some (.cells #[.slice (some ad157) l0_0.length c0_0] 28 (0, 0))) := ⟨by (with_reducible repeat (first | refine blk_drewN ?_ _ | refine blk_drew ?_ | refine blk_alloc ?_ _)); refine blk_far ?_ NB156_158.out _; (with_reducible repeat (first | refine blk_drewN ?_ _ | refine blk_drew ?_ | refine blk_alloc ?_ _)); refine blk_far ?_ NB156_158.out _; (with_reducible repeat (first | refine blk_drewN ?_ _ | refine blk_drew ?_ | refine blk_alloc ?_ _)); refine blk_far ?_ NB156_158.out _; (with_reducible repeat (first | refine blk_drewN ?_ _ | refine blk_drew ?_ | refine blk_alloc ?_ _)); refine blk_far ?_ NB156_158.out _; (with_reducible repeat (first | refine blk_drewN ?_ _ | refine blk_drew ?_ | refine blk_alloc ?_ _)); refine blk_far ?_ NB156_158.out _; (with_reducible repeat (first | refine blk_drewN ?_ _ | refine blk_drew ?_ | refine blk_alloc ?_ _)); refine blk_far ?_ NB156_158.out _; (with_reducible repeat (first | refine blk_drewN ?_ _ | refine blk_drew ?_ | refine blk_alloc ?_ _)); exact BK156.out⟩
            have n1_ : Aside0 (((((((w32.setCell ⟨gb158, 0, none⟩ (.int .i64 ((rd_T49 l0_0 x10_1).f0.f0.f0))).setCell ⟨gb158, 1, none⟩ (.int .i64 ((rd_T49 l0_0 x10_1).f0.f0.f1))).setCell ⟨gb158, 2, none⟩ (.int .i64 ((rd_T49 l0_0 x10_1).f0.f0.f2))).setCell ⟨gb158, 3, none⟩ (.int .i64 ((rd_T49 l0_0 x10_1).f0.f1))).setCell ⟨gb158, 4, none⟩ (.int .i64 ((rd_T49 l0_0 x10_1).f0.f2))).setCell ⟨gb158, 5, none⟩ (.int .i64 ((rd_T49 l0_0 x10_1).f1))).heap[gb158]? = some (.cells #[.int .i64 ((rd_T49 l0_0 x10_1).f0.f0.f0), .int .i64 ((rd_T49 l0_0 x10_1).f0.f0.f1), .int .i64 ((rd_T49 l0_0 x10_1).f0.f0.f2), .int .i64 ((rd_T49 l0_0 x10_1).f0.f1), .int .i64 ((rd_T49 l0_0 x10_1).f0.f2), .int .i64 ((rd_T49 l0_0 x10_1).f1)] 49 (0, 0))) := ⟨by (with_reducible repeat (first | refine blk_drewN ?_ _ | refine blk_drew ?_ | refine blk_alloc ?_ _)); refine blk_put (cs := #[.int .i64 ((rd_T49 l0_0 x10_1).f0.f0.f0), .int .i64 ((rd_T49 l0_0 x10_1).f0.f0.f1), .int .i64 ((rd_T49 l0_0 x10_1).f0.f0.f2), .int .i64 ((rd_T49 l0_0 x10_1).f0.f1), .int .i64 ((rd_T49 l0_0 x10_1).f0.f2), .int .i64 0]) ?_ 5 _ rfl; (with_reducible repeat (first | refine blk_drewN ?_ _ | refine blk_drew ?_ | refine blk_alloc ?_ _)); refine blk_put (cs := #[.int .i64 ((rd_T49 l0_0 x10_1).f0.f0.f0), .int .i64 ((rd_T49 l0_0 x10_1).f0.f0.f1), .int .i64 ((rd_T49 l0_0 x10_1).f0.f0.f2), .int .i64 ((rd_T49 l0_0 x10_1).f0.f1), .int .i64 0, .int .i64 0]) ?_ 4 _ rfl; (with_reducible repeat (first | refine blk_drewN ?_ _ | refine blk_drew ?_ | refine blk_alloc ?_ _)); refine blk_put (cs := #[.int .i64 ((rd_T49 l0_0 x10_1).f0.f0.f0), .int .i64 ((rd_T49 l0_0 x10_1).f0.f0.f1), .int .i64 ((rd_T49 l0_0 x10_1).f0.f0.f2), .int .i64 0, .int .i64 0, .int .i64 0]) ?_ 3 _ rfl; (with_reducible repeat (first | refine blk_drewN ?_ _ | refine blk_drew ?_ | refine blk_alloc ?_ _)); refine blk_put (cs := #[.int .i64 ((rd_T49 l0_0 x10_1).f0.f0.f0), .int .i64 ((rd_T49 l0_0 x10_1).f0.f0.f1), .int .i64 0, .int .i64 0, .int .i64 0, .int .i64 0]) ?_ 2 _ rfl; (with_reducible repeat (first | refine blk_drewN ?_ _ | refine blk_drew ?_ | refine blk_alloc ?_ _)); refine blk_put (cs := #[.int .i64 ((rd_T49 l0_0 x10_1).f0.f0.f0), .int .i64 0, .int .i64 0, .int .i64 0, .int .i64 0, .int .i64 0]) ?_ 1 _ rfl; (with_reducible repeat (first | refine blk_drewN ?_ _ | refine blk_drew ?_ | refine blk_alloc ?_ _)); refine blk_put (cs := #[.int .i64 0, .int .i64 0, .int .i64 0, .int .i64 0, .int .i64 0, .int .i64 0]) ?_ 0 _ rfl; (with_reducible repeat (first | refine blk_drewN ?_ _ | refine blk_drew ?_ | refine blk_alloc ?_ _)); exact BK158.out⟩
            have n2_ : Aside0 (Below w.heap.size w ((((((w32.setCell ⟨gb158, 0, none⟩ (.int .i64 ((rd_T49 l0_0 x10_1).f0.f0.f0))).setCell ⟨gb158, 1, none⟩ (.int .i64 ((rd_T49 l0_0 x10_1).f0.f0.f1))).setCell ⟨gb158, 2, none⟩ (.int .i64 ((rd_T49 l0_0 x10_1).f0.f0.f2))).setCell ⟨gb158, 3, none⟩ (.int .i64 ((rd_T49 l0_0 x10_1).f0.f1))).setCell ⟨gb158, 4, none⟩ (.int .i64 ((rd_T49 l0_0 x10_1).f0.f2))).setCell ⟨gb158, 5, none⟩ (.int .i64 ((rd_T49 l0_0 x10_1).f1)))) := ⟨by repeat (first | (with_reducible first | exact HB.out | apply below_alloc | apply pw_below_drewN | apply below_drew1 | refine below_set ?_ GE156.out | refine below_set ?_ GE158.out) | exact HB.out)⟩
            (try clear BK156)
            (try clear BK158)
            (try clear HB)
            generalize ((((((w32.setCell ⟨gb158, 0, none⟩ (.int .i64 ((rd_T49 l0_0 x10_1).f0.f0.f0))).setCell ⟨gb158, 1, none⟩ (.int .i64 ((rd_T49 l0_0 x10_1).f0.f0.f1))).setCell ⟨gb158, 2, none⟩ (.int .i64 ((rd_T49 l0_0 x10_1).f0.f0.f2))).setCell ⟨gb158, 3, none⟩ (.int .i64 ((rd_T49 l0_0 x10_1).f0.f1))).setCell ⟨gb158, 4, none⟩ (.int .i64 ((rd_T49 l0_0 x10_1).f0.f2))).setCell ⟨gb158, 5, none⟩ (.int .i64 ((rd_T49 l0_0 x10_1).f1))) = w35 at n0_ n1_ n2_ ⊢
            have BK156 := n0_
            have BK158 := n1_
            have HB := n2_
            clear n0_ n1_ n2_
            have n0_ := Aside0.mk (blk_drew BK156.out)
            have n1_ := Aside0.mk (blk_drew BK158.out)
            have n2_ := Aside0.mk (below_drew1 HB.out)
            clear BK156
            clear BK158
            clear HB
            have BK156 := n0_
            have BK158 := n1_
            have HB := n2_
            clear n0_ n1_ n2_
            have p159 : 0 ≤ ((ji21) : Int) := of_decide_eq_true (by first | (with_reducible assumption) | assumption)
            have q159 : (ji21) < (l0_0.length : Int) := of_decide_eq_true (by first | (with_reducible assumption) | assumption)
            obtain ⟨ad159, e159, hx159_0, hx159_1, hx159_2, hx159_3, hx159_4, hx159_5⟩ := at_T49 HR0_0.out (ji21) p159 q159
            have hw159_5 := hx159_5
            have hw159_4 := hx159_4
            have hw159_3 := hx159_3
            have hw159_2 := hx159_2
            have hw159_1 := hx159_1
            have hw159_0 := hx159_0
            obtain rfl : ad157 = ad159 := (by injection e159)
            replace hx159_0 := (HB.out.cell (World.block_lt_of_cell? w _ hx159_0)).trans hx159_0
            replace hx159_1 := (HB.out.cell (World.block_lt_of_cell? w _ hx159_1)).trans hx159_1
            replace hx159_2 := (HB.out.cell (World.block_lt_of_cell? w _ hx159_2)).trans hx159_2
            replace hx159_3 := (HB.out.cell (World.block_lt_of_cell? w _ hx159_3)).trans hx159_3
            replace hx159_4 := (HB.out.cell (World.block_lt_of_cell? w _ hx159_4)).trans hx159_4
            replace hx159_5 := (HB.out.cell (World.block_lt_of_cell? w _ hx159_5)).trans hx159_5
            replace p159 := eq_true p159
            replace q159 := eq_true q159
            refine start_ (n := 24) (S := fun w' => w'.cell? ⟨gb158, 0, none⟩ = some (.int .i64 ((rd_T49 l0_0 x10_1).f0.f0.f0)) ∧ w'.cell? ⟨gb158, 1, none⟩ = some (.int .i64 ((rd_T49 l0_0 x10_1).f0.f0.f1)) ∧ w'.cell? ⟨gb158, 2, none⟩ = some (.int .i64 ((rd_T49 l0_0 x10_1).f0.f0.f2)) ∧ w'.cell? ⟨gb158, 3, none⟩ = some (.int .i64 ((rd_T49 l0_0 x10_1).f0.f1)) ∧ w'.cell? ⟨gb158, 4, none⟩ = some (.int .i64 ((rd_T49 l0_0 x10_1).f0.f2)) ∧ w'.cell? ⟨gb158, 5, none⟩ = some (.int .i64 ((rd_T49 l0_0 x10_1).f1)) ∧ w'.cell? ⟨gb156, 0, none⟩ = some (.slice (some ad157) l0_0.length c0_0) ∧ w'.cell? (ad157.add (((ji21)).toNat * 6)) = some (.int .i64 ((rd_T49 l0_0 (ji21)).f0.f0.f0)) ∧ w'.cell? ⟨(ad157.add (((ji21)).toNat * 6)).block, (ad157.add (((ji21)).toNat * 6)).off + 1, none⟩ = some (.int .i64 ((rd_T49 l0_0 (ji21)).f0.f0.f1)) ∧ w'.cell? ⟨(ad157.add (((ji21)).toNat * 6)).block, (ad157.add (((ji21)).toNat * 6)).off + 2, none⟩ = some (.int .i64 ((rd_T49 l0_0 (ji21)).f0.f0.f2)) ∧ w'.cell? ⟨(ad157.add (((ji21)).toNat * 6)).block, (ad157.add (((ji21)).toNat * 6)).off + 3, none⟩ = some (.int .i64 ((rd_T49 l0_0 (ji21)).f0.f1)) ∧ w'.cell? ⟨(ad157.add (((ji21)).toNat * 6)).block, (ad157.add (((ji21)).toNat * 6)).off + 4, none⟩ = some (.int .i64 ((rd_T49 l0_0 (ji21)).f0.f2)) ∧ w'.cell? ⟨(ad157.add (((ji21)).toNat * 6)).block, (ad157.add (((ji21)).toNat * 6)).off + 5, none⟩ = some (.int .i64 ((rd_T49 l0_0 (ji21)).f1))) (ds := []) #[false, false, false, false, false, false, false, false, false, false, false, false, false, false, false, false, false, false, false, false, false, false, false, false] (by kernel_rfl) rfl rfl ⟨(blk_cell BK158.out 0).trans rfl, (blk_cell BK158.out 1).trans rfl, (blk_cell BK158.out 2).trans rfl, (blk_cell BK158.out 3).trans rfl, (blk_cell BK158.out 4).trans rfl, (blk_cell BK158.out 5).trans rfl, (blk_cell BK156.out 0).trans rfl, ((HB.out.cell (World.block_lt_of_cell? w _ hw159_0)).trans hw159_0), ((HB.out.cell (World.block_lt_of_cell? w _ hw159_1)).trans hw159_1), ((HB.out.cell (World.block_lt_of_cell? w _ hw159_2)).trans hw159_2), ((HB.out.cell (World.block_lt_of_cell? w _ hw159_3)).trans hw159_3), ((HB.out.cell (World.block_lt_of_cell? w _ hw159_4)).trans hw159_4), ((HB.out.cell (World.block_lt_of_cell? w _ hw159_5)).trans hw159_5)⟩ (fun hHeld => ?_); refine with_tabW index_Check.tab4 index_Check.bits4 (fun HT_ HW_ => ?_)
            generalize w35.drew = w36 at BK156 BK158 HB hx159_0 hx159_1 hx159_2 hx159_3 hx159_4 hx159_5 hHeld ⊢
            refine pure_ (i := 0) (N := some 15) (v := ?_) (a' := ?_) #[true, false, false, false, false, false, false, false, false, false, false, false, false, false, false, false, false, false, false, false, false, false, false, false] rfl rfl (any_of HT_.out (by kernel_rfl)) (fun _ _ _ h => h) (Or.inl ⟨by rfl, ?_⟩) ?_ ?_
            rotate_left
            ·intro w'
             go_simp
             with_reducible rfl
            rotate_left
            ·simp only [Act.put, List.setIfInBounds_toArray, List.set_cons_zero, List.set_cons_succ, i64_w, i32_w]
             rfl
            refine take_ (i := 1) (N := some 16) (v := ?_) (a' := ?_) #[true, true, false, false, false, false, false, false, false, false, false, false, false, false, false, false, false, false, false, false, false, false, false, false] rfl rfl (take_ofW HT_.out HW_.out (by kernel_rfl)) (fun _ _ _ h => h) (Or.inl ⟨by rfl, ?_⟩) hHeld ?_ ?_
            rotate_left
            ·rintro w' ⟨s0, s1, s2, s3, s4, s5, s6, s7, s8, s9, s10, s11, s12⟩
             go_simp
             with_reducible rfl
            rotate_left
            ·simp only [Act.put, List.setIfInBounds_toArray, List.set_cons_zero, List.set_cons_succ, i64_w, i32_w]
             rfl
            refine pure_ (i := 2) (N := some 17) (v := ?_) (a' := ?_) #[true, true, true, false, false, false, false, false, false, false, false, false, false, false, false, false, false, false, false, false, false, false, false, false] rfl rfl (any_of HT_.out (by kernel_rfl)) (fun _ _ _ h => h) (Or.inl ⟨by rfl, ?_⟩) ?_ ?_
            rotate_left
            ·intro w'
             go_simp
             with_reducible rfl
            rotate_left
            ·simp only [Act.put, List.setIfInBounds_toArray, List.set_cons_zero, List.set_cons_succ, i64_w, i32_w]
             rfl
            refine pure_ (i := 3) (N := some 18) (v := ?_) (a' := ?_) #[true, true, true, true, false, false, false, false, false, false, false, false, false, false, false, false, false, false, false, false, false, false, false, false] rfl rfl (any_of HT_.out (by kernel_rfl)) (fun _ _ _ h => h) (Or.inl ⟨by rfl, ?_⟩) ?_ ?_
            rotate_left
            ·intro w'
             go_simp
             with_reducible rfl
            rotate_left
            ·simp only [Act.put, List.setIfInBounds_toArray, List.set_cons_zero, List.set_cons_succ, i64_w, i32_w]
             rfl
            refine pure_ (i := 4) (N := some 19) (v := ?_) (a' := ?_) #[true, true, true, true, true, false, false, false, false, false, false, false, false, false, false, false, false, false, false, false, false, false, false, false] rfl rfl (any_of HT_.out (by kernel_rfl)) (fun _ _ _ h => h) (Or.inl ⟨by rfl, ?_⟩) ?_ ?_
            rotate_left
            ·intro w'
             go_simp
             with_reducible rfl
            rotate_left
            ·simp only [Act.put, List.setIfInBounds_toArray, List.set_cons_zero, List.set_cons_succ, i64_w, i32_w]
             rfl
            refine pure_ (i := 6) (N := some 21) (v := ?_) (a' := ?_) #[true, true, true, true, true, false, true, false, false, false, false, false, false, false, false, false, false, false, false, false, false, false, false, false] rfl rfl (any_of HT_.out (by kernel_rfl)) (fun _ _ _ h => h) (Or.inl ⟨by rfl, ?_⟩) ?_ ?_
            rotate_left
            ·intro w'
             go_simp
             with_reducible rfl
            rotate_left
            ·simp only [Act.put, List.setIfInBounds_toArray, List.set_cons_zero, List.set_cons_succ, i64_w, i32_w]
             rfl
            refine take_ (i := 5) (N := some 20) (v := ?_) (a' := ?_) #[true, true, true, true, true, true, true, false, false, false, false, false, false, false, false, false, false, false, false, false, false, false, false, false] rfl rfl (take_ofW HT_.out HW_.out (by kernel_rfl)) (fun _ _ _ h => h) (Or.inl ⟨by rfl, ?_⟩) hHeld ?_ ?_
            rotate_left
            ·rintro w' ⟨s0, s1, s2, s3, s4, s5, s6, s7, s8, s9, s10, s11, s12⟩
             go_simp
             with_reducible rfl
            rotate_left
            ·simp only [Act.put, List.setIfInBounds_toArray, List.set_cons_zero, List.set_cons_succ, i64_w, i32_w]
             rfl
            refine pure_ (i := 7) (N := some 22) (v := ?_) (a' := ?_) #[true, true, true, true, true, true, true, true, false, false, false, false, false, false, false, false, false, false, false, false, false, false, false, false] rfl rfl (any_of HT_.out (by kernel_rfl)) (fun _ _ _ h => h) (Or.inl ⟨by rfl, ?_⟩) ?_ ?_
            rotate_left
            ·intro w'
             go_simp
             with_reducible rfl
            rotate_left
            ·simp only [Act.put, List.setIfInBounds_toArray, List.set_cons_zero, List.set_cons_succ, i64_w, i32_w]
             rfl
            refine pure_ (i := 8) (N := some 23) (v := ?_) (a' := ?_) #[true, true, true, true, true, true, true, true, true, false, false, false, false, false, false, false, false, false, false, false, false, false, false, false] rfl rfl (any_of HT_.out (by kernel_rfl)) (fun _ _ _ h => h) (Or.inl ⟨by rfl, ?_⟩) ?_ ?_
            rotate_left
            ·intro w'
             go_simp
             with_reducible rfl
            rotate_left
            ·simp only [Act.put, List.setIfInBounds_toArray, List.set_cons_zero, List.set_cons_succ, i64_w, i32_w]
             rfl
            refine pure_ (i := 9) (N := some 24) (v := ?_) (a' := ?_) #[true, true, true, true, true, true, true, true, true, true, false, false, false, false, false, false, false, false, false, false, false, false, false, false] rfl rfl (any_of HT_.out (by kernel_rfl)) (fun _ _ _ h => h) (Or.inl ⟨by rfl, ?_⟩) ?_ ?_
            rotate_left
            ·intro w'
             go_simp
             with_reducible rfl
            rotate_left
            ·simp only [Act.put, List.setIfInBounds_toArray, List.set_cons_zero, List.set_cons_succ, i64_w, i32_w]
             rfl
            refine pure_ (i := 10) (N := some 25) (v := ?_) (a' := ?_) #[true, true, true, true, true, true, true, true, true, true, true, false, false, false, false, false, false, false, false, false, false, false, false, false] rfl rfl (any_of HT_.out (by kernel_rfl)) (fun _ _ _ h => h) (Or.inl ⟨by rfl, ?_⟩) ?_ ?_
            rotate_left
            ·intro w'
             go_simp
             with_reducible rfl
            rotate_left
            ·simp only [Act.put, List.setIfInBounds_toArray, List.set_cons_zero, List.set_cons_succ, i64_w, i32_w]
             rfl
            refine pure_ (i := 11) (N := some 26) (v := ?_) (a' := ?_) #[true, true, true, true, true, true, true, true, true, true, true, true, false, false, false, false, false, false, false, false, false, false, false, false] rfl rfl (any_of HT_.out (by kernel_rfl)) (fun _ _ _ h => h) (Or.inl ⟨by rfl, ?_⟩) ?_ ?_
            rotate_left
            ·intro w'
             go_simp
             with_reducible rfl
            rotate_left
            ·simp only [Act.put, List.setIfInBounds_toArray, List.set_cons_zero, List.set_cons_succ, i64_w, i32_w]
             rfl
            refine pure_ (i := 12) (N := some 27) (v := ?_) (a' := ?_) #[true, true, true, true, true, true, true, true, true, true, true, true, true, false, false, false, false, false, false, false, false, false, false, false] rfl rfl (any_of HT_.out (by kernel_rfl)) (fun _ _ _ h => h) (Or.inl ⟨by rfl, ?_⟩) ?_ ?_
            rotate_left
            ·intro w'
             go_simp
             with_reducible rfl
            rotate_left
            ·simp only [Act.put, List.setIfInBounds_toArray, List.set_cons_zero, List.set_cons_succ, i64_w, i32_w]
             rfl
            refine pure_ (i := 13) (N := some 28) (v := ?_) (a' := ?_) #[true, true, true, true, true, true, true, true, true, true, true, true, true, true, false, false, false, false, false, false, false, false, false, false] rfl rfl (any_of HT_.out (by kernel_rfl)) (fun _ _ _ h => h) (Or.inl ⟨by rfl, ?_⟩) ?_ ?_
            rotate_left
            ·intro w'
             go_simp
             with_reducible rfl
            rotate_left
            ·simp only [Act.put, List.setIfInBounds_toArray, List.set_cons_zero, List.set_cons_succ, i64_w, i32_w]
             rfl
            refine pure_ (i := 15) (N := some 30) (v := ?_) (a' := ?_) #[true, true, true, true, true, true, true, true, true, true, true, true, true, true, false, true, false, false, false, false, false, false, false, false] rfl rfl (any_of HT_.out (by kernel_rfl)) (fun _ _ _ h => h) (Or.inl ⟨by rfl, ?_⟩) ?_ ?_
            rotate_left
            ·intro w'
             go_simp
             with_reducible rfl
            rotate_left
            ·simp only [Act.put, List.setIfInBounds_toArray, List.set_cons_zero, List.set_cons_succ, i64_w, i32_w]
             rfl
            refine pure_ (i := 16) (N := some 31) (v := ?_) (a' := ?_) #[true, true, true, true, true, true, true, true, true, true, true, true, true, true, false, true, true, false, false, false, false, false, false, false] rfl rfl (any_of HT_.out (by kernel_rfl)) (fun _ _ _ h => h) (Or.inl ⟨by rfl, ?_⟩) ?_ ?_
            rotate_left
            ·intro w'
             go_simp
             with_reducible rfl
            rotate_left
            ·simp only [Act.put, List.setIfInBounds_toArray, List.set_cons_zero, List.set_cons_succ, i64_w, i32_w]
             rfl
            refine take_ (i := 14) (N := some 29) (v := ?_) (a' := ?_) #[true, true, true, true, true, true, true, true, true, true, true, true, true, true, true, true, true, false, false, false, false, false, false, false] rfl rfl (take_ofW HT_.out HW_.out (by kernel_rfl)) (fun _ _ _ h => h) (Or.inl ⟨by rfl, ?_⟩) hHeld ?_ ?_
            rotate_left
            ·rintro w' ⟨s0, s1, s2, s3, s4, s5, s6, s7, s8, s9, s10, s11, s12⟩
             go_simp
             with_reducible rfl
            rotate_left
            ·simp only [Act.put, List.setIfInBounds_toArray, List.set_cons_zero, List.set_cons_succ, i64_w, i32_w]
             rfl
            refine pure_ (i := 17) (N := some 32) (v := ?_) (a' := ?_) #[true, true, true, true, true, true, true, true, true, true, true, true, true, true, true, true, true, true, false, false, false, false, false, false] rfl rfl (any_of HT_.out (by kernel_rfl)) (fun _ _ _ h => h) (Or.inl ⟨by rfl, ?_⟩) ?_ ?_
            rotate_left
            ·intro w'
             go_simp
             with_reducible rfl
            rotate_left
            ·simp only [Act.put, List.setIfInBounds_toArray, List.set_cons_zero, List.set_cons_succ, i64_w, i32_w]
             rfl
            refine take_ (i := 18) (N := some 33) (v := ?_) (a' := ?_) #[true, true, true, true, true, true, true, true, true, true, true, true, true, true, true, true, true, true, true, false, false, false, false, false] rfl rfl (take_ofW HT_.out HW_.out (by kernel_rfl)) (fun _ _ _ h => h) (Or.inl ⟨by rfl, ?_⟩) hHeld ?_ ?_
            rotate_left
            ·rintro w' ⟨s0, s1, s2, s3, s4, s5, s6, s7, s8, s9, s10, s11, s12⟩
             go_simp
             with_reducible rfl
            rotate_left
            ·simp only [Act.put, List.setIfInBounds_toArray, List.set_cons_zero, List.set_cons_succ, i64_w, i32_w]
             rfl
            refine take_ (i := 19) (N := some 34) (v := ?_) (a' := ?_) #[true, true, true, true, true, true, true, true, true, true, true, true, true, true, true, true, true, true, true, true, false, false, false, false] rfl rfl (take_ofW HT_.out HW_.out (by kernel_rfl)) (fun _ _ _ h => h) (Or.inl ⟨by rfl, ?_⟩) hHeld ?_ ?_
            rotate_left
            ·rintro w' ⟨s0, s1, s2, s3, s4, s5, s6, s7, s8, s9, s10, s11, s12⟩
             go_simp
             with_reducible rfl
            rotate_left
            ·simp only [Act.put, List.setIfInBounds_toArray, List.set_cons_zero, List.set_cons_succ, i64_w, i32_w]
             rfl
            refine one_ (i := 20) (N := some 35) #[true, true, true, true, true, true, true, true, true, true, true, true, true, true, true, true, true, true, true, true, true, false, false, false] rfl rfl (one_of HT_.out (by kernel_rfl)) (by decide) (fun K hK => ?_)
            refine goes_ Try.func32 (by kernel_rfl) rfl #[.agg #[.int .i64 ((rd_T49 l0_0 (ji21)).f0.f0.f0), .int .i64 ((rd_T49 l0_0 (ji21)).f0.f0.f1), .int .i64 ((rd_T49 l0_0 (ji21)).f0.f0.f2), .int .i64 ((rd_T49 l0_0 (ji21)).f0.f1), .int .i64 ((rd_T49 l0_0 (ji21)).f0.f2), .int .i64 ((rd_T49 l0_0 (ji21)).f1)], .agg #[.int .i64 ((rd_T49 l0_0 x10_1).f0.f0.f0), .int .i64 ((rd_T49 l0_0 x10_1).f0.f0.f1), .int .i64 ((rd_T49 l0_0 x10_1).f0.f0.f2), .int .i64 ((rd_T49 l0_0 x10_1).f0.f1), .int .i64 ((rd_T49 l0_0 x10_1).f0.f2), .int .i64 ((rd_T49 l0_0 x10_1).f1)]] (by rfl) rfl rfl (by (try simp only [List.map_toArray, List.map_cons, List.map_nil]); first | done | (simp only [hji21]; rfl) | rfl | (simp only [List.length_drop, List.length_take]; rfl)) ?_
            with_reducible refine (index_compare.calls k1 ((rd_T49 l0_0 (ji21)).f0.f0.f0) ((rd_T49 l0_0 (ji21)).f0.f0.f1) ((rd_T49 l0_0 (ji21)).f0.f0.f2) ((rd_T49 l0_0 (ji21)).f0.f1) ((rd_T49 l0_0 (ji21)).f0.f2) ((rd_T49 l0_0 (ji21)).f1) ((rd_T49 l0_0 x10_1).f0.f0.f0) ((rd_T49 l0_0 x10_1).f0.f0.f1) ((rd_T49 l0_0 x10_1).f0.f0.f2) ((rd_T49 l0_0 x10_1).f0.f1) ((rd_T49 l0_0 x10_1).f0.f2) ((rd_T49 l0_0 x10_1).f1) t160 _ A24.out).mono ?_
            rintro e w37 ⟨rfl, hb⟩
            refine ⟨_, rfl, ?_⟩
            have n0_ := Aside0.mk (blk_below (g := gb156) (o := .cells #[.slice (some ad157) l0_0.length c0_0] 28 (0, 0)) (by (with_reducible repeat (first | refine blk_drewN ?_ _ | refine blk_drew ?_ | refine blk_alloc ?_ _)); exact BK156.out) hb)
            have n1_ := Aside0.mk (blk_below (g := gb158) (o := .cells #[.int .i64 ((rd_T49 l0_0 x10_1).f0.f0.f0), .int .i64 ((rd_T49 l0_0 x10_1).f0.f0.f1), .int .i64 ((rd_T49 l0_0 x10_1).f0.f0.f2), .int .i64 ((rd_T49 l0_0 x10_1).f0.f1), .int .i64 ((rd_T49 l0_0 x10_1).f0.f2), .int .i64 ((rd_T49 l0_0 x10_1).f1)] 49 (0, 0)) (by (with_reducible repeat (first | refine blk_drewN ?_ _ | refine blk_drew ?_ | refine blk_alloc ?_ _)); exact BK158.out) hb)
            have n2_ := Aside0.mk (below_step (by repeat (first | (with_reducible first | exact HB.out | apply below_alloc | apply pw_below_drewN | apply below_drew1 | refine below_set ?_ GE156.out | refine below_set ?_ GE158.out) | exact HB.out)) hb)
            clear BK156
            clear BK158
            clear HB
            have BK156 := n0_
            have BK158 := n1_
            have HB := n2_
            clear n0_ n1_ n2_
            (try clear hb)
            (try clear hb2)
            (try clear hk)
            (try clear hi)
            refine hK.out _ _ ⟨(blk_cell BK158.out 0).trans rfl, (blk_cell BK158.out 1).trans rfl, (blk_cell BK158.out 2).trans rfl, (blk_cell BK158.out 3).trans rfl, (blk_cell BK158.out 4).trans rfl, (blk_cell BK158.out 5).trans rfl, (blk_cell BK156.out 0).trans rfl, ((HB.out.cell (World.block_lt_of_cell? w _ hw159_0)).trans hw159_0), ((HB.out.cell (World.block_lt_of_cell? w _ hw159_1)).trans hw159_1), ((HB.out.cell (World.block_lt_of_cell? w _ hw159_2)).trans hw159_2), ((HB.out.cell (World.block_lt_of_cell? w _ hw159_3)).trans hw159_3), ((HB.out.cell (World.block_lt_of_cell? w _ hw159_4)).trans hw159_4), ((HB.out.cell (World.block_lt_of_cell? w _ hw159_5)).trans hw159_5)⟩ (fun hHeld => ?_)
            clear hK K
            refine norm_ (a' := ?_) ?_ ?_
            rotate_left
            ·show Act.put _ (some 35) _ = _
             simp only [Act.put, List.setIfInBounds_toArray, List.set_cons_zero, List.set_cons_succ, i64_w, i32_w]
             rfl
            refine pure_ (i := 21) (N := some 36) (v := ?_) (a' := ?_) #[true, true, true, true, true, true, true, true, true, true, true, true, true, true, true, true, true, true, true, true, true, true, false, false] rfl rfl (any_of HT_.out (by kernel_rfl)) (fun _ _ _ h => h) (Or.inl ⟨by rfl, ?_⟩) ?_ ?_
            rotate_left
            ·intro w'
             go_simp
             with_reducible rfl
            rotate_left
            ·simp only [Act.put, List.setIfInBounds_toArray, List.set_cons_zero, List.set_cons_succ, i64_w, i32_w]
             rfl
            refine pure_ (i := 22) (N := some 37) (v := ?_) (a' := ?_) #[true, true, true, true, true, true, true, true, true, true, true, true, true, true, true, true, true, true, true, true, true, true, true, false] rfl rfl (any_of HT_.out (by kernel_rfl)) (fun _ _ _ h => h) (Or.inl ⟨by rfl, ?_⟩) ?_ ?_
            rotate_left
            ·intro w'
             go_simp
             with_reducible rfl
            rotate_left
            ·simp only [Act.put, List.setIfInBounds_toArray, List.set_cons_zero, List.set_cons_succ, i64_w, i32_w]
             rfl
            refine pure_ (i := 23) (N := some 38) (v := ?_) (a' := ?_) #[true, true, true, true, true, true, true, true, true, true, true, true, true, true, true, true, true, true, true, true, true, true, true, true] rfl rfl (any_of HT_.out (by kernel_rfl)) (fun _ _ _ h => h) (Or.inl ⟨by rfl, ?_⟩) ?_ ?_
            rotate_left
            ·intro w'
             go_simp
             with_reducible rfl
            rotate_left
            ·simp only [Act.put, List.setIfInBounds_toArray, List.set_cons_zero, List.set_cons_succ, i64_w, i32_w]
             rfl
            refine done_ (done_of HT_.out (by kernel_rfl)) ?_
            try go_wp2
            go_roundg k1
            case measure => have := HK1.out; omega
            case rel => exact ⟨(wrap64 (x10_1 + 1)), (by first | rfl | (simp; done) | (simp [*]; done)), H', ⟨by have := HK1.out; omega⟩, ⟨by (with_reducible repeat (first | refine blk_drewN ?_ _ | refine blk_drew ?_ | refine blk_alloc ?_ _)); exact BK156.out⟩, ⟨by repeat (first | (with_reducible first | exact HB.out | apply below_alloc | apply pw_below_drewN | apply below_drew1 | refine below_set ?_ GE156.out | refine below_set ?_ GE158.out) | exact HB.out)⟩⟩
          ·rw [if_neg c23] at H
           exact absurd H (by simp)
         ·rw [if_neg c22] at H
          exact absurd H (by simp)
        ·rw [if_neg c20] at H
         have c20b0 : decide (0 < x10_1) = false := decide_eq_false c20
         clear c20
         have H' := Aside0.mk H
         clear H
         have p157 : 0 ≤ (x10_1 : Int) := of_decide_eq_true (by first | (with_reducible assumption) | assumption)
         have q157 : x10_1 < (l0_0.length : Int) := of_decide_eq_true (by first | (with_reducible assumption) | assumption)
         obtain ⟨ad157, e157, hx157_0, hx157_1, hx157_2, hx157_3, hx157_4, hx157_5⟩ := at_T49 HR0_0.out x10_1 p157 q157
         cases e157
         replace hx157_0 := (HB.out.cell (World.block_lt_of_cell? w _ hx157_0)).trans hx157_0
         replace hx157_1 := (HB.out.cell (World.block_lt_of_cell? w _ hx157_1)).trans hx157_1
         replace hx157_2 := (HB.out.cell (World.block_lt_of_cell? w _ hx157_2)).trans hx157_2
         replace hx157_3 := (HB.out.cell (World.block_lt_of_cell? w _ hx157_3)).trans hx157_3
         replace hx157_4 := (HB.out.cell (World.block_lt_of_cell? w _ hx157_4)).trans hx157_4
         replace hx157_5 := (HB.out.cell (World.block_lt_of_cell? w _ hx157_5)).trans hx157_5
         replace p157 := eq_true p157
         replace q157 := eq_true q157
         try go_wp2_with (first | ((with_reducible refine gate_dst (N := 6) rfl ?_); refine box_event ?hg (N := 6) ?hd (cs := #[.int .i64 0, .int .i64 0, .int .i64 0, .int .i64 0, .int .i64 0, .int .i64 0]) (t := 49) ?hr ?_; (case hd => rfl); (case hg => rfl); (case hr => first | (go_simp; done) | (go_simp; rfl)); intro gb158 hg w38 hbox hb; have n0_ := Aside0.mk (blk_below (g := gb156) (o := .cells #[.slice (some ad157) l0_0.length c0_0] 28 (0, 0)) (by (with_reducible repeat (first | refine blk_drewN ?_ _ | refine blk_drew ?_ | refine blk_alloc ?_ _)); exact BK156.out) hb); have n1_ := Aside0.mk (below_step (by repeat (first | (with_reducible first | exact HB.out | apply below_alloc | apply pw_below_drewN | apply below_drew1 | refine below_set ?_ GE156.out) | exact HB.out)) hb); have n2_ := Aside0.mk (hbox); have n3_ := Aside0.mk ((by rw [hg]; exact (below_size (by repeat (first | (with_reducible first | exact HB.out | apply below_alloc | apply pw_below_drewN | apply below_drew1 | refine below_set ?_ GE156.out) | exact HB.out))) : w.heap.size ≤ gb158)); have n4_ := Aside0.mk ((by rw [hg]; exact (below_size (by repeat (first | (with_reducible first | exact HB.out | apply below_alloc | apply pw_below_drewN | apply below_drew1 | refine below_set ?_ GE156.out) | exact HB.out))) : w.heap.size ≤ gb158)); have n5_ := Aside0.mk ((by rw [hg]; exact Nat.ne_of_lt (blk_lt (g := gb156) (o := .cells #[.slice (some ad157) l0_0.length c0_0] 28 (0, 0)) (by (with_reducible repeat (first | refine blk_drewN ?_ _ | refine blk_drew ?_ | refine blk_alloc ?_ _)); exact BK156.out)) : gb156 ≠ gb158)); have n6_ := Aside0.mk ((by rw [hg]; exact Nat.ne_of_gt (blk_lt (g := gb156) (o := .cells #[.slice (some ad157) l0_0.length c0_0] 28 (0, 0)) (by (with_reducible repeat (first | refine blk_drewN ?_ _ | refine blk_drew ?_ | refine blk_alloc ?_ _)); exact BK156.out)) : gb158 ≠ gb156)); clear BK156; clear HB; have BK156 := n0_; have HB := n1_; have BK158 := n2_; have GW158 := n3_; have GE158 := n4_; have NB156_158 := n5_; have NB158_156 := n6_; clear n0_ n1_ n2_ n3_ n4_ n5_ n6_; clear hb hbox hg; have hnb39 := NB158_156.out; have hnc39 := NB156_158.out; have hcz40_0 : w38.cell? ⟨gb158, 0, none⟩ = some (.int .i64 0) := (blk_cell BK158.out 0).trans rfl; have hcz40_1 : w38.cell? ⟨gb158, 1, none⟩ = some (.int .i64 0) := (blk_cell BK158.out 1).trans rfl; have hcz40_2 : w38.cell? ⟨gb158, 2, none⟩ = some (.int .i64 0) := (blk_cell BK158.out 2).trans rfl; have hcz40_3 : w38.cell? ⟨gb158, 3, none⟩ = some (.int .i64 0) := (blk_cell BK158.out 3).trans rfl; have hcz40_4 : w38.cell? ⟨gb158, 4, none⟩ = some (.int .i64 0) := (blk_cell BK158.out 4).trans rfl; have hcz40_5 : w38.cell? ⟨gb158, 5, none⟩ = some (.int .i64 0) := (blk_cell BK158.out 5).trans rfl; have hfz40_0 := blk_frozen BK158.out 0; have hfz40_1 := blk_frozen BK158.out 1; have hfz40_2 := blk_frozen BK158.out 2; have hfz40_3 := blk_frozen BK158.out 3; have hfz40_4 := blk_frozen BK158.out 4; have hfz40_5 := blk_frozen BK158.out 5))
         have n0_ : Aside0 (((((((w38.setCell ⟨gb158, 0, none⟩ (.int .i64 ((rd_T49 l0_0 x10_1).f0.f0.f0))).setCell ⟨gb158, 1, none⟩ (.int .i64 ((rd_T49 l0_0 x10_1).f0.f0.f1))).setCell ⟨gb158, 2, none⟩ (.int .i64 ((rd_T49 l0_0 x10_1).f0.f0.f2))).setCell ⟨gb158, 3, none⟩ (.int .i64 ((rd_T49 l0_0 x10_1).f0.f1))).setCell ⟨gb158, 4, none⟩ (.int .i64 ((rd_T49 l0_0 x10_1).f0.f2))).setCell ⟨gb158, 5, none⟩ (.int .i64 ((rd_T49 l0_0 x10_1).f1))).heap[gb156]? = some (.cells #[.slice (some ad157) l0_0.length c0_0] 28 (0, 0))) := ⟨by (with_reducible repeat (first | refine blk_drewN ?_ _ | refine blk_drew ?_ | refine blk_alloc ?_ _)); refine blk_far ?_ NB156_158.out _; (with_reducible repeat (first | refine blk_drewN ?_ _ | refine blk_drew ?_ | refine blk_alloc ?_ _)); refine blk_far ?_ NB156_158.out _; (with_reducible repeat (first | refine blk_drewN ?_ _ | refine blk_drew ?_ | refine blk_alloc ?_ _)); refine blk_far ?_ NB156_158.out _; (with_reducible repeat (first | refine blk_drewN ?_ _ | refine blk_drew ?_ | refine blk_alloc ?_ _)); refine blk_far ?_ NB156_158.out _; (with_reducible repeat (first | refine blk_drewN ?_ _ | refine blk_drew ?_ | refine blk_alloc ?_ _)); refine blk_far ?_ NB156_158.out _; (with_reducible repeat (first | refine blk_drewN ?_ _ | refine blk_drew ?_ | refine blk_alloc ?_ _)); refine blk_far ?_ NB156_158.out _; (with_reducible repeat (first | refine blk_drewN ?_ _ | refine blk_drew ?_ | refine blk_alloc ?_ _)); exact BK156.out⟩
         have n1_ : Aside0 (((((((w38.setCell ⟨gb158, 0, none⟩ (.int .i64 ((rd_T49 l0_0 x10_1).f0.f0.f0))).setCell ⟨gb158, 1, none⟩ (.int .i64 ((rd_T49 l0_0 x10_1).f0.f0.f1))).setCell ⟨gb158, 2, none⟩ (.int .i64 ((rd_T49 l0_0 x10_1).f0.f0.f2))).setCell ⟨gb158, 3, none⟩ (.int .i64 ((rd_T49 l0_0 x10_1).f0.f1))).setCell ⟨gb158, 4, none⟩ (.int .i64 ((rd_T49 l0_0 x10_1).f0.f2))).setCell ⟨gb158, 5, none⟩ (.int .i64 ((rd_T49 l0_0 x10_1).f1))).heap[gb158]? = some (.cells #[.int .i64 ((rd_T49 l0_0 x10_1).f0.f0.f0), .int .i64 ((rd_T49 l0_0 x10_1).f0.f0.f1), .int .i64 ((rd_T49 l0_0 x10_1).f0.f0.f2), .int .i64 ((rd_T49 l0_0 x10_1).f0.f1), .int .i64 ((rd_T49 l0_0 x10_1).f0.f2), .int .i64 ((rd_T49 l0_0 x10_1).f1)] 49 (0, 0))) := ⟨by (with_reducible repeat (first | refine blk_drewN ?_ _ | refine blk_drew ?_ | refine blk_alloc ?_ _)); refine blk_put (cs := #[.int .i64 ((rd_T49 l0_0 x10_1).f0.f0.f0), .int .i64 ((rd_T49 l0_0 x10_1).f0.f0.f1), .int .i64 ((rd_T49 l0_0 x10_1).f0.f0.f2), .int .i64 ((rd_T49 l0_0 x10_1).f0.f1), .int .i64 ((rd_T49 l0_0 x10_1).f0.f2), .int .i64 0]) ?_ 5 _ rfl; (with_reducible repeat (first | refine blk_drewN ?_ _ | refine blk_drew ?_ | refine blk_alloc ?_ _)); refine blk_put (cs := #[.int .i64 ((rd_T49 l0_0 x10_1).f0.f0.f0), .int .i64 ((rd_T49 l0_0 x10_1).f0.f0.f1), .int .i64 ((rd_T49 l0_0 x10_1).f0.f0.f2), .int .i64 ((rd_T49 l0_0 x10_1).f0.f1), .int .i64 0, .int .i64 0]) ?_ 4 _ rfl; (with_reducible repeat (first | refine blk_drewN ?_ _ | refine blk_drew ?_ | refine blk_alloc ?_ _)); refine blk_put (cs := #[.int .i64 ((rd_T49 l0_0 x10_1).f0.f0.f0), .int .i64 ((rd_T49 l0_0 x10_1).f0.f0.f1), .int .i64 ((rd_T49 l0_0 x10_1).f0.f0.f2), .int .i64 0, .int .i64 0, .int .i64 0]) ?_ 3 _ rfl; (with_reducible repeat (first | refine blk_drewN ?_ _ | refine blk_drew ?_ | refine blk_alloc ?_ _)); refine blk_put (cs := #[.int .i64 ((rd_T49 l0_0 x10_1).f0.f0.f0), .int .i64 ((rd_T49 l0_0 x10_1).f0.f0.f1), .int .i64 0, .int .i64 0, .int .i64 0, .int .i64 0]) ?_ 2 _ rfl; (with_reducible repeat (first | refine blk_drewN ?_ _ | refine blk_drew ?_ | refine blk_alloc ?_ _)); refine blk_put (cs := #[.int .i64 ((rd_T49 l0_0 x10_1).f0.f0.f0), .int .i64 0, .int .i64 0, .int .i64 0, .int .i64 0, .int .i64 0]) ?_ 1 _ rfl; (with_reducible repeat (first | refine blk_drewN ?_ _ | refine blk_drew ?_ | refine blk_alloc ?_ _)); refine blk_put (cs := #[.int .i64 0, .int .i64 0, .int .i64 0, .int .i64 0, .int .i64 0, .int .i64 0]) ?_ 0 _ rfl; (with_reducible repeat (first | refine blk_drewN ?_ _ | refine blk_drew ?_ | refine blk_alloc ?_ _)); exact BK158.out⟩
         have n2_ : Aside0 (Below w.heap.size w ((((((w38.setCell ⟨gb158, 0, none⟩ (.int .i64 ((rd_T49 l0_0 x10_1).f0.f0.f0))).setCell ⟨gb158, 1, none⟩ (.int .i64 ((rd_T49 l0_0 x10_1).f0.f0.f1))).setCell ⟨gb158, 2, none⟩ (.int .i64 ((rd_T49 l0_0 x10_1).f0.f0.f2))).setCell ⟨gb158, 3, none⟩ (.int .i64 ((rd_T49 l0_0 x10_1).f0.f1))).setCell ⟨gb158, 4, none⟩ (.int .i64 ((rd_T49 l0_0 x10_1).f0.f2))).setCell ⟨gb158, 5, none⟩ (.int .i64 ((rd_T49 l0_0 x10_1).f1)))) := ⟨by repeat (first | (with_reducible first | exact HB.out | apply below_alloc | apply pw_below_drewN | apply below_drew1 | refine below_set ?_ GE156.out | refine below_set ?_ GE158.out) | exact HB.out)⟩
         (try clear BK156)
         (try clear BK158)
         (try clear HB)
         generalize ((((((w38.setCell ⟨gb158, 0, none⟩ (.int .i64 ((rd_T49 l0_0 x10_1).f0.f0.f0))).setCell ⟨gb158, 1, none⟩ (.int .i64 ((rd_T49 l0_0 x10_1).f0.f0.f1))).setCell ⟨gb158, 2, none⟩ (.int .i64 ((rd_T49 l0_0 x10_1).f0.f0.f2))).setCell ⟨gb158, 3, none⟩ (.int .i64 ((rd_T49 l0_0 x10_1).f0.f1))).setCell ⟨gb158, 4, none⟩ (.int .i64 ((rd_T49 l0_0 x10_1).f0.f2))).setCell ⟨gb158, 5, none⟩ (.int .i64 ((rd_T49 l0_0 x10_1).f1))) = w41 at n0_ n1_ n2_ ⊢
         have BK156 := n0_
         have BK158 := n1_
         have HB := n2_
         clear n0_ n1_ n2_
         have n0_ := Aside0.mk (blk_drew BK156.out)
         have n1_ := Aside0.mk (blk_drew BK158.out)
         have n2_ := Aside0.mk (below_drew1 HB.out)
         clear BK156
         clear BK158
         clear HB
         have BK156 := n0_
         have BK158 := n1_
         have HB := n2_
         clear n0_ n1_ n2_
         refine start_ (n := 24) (S := fun w' => w'.cell? ⟨gb158, 0, none⟩ = some (.int .i64 ((rd_T49 l0_0 x10_1).f0.f0.f0)) ∧ w'.cell? ⟨gb158, 1, none⟩ = some (.int .i64 ((rd_T49 l0_0 x10_1).f0.f0.f1)) ∧ w'.cell? ⟨gb158, 2, none⟩ = some (.int .i64 ((rd_T49 l0_0 x10_1).f0.f0.f2)) ∧ w'.cell? ⟨gb158, 3, none⟩ = some (.int .i64 ((rd_T49 l0_0 x10_1).f0.f1)) ∧ w'.cell? ⟨gb158, 4, none⟩ = some (.int .i64 ((rd_T49 l0_0 x10_1).f0.f2)) ∧ w'.cell? ⟨gb158, 5, none⟩ = some (.int .i64 ((rd_T49 l0_0 x10_1).f1))) (ds := []) #[false, false, false, false, false, false, false, false, false, false, false, false, false, false, false, false, false, false, false, false, false, false, false, false] (by kernel_rfl) rfl rfl ⟨(blk_cell BK158.out 0).trans rfl, (blk_cell BK158.out 1).trans rfl, (blk_cell BK158.out 2).trans rfl, (blk_cell BK158.out 3).trans rfl, (blk_cell BK158.out 4).trans rfl, (blk_cell BK158.out 5).trans rfl⟩ (fun hHeld => ?_); refine with_tabW index_Check.tab4 index_Check.bits4 (fun HT_ HW_ => ?_)
         generalize w41.drew = w42 at BK156 BK158 HB hHeld ⊢
         refine pure_ (i := 0) (N := some 15) (v := ?_) (a' := ?_) #[true, false, false, false, false, false, false, false, false, false, false, false, false, false, false, false, false, false, false, false, false, false, false, false] rfl rfl (any_of HT_.out (by kernel_rfl)) (fun _ _ _ h => h) (Or.inl ⟨by rfl, ?_⟩) ?_ ?_
         rotate_left
         ·intro w'
          go_simp
          with_reducible rfl
         rotate_left
         ·simp only [Act.put, List.setIfInBounds_toArray, List.set_cons_zero, List.set_cons_succ, i64_w, i32_w]
          rfl
         refine take_ (i := 1) (N := some 16) (v := ?_) (a' := ?_) #[true, true, false, false, false, false, false, false, false, false, false, false, false, false, false, false, false, false, false, false, false, false, false, false] rfl rfl (take_ofW HT_.out HW_.out (by kernel_rfl)) (fun _ _ _ h => h) (Or.inl ⟨by rfl, ?_⟩) hHeld ?_ ?_
         rotate_left
         ·rintro w' ⟨s0, s1, s2, s3, s4, s5⟩
          go_simp
          with_reducible rfl
         rotate_left
         ·simp only [Act.put, List.setIfInBounds_toArray, List.set_cons_zero, List.set_cons_succ, i64_w, i32_w]
          rfl
         refine pure_ (i := 2) (N := some 17) (v := ?_) (a' := ?_) #[true, true, true, false, false, false, false, false, false, false, false, false, false, false, false, false, false, false, false, false, false, false, false, false] rfl rfl (any_of HT_.out (by kernel_rfl)) (fun _ _ _ h => h) (Or.inl ⟨by rfl, ?_⟩) ?_ ?_
         rotate_left
         ·intro w'
          go_simp
          with_reducible rfl
         rotate_left
         ·simp only [Act.put, List.setIfInBounds_toArray, List.set_cons_zero, List.set_cons_succ, i64_w, i32_w]
          rfl
         refine pure_ (i := 3) (N := some 18) (v := ?_) (a' := ?_) #[true, true, true, true, false, false, false, false, false, false, false, false, false, false, false, false, false, false, false, false, false, false, false, false] rfl rfl (any_of HT_.out (by kernel_rfl)) (fun _ _ _ h => h) (Or.inl ⟨by rfl, ?_⟩) ?_ ?_
         rotate_left
         ·intro w'
          go_simp
          with_reducible rfl
         rotate_left
         ·simp only [Act.put, List.setIfInBounds_toArray, List.set_cons_zero, List.set_cons_succ, i64_w, i32_w]
          rfl
         refine pure_ (i := 4) (N := some 19) (v := ?_) (a' := ?_) #[true, true, true, true, true, false, false, false, false, false, false, false, false, false, false, false, false, false, false, false, false, false, false, false] rfl rfl (any_of HT_.out (by kernel_rfl)) (fun _ _ _ h => h) (Or.inl ⟨by rfl, ?_⟩) ?_ ?_
         rotate_left
         ·intro w'
          go_simp
          with_reducible rfl
         rotate_left
         ·simp only [Act.put, List.setIfInBounds_toArray, List.set_cons_zero, List.set_cons_succ, i64_w, i32_w]
          rfl
         refine pure_ (i := 6) (N := some 21) (v := ?_) (a' := ?_) #[true, true, true, true, true, false, true, false, false, false, false, false, false, false, false, false, false, false, false, false, false, false, false, false] rfl rfl (any_of HT_.out (by kernel_rfl)) (fun _ _ _ h => h) (Or.inl ⟨by rfl, ?_⟩) ?_ ?_
         rotate_left
         ·intro w'
          go_simp
          with_reducible rfl
         rotate_left
         ·simp only [Act.put, List.setIfInBounds_toArray, List.set_cons_zero, List.set_cons_succ, i64_w, i32_w]
          rfl
         refine take_ (i := 5) (N := some 20) (v := ?_) (a' := ?_) #[true, true, true, true, true, true, true, false, false, false, false, false, false, false, false, false, false, false, false, false, false, false, false, false] rfl rfl (take_ofW HT_.out HW_.out (by kernel_rfl)) (fun _ _ _ h => h) (Or.inl ⟨by rfl, ?_⟩) hHeld ?_ ?_
         rotate_left
         ·rintro w' ⟨s0, s1, s2, s3, s4, s5⟩
          go_simp
          with_reducible rfl
         rotate_left
         ·simp only [Act.put, List.setIfInBounds_toArray, List.set_cons_zero, List.set_cons_succ, i64_w, i32_w]
          rfl
         refine pure_ (i := 7) (N := some 22) (v := ?_) (a' := ?_) #[true, true, true, true, true, true, true, true, false, false, false, false, false, false, false, false, false, false, false, false, false, false, false, false] rfl rfl (any_of HT_.out (by kernel_rfl)) (fun _ _ _ h => h) (Or.inl ⟨by rfl, ?_⟩) ?_ ?_
         rotate_left
         ·intro w'
          go_simp
          with_reducible rfl
         rotate_left
         ·simp only [Act.put, List.setIfInBounds_toArray, List.set_cons_zero, List.set_cons_succ, i64_w, i32_w]
          rfl
         refine pure_ (i := 8) (N := some 23) (v := ?_) (a' := ?_) #[true, true, true, true, true, true, true, true, true, false, false, false, false, false, false, false, false, false, false, false, false, false, false, false] rfl rfl (any_of HT_.out (by kernel_rfl)) (fun _ _ _ h => h) (Or.inl ⟨by rfl, ?_⟩) ?_ ?_
         rotate_left
         ·intro w'
          go_simp
          with_reducible rfl
         rotate_left
         ·simp only [Act.put, List.setIfInBounds_toArray, List.set_cons_zero, List.set_cons_succ, i64_w, i32_w]
          rfl
         refine pure_ (i := 9) (N := some 24) (v := ?_) (a' := ?_) #[true, true, true, true, true, true, true, true, true, true, false, false, false, false, false, false, false, false, false, false, false, false, false, false] rfl rfl (any_of HT_.out (by kernel_rfl)) (fun _ _ _ h => h) (Or.inl ⟨by rfl, ?_⟩) ?_ ?_
         rotate_left
         ·intro w'
          go_simp
          with_reducible rfl
         rotate_left
         ·simp only [Act.put, List.setIfInBounds_toArray, List.set_cons_zero, List.set_cons_succ, i64_w, i32_w]
          rfl
         refine pure_ (i := 10) (N := some 25) (v := ?_) (a' := ?_) #[true, true, true, true, true, true, true, true, true, true, true, false, false, false, false, false, false, false, false, false, false, false, false, false] rfl rfl (any_of HT_.out (by kernel_rfl)) (fun _ _ _ h => h) (Or.inl ⟨by rfl, ?_⟩) ?_ ?_
         rotate_left
         ·intro w'
          go_simp
          with_reducible rfl
         rotate_left
         ·simp only [Act.put, List.setIfInBounds_toArray, List.set_cons_zero, List.set_cons_succ, i64_w, i32_w]
          rfl
         refine pure_ (i := 11) (N := some 26) (v := ?_) (a' := ?_) #[true, true, true, true, true, true, true, true, true, true, true, true, false, false, false, false, false, false, false, false, false, false, false, false] rfl rfl (any_of HT_.out (by kernel_rfl)) (fun _ _ _ h => h) (Or.inl ⟨by rfl, ?_⟩) ?_ ?_
         rotate_left
         ·intro w'
          go_simp
          with_reducible rfl
         rotate_left
         ·simp only [Act.put, List.setIfInBounds_toArray, List.set_cons_zero, List.set_cons_succ, i64_w, i32_w]
          rfl
         refine pure_ (i := 12) (N := some 27) (v := ?_) (a' := ?_) #[true, true, true, true, true, true, true, true, true, true, true, true, true, false, false, false, false, false, false, false, false, false, false, false] rfl rfl (any_of HT_.out (by kernel_rfl)) (fun _ _ _ h => h) (Or.inl ⟨by rfl, ?_⟩) ?_ ?_
         rotate_left
         ·intro w'
          go_simp
          with_reducible rfl
         rotate_left
         ·simp only [Act.put, List.setIfInBounds_toArray, List.set_cons_zero, List.set_cons_succ, i64_w, i32_w]
          rfl
         refine pure_ (i := 13) (N := some 28) (v := undef) (a' := ?_) #[true, true, true, true, true, true, true, true, true, true, true, true, true, true, false, false, false, false, false, false, false, false, false, false] rfl rfl (any_of HT_.out (by kernel_rfl)) (fun _ _ _ h => h) (Or.inr ⟨by rfl, rfl⟩) ?_ ?_
         rotate_left
         ·simp only [Act.put, List.setIfInBounds_toArray, List.set_cons_zero, List.set_cons_succ, i64_w, i32_w]
          rfl
         refine pure_ (i := 14) (N := some 29) (v := undef) (a' := ?_) #[true, true, true, true, true, true, true, true, true, true, true, true, true, true, true, false, false, false, false, false, false, false, false, false] rfl rfl (any_of HT_.out (by kernel_rfl)) (fun _ _ _ h => h) (Or.inr ⟨by rfl, rfl⟩) ?_ ?_
         rotate_left
         ·simp only [Act.put, List.setIfInBounds_toArray, List.set_cons_zero, List.set_cons_succ, i64_w, i32_w]
          rfl
         refine pure_ (i := 15) (N := some 30) (v := undef) (a' := ?_) #[true, true, true, true, true, true, true, true, true, true, true, true, true, true, true, true, false, false, false, false, false, false, false, false] rfl rfl (any_of HT_.out (by kernel_rfl)) (fun _ _ _ h => h) (Or.inr ⟨by rfl, rfl⟩) ?_ ?_
         rotate_left
         ·simp only [Act.put, List.setIfInBounds_toArray, List.set_cons_zero, List.set_cons_succ, i64_w, i32_w]
          rfl
         refine pure_ (i := 16) (N := some 31) (v := undef) (a' := ?_) #[true, true, true, true, true, true, true, true, true, true, true, true, true, true, true, true, true, false, false, false, false, false, false, false] rfl rfl (any_of HT_.out (by kernel_rfl)) (fun _ _ _ h => h) (Or.inr ⟨by rfl, rfl⟩) ?_ ?_
         rotate_left
         ·simp only [Act.put, List.setIfInBounds_toArray, List.set_cons_zero, List.set_cons_succ, i64_w, i32_w]
          rfl
         refine pure_ (i := 17) (N := some 32) (v := undef) (a' := ?_) #[true, true, true, true, true, true, true, true, true, true, true, true, true, true, true, true, true, true, false, false, false, false, false, false] rfl rfl (any_of HT_.out (by kernel_rfl)) (fun _ _ _ h => h) (Or.inr ⟨by rfl, rfl⟩) ?_ ?_
         rotate_left
         ·simp only [Act.put, List.setIfInBounds_toArray, List.set_cons_zero, List.set_cons_succ, i64_w, i32_w]
          rfl
         refine pure_ (i := 18) (N := some 33) (v := undef) (a' := ?_) #[true, true, true, true, true, true, true, true, true, true, true, true, true, true, true, true, true, true, true, false, false, false, false, false] rfl rfl (any_of HT_.out (by kernel_rfl)) (fun _ _ _ h => h) (Or.inr ⟨by rfl, rfl⟩) ?_ ?_
         rotate_left
         ·simp only [Act.put, List.setIfInBounds_toArray, List.set_cons_zero, List.set_cons_succ, i64_w, i32_w]
          rfl
         refine pure_ (i := 19) (N := some 34) (v := undef) (a' := ?_) #[true, true, true, true, true, true, true, true, true, true, true, true, true, true, true, true, true, true, true, true, false, false, false, false] rfl rfl (any_of HT_.out (by kernel_rfl)) (fun _ _ _ h => h) (Or.inr ⟨by rfl, rfl⟩) ?_ ?_
         rotate_left
         ·simp only [Act.put, List.setIfInBounds_toArray, List.set_cons_zero, List.set_cons_succ, i64_w, i32_w]
          rfl
         refine pure_ (i := 20) (N := some 35) (v := undef) (a' := ?_) #[true, true, true, true, true, true, true, true, true, true, true, true, true, true, true, true, true, true, true, true, true, false, false, false] rfl rfl (any_of HT_.out (by kernel_rfl)) (fun _ _ _ h => h) (Or.inr ⟨by rfl, rfl⟩) ?_ ?_
         rotate_left
         ·simp only [Act.put, List.setIfInBounds_toArray, List.set_cons_zero, List.set_cons_succ, i64_w, i32_w]
          rfl
         refine pure_ (i := 21) (N := some 36) (v := undef) (a' := ?_) #[true, true, true, true, true, true, true, true, true, true, true, true, true, true, true, true, true, true, true, true, true, true, false, false] rfl rfl (any_of HT_.out (by kernel_rfl)) (fun _ _ _ h => h) (Or.inr ⟨by rfl, rfl⟩) ?_ ?_
         rotate_left
         ·simp only [Act.put, List.setIfInBounds_toArray, List.set_cons_zero, List.set_cons_succ, i64_w, i32_w]
          rfl
         refine pure_ (i := 22) (N := some 37) (v := ?_) (a' := ?_) #[true, true, true, true, true, true, true, true, true, true, true, true, true, true, true, true, true, true, true, true, true, true, true, false] rfl rfl (any_of HT_.out (by kernel_rfl)) (fun _ _ _ h => h) (Or.inl ⟨by rfl, ?_⟩) ?_ ?_
         rotate_left
         ·intro w'
          go_simp
          with_reducible rfl
         rotate_left
         ·simp only [Act.put, List.setIfInBounds_toArray, List.set_cons_zero, List.set_cons_succ, i64_w, i32_w]
          rfl
         refine pure_ (i := 23) (N := some 38) (v := ?_) (a' := ?_) #[true, true, true, true, true, true, true, true, true, true, true, true, true, true, true, true, true, true, true, true, true, true, true, true] rfl rfl (any_of HT_.out (by kernel_rfl)) (fun _ _ _ h => h) (Or.inl ⟨by rfl, ?_⟩) ?_ ?_
         rotate_left
         ·intro w'
          go_simp
          with_reducible rfl
         rotate_left
         ·simp only [Act.put, List.setIfInBounds_toArray, List.set_cons_zero, List.set_cons_succ, i64_w, i32_w]
          rfl
         refine done_ (done_of HT_.out (by kernel_rfl)) ?_
         try go_wp2
         go_roundg k1
         case measure => have := HK1.out; omega
         case rel => exact ⟨(wrap64 (x10_1 + 1)), (by first | rfl | (simp; done) | (simp [*]; done)), H', ⟨by have := HK1.out; omega⟩, ⟨by (with_reducible repeat (first | refine blk_drewN ?_ _ | refine blk_drew ?_ | refine blk_alloc ?_ _)); exact BK156.out⟩, ⟨by repeat (first | (with_reducible first | exact HB.out | apply below_alloc | apply pw_below_drewN | apply below_drew1 | refine below_set ?_ GE156.out | refine below_set ?_ GE158.out) | exact HB.out)⟩⟩
     ·rw [if_neg c7] at H
      exact absurd H (by simp)
    ·rw [if_neg c6] at H
     exact absurd H (by simp)
   ·rw [if_neg c5] at H
    have c5b0 : decide (x10_1 < (l0_0.length : Int)) = false := decide_eq_false c5
    clear c5
    obtain rfl := Option.some.inj H
    go_wp2
    go_ret
    exact ⟨by first | rfl | (simp [errW_none, errW_some] <;> rfl) | (simp [*, errW_none, errW_some] <;> rfl), by repeat (first | (with_reducible first | exact HB.out | apply below_alloc | apply pw_below_drewN | apply below_drew1 | refine below_set ?_ GE156.out) | exact HB.out)⟩
end Go.Proofs.Ytodmmckieoakjaa.P
namespace Go.Proofs.Ytodmmckieoakjaa.P
open Go.RowKit Go.Proofs.YtodmmckieoakjaaW.PrintWords Go.Proofs.YtodmmckieoakjaaW.PrintLast Go.Proofs.YtodmmckieoakjaaW.PrintMore
attribute [local go_sem] max2_int min2_int max_two min_two max_three min_three max_four min_four   -- for this text's walks alone
set_option linter.unusedVariables false
set_option linter.unusedSimpArgs false
def sizarlaw35_sane_1.f (a0 : Int) : Option ((List (S63))) := (sizarlaw35_read.f 7 0 0).bind fun bt161 => (some (([(⟨(⟨bt161.1, bt161.2.1, bt161.2.2.1⟩ : S45), (([(⟨a0, wrap64 (a0 + 1)⟩ : S60)] : List (S60)))⟩ : S63)] : List (S63))))
set_option maxHeartbeats 8000000 in
set_option maxRecDepth 100000 in
theorem sizarlaw35_sane_1.calls (a0 : Int) (r : List (S63)) (w : World) (h : sizarlaw35_sane_1.f a0 = some r) :
  Calls Try.prog 27 #[.int .i64 a0] w fun e w' => ∃ v0_ : Value, e = .returned (v0_) ∧ Kd.N k63 63 w' w.heap.size (fun k_ => (w.heap.size ≤ k_)) v0_ r ∧ Below w.heap.size w w' := by
 have hu47 := Try.underlying47
 have hfd : ∀ (a b c d e : Int) (w : World), (Instr.field 47 (.agg #[.int .i64 a, .int .i64 b, .int .i64 c, .int .i64 d, .int .i64 e]) 0).run Try.prog w = .ok (.agg #[.int .i64 a, .int .i64 b, .int .i64 c]) w := fun _ _ _ _ _ _ => by kernel_rfl
 have hu60 := Try.underlying60
 have hu63 := Try.underlying63
 have HB := Aside0.mk (Below.refl w.heap.size w)
 have H : ((sizarlaw35_read.f 7 0 0).bind fun bt161 => (some (([(⟨(⟨bt161.1, bt161.2.1, bt161.2.2.1⟩ : S45), (([(⟨a0, wrap64 (a0 + 1)⟩ : S60)] : List (S60)))⟩ : S63)] : List (S63))))) = some r := h
 clear h
 replace H := Option.bind_eq_some_iff.mp H
 obtain ⟨⟨t161, t162, t163, t164, t165⟩, A20, H⟩ := H
 replace H : (some (([(⟨(⟨t161, t162, t163⟩ : S45), (([(⟨a0, wrap64 (a0 + 1)⟩ : S60)] : List (S60)))⟩ : S63)] : List (S63)))) = some r := H
 have A2 := Aside0.mk A20
 clear A20
 obtain ⟨y166, hy166⟩ : ∃ y_ : List (S60), y_ = (([(⟨a0, wrap64 (a0 + 1)⟩ : S60)] : List (S60))) := ⟨_, rfl⟩
 replace H : (some (([(⟨(⟨t161, t162, t163⟩ : S45), y166⟩ : S63)] : List (S63)))) = some r := by first | (rw [hy166]; with_reducible exact H) | (have H2_ := (Option.bind_some _ _).symm.trans H; rw [hy166]; with_reducible exact H2_) | (have H2_ := (Option.bind_some _ _).symm.trans H; with_reducible exact H2_) | with_reducible exact H | (rw [hy166]; exact H) | exact H
 have Ny166 := Aside0.mk hy166
 clear hy166
 obtain ⟨y169, hy169⟩ : ∃ y_ : List (S63), y_ = (([(⟨(⟨t161, t162, t163⟩ : S45), y166⟩ : S63)] : List (S63))) := ⟨_, rfl⟩
 replace H : (some y169) = some r := by first | (rw [hy169]; with_reducible exact H) | (have H2_ := (Option.bind_some _ _).symm.trans H; rw [hy169]; with_reducible exact H2_) | (have H2_ := (Option.bind_some _ _).symm.trans H; with_reducible exact H2_) | with_reducible exact H | (rw [hy169]; exact H) | exact H
 have Ny169 := Aside0.mk hy169
 clear hy169
 obtain rfl := Option.some.inj H
 go_enter Try.func27, Try.ntmps27
 go_wp2_with (first | ((with_reducible refine gate_callee (f := 26) rfl ?_); refine goesL_ (some 3) rfl rfl Try.func26 (by kernel_rfl) rfl #[.int .i64 7, .int .i64 0, .int .i64 0] rfl (by (try simp only [List.map_toArray, List.map_cons, List.map_nil]); first | done | rfl | (simp only [List.length_drop, List.length_take]; rfl)) ?_; (with_reducible refine (sizarlaw35_read.calls 7 0 0 t161 t162 t163 t164 t165 _ A2.out).mono ?_); rintro e w3 ⟨rfl, hb⟩; refine ⟨_, rfl, ?_⟩; have n0_ := Aside0.mk (below_step (by repeat (first | (with_reducible first | exact HB.out | apply below_alloc | apply pw_below_drewN | apply below_drew1) | exact HB.out)) hb); clear HB; have HB := n0_; clear n0_; (try clear hb); (try clear hb2); (try clear hk); (try clear hi)) | ((with_reducible refine gate_dst (N := 9) rfl ?_); refine Kd.R_lit k60 _ 60 ?hg (N := 9) ?hd (xs := ([(⟨a0, wrap64 (a0 + 1)⟩ : S60)] : List (S60))) (inner := [.int .i64 a0, .int .i64 (wrap64 (a0 + 1))]) (ok := fun _ => True) (okp := fun _ => True) ?hr ?hp (fun _ hk => hk) trivial (Below.refl _ _) (Nat.le_refl _) (by simp) ?_; (case hd => rfl); (case hg => rfl); (case hr => first | (go_simp; done) | (go_simp; rfl)); (case hp => exact (Reps.c2 (show Kd.M k60 _ _ _ (⟨a0, wrap64 (a0 + 1)⟩ : S60) [.int .i64 a0, .int .i64 (wrap64 (a0 + 1))] from (k60_mkM _ _ _ (⟨a0, wrap64 (a0 + 1)⟩ : S60) )) (Reps.none _ _))); intro v167 w4 ho5 hb hg_ hnew_; clear hg_ hnew_; (first | rw [← Ny166.out] at ho5 | (simp only [Int.reduceToNat] at ho5; rw [← Ny166.out] at ho5)); have n0_ := Aside0.mk (Kd.R_lower (Kd.R_newM (M := fun k_ => (w.heap.size ≤ k_)) ho5 (below_size (by repeat (first | (with_reducible first | exact HB.out | apply below_alloc | apply pw_below_drewN | apply below_drew1) | exact HB.out))) (fun k_ h_ => h_)) (below_size (by repeat (first | (with_reducible first | exact HB.out | apply below_alloc | apply pw_below_drewN | apply below_drew1) | exact HB.out)))); have n1_ := Aside0.mk (below_step (by repeat (first | (with_reducible first | exact HB.out | apply below_alloc | apply pw_below_drewN | apply below_drew1) | exact HB.out)) hb); clear HB; have HO168 := n0_; have HB := n1_; clear n0_ n1_; clear hb ho5; obtain ⟨Ao6, co6, eo6⟩ := Kd.R_slice HO168.out; subst eo6) | ((with_reducible refine gate_dst (N := 11) rfl ?_); refine Kd.N_lit k63 _ 63 ?hg (N' := 11) ?hd (xs := ([(⟨(⟨t161, t162, t163⟩ : S45), y166⟩ : S63)] : List (S63))) (inner := [.int .i64 t161, .int .i64 t162, .int .i64 t163, .slice Ao6 y166.length co6]) (ok := (fun k_ => (w.heap.size ≤ k_))) (okp := (fun k_ => (w.heap.size ≤ k_))) ?hr ?hp (fun _ hk => hk) ((show ∀ k_, w4.heap.size ≤ k_ → (fun k_ => (w.heap.size ≤ k_)) k_ from fun k_ hk => (Nat.le_trans (below_size (by repeat (first | (with_reducible first | exact HB.out | apply below_alloc | apply pw_below_drewN | apply below_drew1) | exact HB.out))) hk)) _ (Nat.le_refl _)) (Below.refl _ _) (Nat.le_refl _) (by simp) ?_; (case hd => rfl); (case hg => rfl); (case hr => first | (go_simp; done) | (go_simp; rfl)); (case hp => exact (Reps.c4 (show Kd.FK k63 _ _ (⟨(⟨t161, t162, t163⟩ : S45), y166⟩ : S63) [.int .i64 t161, .int .i64 t162, .int .i64 t163, .slice Ao6 y166.length co6] from (k63_mkF _ _ (⟨(⟨t161, t162, t163⟩ : S45), y166⟩ : S63) (Kd.R_reads' (Kd.R_mono (ok' := (fun k_ => (w.heap.size ≤ k_))) (HO168.out) (fun k_ hk => hk.1))).2.1 (Kd.R_F (Kd.R_mono (ok' := (fun k_ => (w.heap.size ≤ k_))) (HO168.out) (fun k_ hk => hk.1))))) (Reps.none _ _))); intro v170 w7 ho8 hb hg_ hnew_; clear hg_ hnew_; (first | rw [← Ny169.out] at ho8 | (simp only [Int.reduceToNat] at ho8; rw [← Ny169.out] at ho8)); have n0_ := Aside0.mk (Kd.N_lower ho8 (below_size (by repeat (first | (with_reducible first | exact HB.out | apply below_alloc | apply pw_below_drewN | apply below_drew1) | exact HB.out)))); have n1_ := Aside0.mk (below_step (by repeat (first | (with_reducible first | exact HB.out | apply below_alloc | apply pw_below_drewN | apply below_drew1) | exact HB.out)) hb); clear HB; clear HO168; have HO171 := n0_; have HB := n1_; clear n0_ n1_; clear hb ho8))
 go_ret
 exact ⟨_, by first | rfl | (simp [errW_none, errW_some] <;> rfl) | (simp [*, errW_none, errW_some] <;> rfl), by (with_reducible repeat (first | apply Kd.N_alloc | apply Kd.N_drewN | apply Kd.N_drew)); exact HO171.out, by repeat (first | (with_reducible first | exact HB.out | apply below_alloc | apply pw_below_drewN | apply below_drew1) | exact HB.out)⟩
end Go.Proofs.Ytodmmckieoakjaa.P
namespace Go.Proofs.Ytodmmckieoakjaa.P
open Go.RowKit Go.Shelf Go.Proofs.YtodmmckieoakjaaW.PrintWords Go.Proofs.YtodmmckieoakjaaW.PrintLast Go.Proofs.YtodmmckieoakjaaW.PrintMore
attribute [local go_sem] Oper.semAt_some
attribute [local go_sem high] eqA45
set_option linter.unusedVariables false
set_option linter.unusedSimpArgs false
/-- A link whose decision's number is within its range. -/
abbrev Lw := { x : S49 // (Lit.int .i64 x.f1).wf = true }
instance : Inhabited Lw := ⟨⟨z49, by decide⟩⟩
/-- Is the link at this key? -/
def atKey (k : S45) (x : S49) : Bool := ((x.f0.f0.f0) == k.f0 && ((x.f0.f0.f1) == k.f1 && ((x.f0.f0.f2) == k.f2)))
def ofKey (k : S45) (xs : List Lw) : List Lw := xs.filter fun x => atKey k x.1
theorem ofKey_snoc (k : S45) (xs : List Lw) (j : Nat) (h : j < xs.length) : ofKey k (xs.take (j + 1)) = if atKey k xs[j].1 then ofKey k (xs.take j) ++ [xs[j]] else ofKey k (xs.take j) := by
  unfold ofKey
  rw [List.take_succ_eq_append_getElem h, List.filter_append, List.filter_cons, List.filter_nil]
  split <;> simp
theorem ofKey_le (k : S45) (xs : List Lw) (j : Nat) : (ofKey k (xs.take j)).length ≤ j := Nat.le_trans (List.length_filter_le _ _) (by rw [List.length_take]; omega)
set_option maxRecDepth 100000 in
set_option maxHeartbeats 4000000 in
theorem of1_stops (F : Fence) (n : Nat) (h56 : F.fn 56) (hro : F.round = none) (hn : 1 ≤ n) (Bi Bk : Nat) (S : Nat → Prop) (A : Option Addr) (c : Nat) (xs : List Lw) (key : S45) (w : World)
    (hSi : S Bi) (hSk : S Bk) (hSA : ∀ ad, A = some ad → 0 < xs.length → S ad.block) (hS : ∀ k, S k → k < w.heap.size)
    (hi : w.cell? ⟨Bi, 0, none⟩ = some (.slice A xs.length c)) (hk0 : w.cell? ⟨Bk, 0, none⟩ = some (.int .i64 key.f0)) (hk1 : w.cell? ⟨Bk, 1, none⟩ = some (.int .i64 key.f1)) (hk2 : w.cell? ⟨Bk, 2, none⟩ = some (.int .i64 key.f2))
    (hC : Kd.C k49 w A xs.length (xs.map (·.1))) :
    SeqStopsK F n Try.prog 56 #[.pointer (some ⟨Bi, 0, none⟩), .pointer (some ⟨Bk, 0, none⟩)] (fun x : Lw => #[.agg (encL x.1).toArray]) (KeptP S) (fun ys => ys = ofKey key xs) (fun _ => True) xs.length w := by
  intro l J Jx W hW hJ hJx hY h0
  have HY := Aside0.mk hY
  have HJ := Aside0.mk hJ
  clear hY hJ hJx
  have hm : xs.length ≤ 9223372036854775807 := hC.2.1
  have hiW := (hW.cell (p := ⟨Bi, 0, none⟩) (hS _ hSi)).trans hi
  have HCW := Aside0.mk (Kd.C_below hC hW)
  have HSW := Aside0.mk (fun k hk => Nat.lt_of_lt_of_le (hS k hk) hW.size : ∀ k, S k → k < W.heap.size)
  have HW := Aside0.mk (⟨(hW.cell (p := ⟨Bk, 0, none⟩) (hS _ hSk)).trans hk0, (hW.cell (p := ⟨Bk, 1, none⟩) (hS _ hSk)).trans hk1, (hW.cell (p := ⟨Bk, 2, none⟩) (hS _ hSk)).trans hk2⟩ : W.cell? ⟨Bk, 0, none⟩ = some (.int .i64 key.f0) ∧ W.cell? ⟨Bk, 1, none⟩ = some (.int .i64 key.f1) ∧ W.cell? ⟨Bk, 2, none⟩ = some (.int .i64 key.f2))
  clear hC hi hk0 hk1 hk2 hW hS
  have HSi := Aside0.mk hSi
  have HSk := Aside0.mk hSk
  have HSA := Aside0.mk hSA
  clear hSi hSk hSA
  have hu28 := Try.underlying28
  have hu49 := Try.underlying49
  have hu47 := Try.underlying47
  have hu45 := Try.underlying45
  refine callsIn_of_wp Try.func56 rfl h56 ?_ hro
  simp only [Try.ntmps56, List.size_toArray, List.length_cons, List.length_nil, Nat.reduceAdd, Nat.reduceSub, Array.replicate_succ, Array.replicate_zero, List.push_toArray, List.append_toArray, List.nil_append, List.cons_append]
  gi_wp2
  clear hiW
  gi_loopw [9] (fun t9 wr => ∃ k : Nat, t9 = .int .i64 k ∧ k ≤ xs.length ∧ Aside0 (J (ofKey key (xs.take k)) wr) ∧ Aside0 (KeptP S W wr))
    (fun t9 _ => xs.length - (intOf t9).toNat)
  case atStart => exact ⟨0, rfl, Nat.zero_le _, ⟨by simpa [ofKey] using h0⟩, ⟨⟨Nat.le_refl _, fun _ _ => rfl⟩⟩⟩
  case round =>
    obtain ⟨k, rfl, hk, HJk, HK⟩ := hrel
    by_cases hlt : k < xs.length
    · obtain ⟨ad, e, x0, x1, x2, x3, x4, x5⟩ := at_T49 (C_kept HCW.out (fun x cs h => by rw [k49_open h]; exact k49_mk _ _) (fun ad e h1 => HK.out.block _ (HSA.out ad e h1))) (k : Int) (by omega) (by omega)
      subst e
      rw [Int.toNat_natCast] at x0 x1 x2 x3 x4 x5
      have hxk : rd_T49 (xs.map (·.1)) (k : Int) = xs[k].1 := by simp [rd_T49, List.getD_eq_getElem?_getD, hlt]
      have HSN := Aside0.mk (ofKey_snoc key xs k hlt)
      obtain ⟨x, HX, hx⟩ : ∃ x : Lw, Aside0 (x = xs[k]) ∧ xs[k] = x := ⟨_, ⟨rfl⟩, rfl⟩
      rw [hxk, hx] at x0 x1 x2 x3 x4 x5
      rw [← HX.out] at HSN
      clear hx hxk
      have hw := HW.out
      have k0 := (World.cell?_of_block (a := ⟨Bk, 0, none⟩) (HK.out.block _ HSk.out)).trans hw.1
      have k1 := (World.cell?_of_block (a := ⟨Bk, 1, none⟩) (HK.out.block _ HSk.out)).trans hw.2.1
      have k2 := (World.cell?_of_block (a := ⟨Bk, 2, none⟩) (HK.out.block _ HSk.out)).trans hw.2.2
      clear hw
      have HK2 : Aside0 (KeptP S W (wr.alloc (.cells (encL x.1).toArray 49))) := ⟨HK.out.trans (KeptP.of_grown (World.grownBy_alloc wr _ none) (fun j hj => ⟨Nat.lt_of_lt_of_le (HSW.out j hj) HK.out.size, by simp⟩))⟩
      have HJ2 := Aside0.mk (HJ.out _ _ (wr.alloc (.cells (encL x.1).toArray 49)) none HJk.out (World.grownBy_alloc wr _ none) (fun r e => by cases e))
      replace k0 := cell?_alloc_some' (.cells (encL x.1).toArray 49) k0
      replace k1 := cell?_alloc_some' (.cells (encL x.1).toArray 49) k1
      replace k2 := cell?_alloc_some' (.cells (encL x.1).toArray 49) k2
      simp only [encL] at k0 k1 k2 HK2 HJ2
      by_cases hkey : atKey key x.1 = true
      · rw [if_pos hkey] at HSN
        unfold atKey at hkey
        have hl2 : (ofKey key (xs.take k)).length < xs.length := Nat.lt_of_le_of_lt (ofKey_le key xs k) hlt
        obtain ⟨fn, tmps, assign, body, hy, hR⟩ := HY.out _ x _ HJ2.out hl2
        simp only [encL] at hy
        clear hl2
        gi_wp2_with fail
        refine hR.mono ?_
        rintro e W3 (⟨rfl, hJ3, hk3⟩ | ⟨rfl, hJx3⟩)
        · have HJ3 := Aside0.mk hJ3
          have HK3 := Aside0.mk hk3
          clear hJ3 hk3 hR hy k0 k1 k2 hkey
          gi_wp2
          go_roundw
          case rel => exact ⟨k + 1, by go_num, by omega, ⟨by rw [HSN.out]; exact HJ3.out⟩, ⟨HK2.out.trans HK3.out⟩⟩
          case measure => simp [intOf]; omega
        · clear hR hy k0 k1 k2 hkey
          gi_wp2
          refine bodyPost_ret (results_none rfl _ _ _) rfl ?_
          exact ⟨⟨_, rfl⟩, .inr ⟨_, trivial, hJx3⟩⟩
      · rw [if_neg hkey] at HSN
        replace hkey : atKey key x.1 = false := by simpa using hkey
        unfold atKey at hkey
        gi_wp2_with fail
        refine ⟨fun f hf => (by cases hf), ?_⟩
        gi_wp2
        clear k0 k1 k2 hkey
        go_roundw
        case rel => exact ⟨k + 1, by go_num, by omega, ⟨by rw [HSN.out]; exact HJ2.out⟩, HK2⟩
        case measure => simp [intOf]; omega
    · have hkn : k = xs.length := by omega
      subst hkn
      gi_wp2
      go_end0
      refine ⟨⟨_, rfl⟩, .inl ⟨_, rfl, ?_⟩⟩
      have := HJk.out
      rwa [List.take_length] at this
end Go.Proofs.Ytodmmckieoakjaa.P
namespace Go.Proofs
open Go.Shelf Go.RowKit Go.Lib Go.Sort
def Try.containsSpan_ren : Go.Shelf.Ren := ⟨fun | 8 => 57 | 6 => 70 | n => n, fun | 22 => 61 | 23 => 60 | 25 => 107 | 4 => 4 | 3 => 3 | 0 => 0 | n => n, fun | n => n⟩
theorem Try.containsSpan : Go.Proofs.SlLaysH0.n8 Try.prog Try.containsSpan_ren := {
  mixed := by kernel_rfl,
  f6 := ⟨Try.f70.name, by decide, Try.func70.trans (congrArg some (by kernel_rfl))⟩,
  f8 := ⟨Try.f57.name, by decide, Try.func57.trans (congrArg some (by kernel_rfl))⟩,
  t0 := Try.underlying0,
  a0 := Try.isAgg0,
  z0 := Try.sizeOf0,
  v0 := Try.zeroValue0,
  t3 := Try.underlying3,
  a3 := Try.isAgg3,
  z3 := Try.sizeOf3,
  v3 := Try.zeroValue3,
  t4 := Try.underlying4,
  a4 := Try.isAgg4,
  z4 := Try.sizeOf4,
  v4 := Try.zeroValue4,
  t22 := Try.underlying61,
  a22 := Try.isAgg61,
  z22 := Try.sizeOf61,
  v22 := Try.zeroValue61,
  t25 := Try.underlying107,
  a25 := Try.isAgg107,
  z25 := Try.sizeOf107,
  v25 := Try.zeroValue107 }
def Try.indexLink_ren : Go.Shelf.Ren := ⟨fun | 6 => 55 | n => n, fun | 22 => 26 | 23 => 49 | 25 => 75 | 3 => 3 | 0 => 0 | 4 => 4 | n => n, fun | n => n⟩
theorem Try.indexLink : Go.Proofs.SlLaysH0.n6 Try.prog Try.indexLink_ren := {
  mixed := by kernel_rfl,
  f6 := ⟨Try.f55.name, by decide, Try.func55.trans (congrArg some (by kernel_rfl))⟩,
  t0 := Try.underlying0,
  a0 := Try.isAgg0,
  z0 := Try.sizeOf0,
  v0 := Try.zeroValue0,
  t3 := Try.underlying3,
  a3 := Try.isAgg3,
  z3 := Try.sizeOf3,
  v3 := Try.zeroValue3,
  t4 := Try.underlying4,
  a4 := Try.isAgg4,
  z4 := Try.sizeOf4,
  v4 := Try.zeroValue4,
  t22 := Try.underlying26,
  a22 := Try.isAgg26,
  z22 := Try.sizeOf26,
  v22 := Try.zeroValue26,
  t25 := Try.underlying75,
  a25 := Try.isAgg75,
  z25 := Try.sizeOf75,
  v25 := Try.zeroValue75 }
def Try.cloneLink_ren : Go.Shelf.Ren := ⟨fun | 41 => 35 | n => n, fun | 22 => 26 | 23 => 49 | 4 => 4 | n => n, fun | n => n⟩
theorem Try.cloneLink : Go.Proofs.SlLaysE0.n41 Try.prog Try.cloneLink_ren := {
  mixed := by kernel_rfl,
  f41 := ⟨Try.f35.name, by decide, Try.func35.trans (congrArg some (by kernel_rfl))⟩,
  t4 := Try.underlying4,
  a4 := Try.isAgg4,
  z4 := Try.sizeOf4,
  v4 := Try.zeroValue4,
  t22 := Try.underlying26,
  a22 := Try.isAgg26,
  z22 := Try.sizeOf26,
  v22 := Try.zeroValue26 }
end Go.Proofs
namespace Go.Proofs.Ytodmmckieoakjaa.P
open Go.RowKit Go.Shelf Go.Proofs.YtodmmckieoakjaaW.PrintWords Go.Proofs.YtodmmckieoakjaaW.PrintLast Go.Proofs.YtodmmckieoakjaaW.PrintMore
set_option linter.unusedVariables false
set_option linter.unusedSimpArgs false
instance : Inhabited S60 := ⟨z60⟩
/-- A span's two cells. -/
def encS (x : S60) : List Value := [.int .i64 x.f0, .int .i64 x.f1]
/-- Does the read meet the span? -/
def meets (r1 r2 : Int) (s : S60) : Bool := decide (max r1 s.f0 < min r2 s.f1)
def touches (r1 r2 : Int) (ss : List S60) : Bool := ss.any (meets r1 r2)
set_option maxHeartbeats 1000000 in
theorem index_touched_pred (r1 r2 : Int) (b : Nat) (w : World) (h1 : w.cell? ⟨b, 3, none⟩ = some (.int .i64 r1)) (h2 : w.cell? ⟨b, 4, none⟩ = some (.int .i64 r2)) (x : S60) :
    Calls Try.prog 58 (#[.agg (encS x).toArray] ++ #[.pointer (some ⟨b, 0, none⟩)]) w fun e w' => e = .returned (.bool (meets r1 r2 x)) ∧ Below w.heap.size w w' := by
  have hu := Try.underlying60
  have hu47 := Try.underlying47
  show Calls Try.prog 58 #[.agg #[.int .i64 x.f0, .int .i64 x.f1], .pointer (some ⟨b, 0, none⟩)] w _
  have hb1 := cell?_alloc_some' (.cells #[.int .i64 x.f0, .int .i64 x.f1] 60) h1
  have hb2 := cell?_alloc_some' (.cells #[.int .i64 x.f0, .int .i64 x.f1] 60) h2
  clear h1 h2
  generalize hW : w.alloc (.cells #[.int .i64 x.f0, .int .i64 x.f1] 60) = W at hb1 hb2
  have HB : Aside0 (Below w.heap.size w W) := ⟨by rw [← hW]; exact (Below.refl _ _).alloc (Nat.le_refl _) _⟩
  have hc0 : W.cell? ⟨w.heap.size, 0, none⟩ = some (.int .i64 x.f0) := by rw [← hW]; exact new_cell _ _ _ rfl 0 _ rfl
  have hc1 : W.cell? ⟨w.heap.size, 1, none⟩ = some (.int .i64 x.f1) := by rw [← hW]; exact new_cell _ _ _ rfl 1 _ rfl
  go_enter Try.func58, Try.ntmps58
  go_wp2
  go_ret
  exact ⟨rfl, HB.out⟩
theorem plain_of_cell {w : World} {ad : Addr} {v : Value} (h : w.cell? ad = some v) : ad = ⟨ad.block, ad.off, none⟩ := by
  obtain ⟨b, o, s⟩ := ad
  cases s with
  | none => rfl
  | some s =>
    unfold World.cell? at h
    split at h <;> simp at h
theorem containsSpan_empty (A : Option Addr) (c : Nat) (gf : Nat) (lb : Array Value) (w : World) : Calls Try.prog 57 #[.slice A 0 c, .func (.func gf) #[] lb] w fun e w' => e = .returned (.bool false) ∧ w' = w := by
  have h70 : Calls Try.prog 70 #[.slice A 0 c, .func (.func gf) #[] lb] w fun e w' => e = .returned (.int .i64 (-1)) ∧ w' = w := by
    go_enter Try.func70, Try.ntmps70
    go_wp2
    go_loopg [5, 8] 0 (fun gg s5 s8 wr => s8 = .int .i64 0 ∧ wr = w)
    case atStart => exact ⟨rfl, rfl⟩
    case round =>
      obtain ⟨rfl, rfl⟩ := hrel
      go_wp2
      go_ret
      exact ⟨rfl, rfl⟩
  go_enter Try.func57, Try.ntmps57
  go_wp2_with (go_at_call 70; refine h70.mono ?_; rintro e w' ⟨rfl, rfl⟩)
  go_ret
  exact ⟨rfl, rfl⟩
theorem containsSpan_calls (A : Option Addr) (c : Nat) (ss : List S60) (p : S60 → Bool) (gf : Nat) (lb : Array Value) (eg : ∀ args w, (callFunc gf args).run Try.prog w = .ok (.enter gf args) w) (w : World) (hC : Kd.C k60 w A ss.length ss)
    (hp : PredBelow Try.prog gf lb (fun x => .agg (encS x).toArray) p w) :
    Calls Try.prog 57 #[.slice A ss.length c, .func (.func gf) #[] lb] w fun e w' => e = .returned (.bool (ss.any p)) ∧ Below w.heap.size w w' := by
  rcases Nat.eq_zero_or_pos ss.length with h0 | h0
  · have hs : ss = [] := List.eq_nil_of_length_eq_zero h0
    subst hs
    refine (containsSpan_empty A c gf lb w).mono ?_
    rintro e w' ⟨rfl, rfl⟩
    exact ⟨rfl, Below.refl _ _⟩
  · obtain ⟨ad, rfl, x0, _⟩ := at_T60 hC 0 (by omega) (by omega)
    have hpl := plain_of_cell (show w.cell? ad = _ from x0)
    have hlt := World.block_lt_of_cell? w _ (show w.cell? ad = _ from x0)
    obtain ⟨b, o, s⟩ := ad
    obtain rfl : s = none := by injection hpl
    have h := AnyQ.slices_ContainsFunc Try.containsSpan 2 Try.isAgg60 Try.sizeOf60 encS (fun _ => rfl) p gf lb eg b o ss.length c ss w hp (Nat.le_refl _) hC.2.1 hlt (fun j hj i v hi => by
      obtain ⟨ad, e, y0, y1⟩ := at_T60 hC (j : Int) (by omega) (by omega)
      injection e with e
      subst e
      have ha : (⟨b, o, none⟩ : Addr).add ((j : Int).toNat * 2) = ⟨b, o + j * 2, none⟩ := by rw [Addr.add_lit]; simp
      have hr : rd_T60 ss (j : Int) = ss[j]! := by simp [rd_T60, List.getD_eq_getElem?_getD, hj]
      rw [ha, hr] at y0 y1
      match i, hi with
      | 0, hi => exact y0.trans hi
      | 1, hi => exact y1.trans hi)
    rw [List.take_length] at h
    exact h
set_option maxHeartbeats 1000000 in
theorem index_touched_calls (r : S47) (A : Option Addr) (c : Nat) (ss : List S60) (w : World) (hC : Kd.C k60 w A ss.length ss) :
    Calls Try.prog 38 #[.agg #[.int .i64 r.f0.f0, .int .i64 r.f0.f1, .int .i64 r.f0.f2, .int .i64 r.f1, .int .i64 r.f2], .slice A ss.length c] w fun e w' => e = .returned (.bool (touches r.f1 r.f2 ss)) ∧ Below w.heap.size w w' := by
  have hu47 := Try.underlying47
  have h57 := containsSpan_calls A c ss (meets r.f1 r.f2) 58 #[.pointer (some ⟨w.heap.size, 0, none⟩)] (enters_of Try.func58 (by kernel_rfl) rfl) (w.alloc (.cells #[.int .i64 r.f0.f0, .int .i64 r.f0.f1, .int .i64 r.f0.f2, .int .i64 r.f1, .int .i64 r.f2] 47)) (Kd.C_alloc hC _)
    (fun W x hW => (index_touched_pred r.f1 r.f2 w.heap.size W ((hW.cell (p := ⟨w.heap.size, 3, none⟩) (by simp)).trans (new_cell _ _ _ rfl 3 _ rfl)) ((hW.cell (p := ⟨w.heap.size, 4, none⟩) (by simp)).trans (new_cell _ _ _ rfl 4 _ rfl)) x).mono (by
      rintro e w' ⟨rfl, h2⟩
      exact ⟨rfl, hW.trans (h2.mono hW.size)⟩))
  have H57 := Aside0.mk h57
  clear h57 hC
  go_enter Try.func38, Try.ntmps38
  go_wp2_with (go_at_call 57; refine H57.out.mono ?_; rintro e w' ⟨rfl, hb⟩)
  go_ret
  refine ⟨rfl, ((Below.refl _ w).alloc (Nat.le_refl _) _).trans (hb.mono (by simp))⟩
end Go.Proofs.Ytodmmckieoakjaa.P
namespace Go.Proofs.Ytodmmckieoakjaa.P
open Go.RowKit Go.Shelf Go.Maps Go.Proofs.YtodmmckieoakjaaW.PrintWords Go.Proofs.YtodmmckieoakjaaW.PrintLast Go.Proofs.YtodmmckieoakjaaW.PrintMore
attribute [local go_sem] Oper.semAt_some
set_option linter.unusedVariables false
set_option linter.unusedSimpArgs false
theorem new_blk2 (W : World) (o : Obj) {b : Nat} (hb : b = W.heap.size) : (W.alloc o).heap[b]? = some o := by subst hb; exact blk_new _ _
/-- A link that a change touches is put into the set. -/
def affPut (c : S63) (D : DataW Unit) (x : Lw) : DataW Unit := if touches x.1.f0.f1 x.1.f0.f2 c.f1 then D.put (.int .i64 x.1.f1) (.lit (.bool true)) else D
def affIn (c : S63) (D : DataW Unit) (ys : List Lw) : DataW Unit := ys.foldl (affPut c) D
def affAll (xs : List Lw) (D : DataW Unit) (cs : List S63) : DataW Unit := cs.foldl (fun D c => affIn c D (ofKey c.f0 xs)) D
theorem affIn_snoc (c : S63) (D : DataW Unit) (ys : List Lw) (x : Lw) : affIn c D (ys ++ [x]) = affPut c (affIn c D ys) x := by simp [affIn]
theorem affAll_snoc (xs : List Lw) (D : DataW Unit) (cs : List S63) (c : S63) : affAll xs D (cs ++ [c]) = affIn c (affAll xs D cs) (ofKey c.f0 xs) := by simp [affAll]
/-- The marks of the loops that are over. -/
def marks (Ds : List Nat) : List Deferred := Ds.map fun D => { target := .collected D, args := #[] }
/-- Every mark's block is turned, no other. -/
structure Turned (Ds : List Nat) (w w' : World) : Prop where
  os : w'.os = w.os
  tape : w'.tape = w.tape
  output : w'.output = w.output
  size : w'.heap.size = w.heap.size
  block : ∀ k, k ∉ Ds → w'.heap[k]? = w.heap[k]?
theorem leaves_marks {F : Fence} {n : Nat} {P : Program} {fn : Func} {tmps : Array Value} {R : Ending → World → Prop} (Ds : List Nat) : ∀ (w : World), Ds.Nodup → (∀ D ∈ Ds, w.heap[D]? = some (.deferred (some []))) →
    (∀ w', Turned Ds w w' → LeavesIn F n P fn tmps R [] .returning w') → LeavesInM F n P fn tmps R (marks Ds) .returning w := by
  induction Ds with
  | nil => intro w _ _ h; exact h w ⟨rfl, rfl, rfl, rfl, fun _ _ => rfl⟩
  | cons D Ds ih =>
    intro w hn hD h
    obtain ⟨hn1, hn2⟩ := List.nodup_cons.1 hn
    refine ⟨by simp, .inl ⟨D, _, rfl, run_takeDeferred (hD D (by simp)), ?_⟩⟩
    refine ih _ hn2 (fun D' h' => (World.putObj_heap_other (by rintro rfl; exact hn1 h')).trans (hD D' (by simp [h']))) (fun w' hw => h w' ⟨hw.os, hw.tape, hw.output, hw.size.trans (by simp [World.putObj]), fun k hk => ?_⟩)
    simp only [List.mem_cons, not_or] at hk
    exact (hw.block k hk.2).trans (World.putObj_heap_other hk.1)
/-- Where the walk of index.Affected stands: what lay lies; the box of the index, the box of the set, the set. -/
structure AffW (w : World) (v0 : Value) (b : Nat) (n : Nat) (D : DataW Unit) (W : World) : Prop where
  below : Below b w W
  links : W.heap[b]? = some (.cells #[v0] 28 (0, 0))
  box : W.heap[b + 2]? = some (.cells #[.map (some (b + 1))] 76 (0, 0))
  own : W.ownsMap Try.prog 3 (plainElem Try.prog 4) (b + 1) n D
theorem AffW.grown {w W W' : World} {v0 : Value} {b n : Nat} {D : DataW Unit} {row : Option Nat} (h : AffW w v0 b n D W) (hg : W.grownBy W' row) (hr : ∀ k, row = some k → b + 3 ≤ k) : AffW w v0 b n D W' := by
  have hlt := h.own.lt
  refine ⟨h.below.grown hg (by omega) (fun k e => by have := hr k e; omega), blk_grown h.links hg (fun e => by have := hr _ e.symm; omega), blk_grown h.box hg (fun e => by have := hr _ e.symm; omega), h.own.kept hg (fun e => by have := hr _ e.symm; omega)⟩
theorem AffW.put {w W W' : World} {v0 : Value} {b n n' : Nat} {D D' : DataW Unit} (h : AffW w v0 b n D W) (hg : W.grownBy W' (some (b + 1))) (ho : W'.ownsMap Try.prog 3 (plainElem Try.prog 4) (b + 1) n' D') : AffW w v0 b n' D' W' := by
  have hlt := h.own.lt
  exact ⟨h.below.grown hg (by omega) (fun k e => by injection e; omega), blk_grown h.links hg (fun e => by injection e; omega), blk_grown h.box hg (fun e => by injection e; omega), ho⟩
theorem AffW.mono {w W : World} {v0 : Value} {b n n' : Nat} {D : DataW Unit} (h : AffW w v0 b n D W) (hn : n ≤ n') : AffW w v0 b n' D W := ⟨h.below, h.links, h.box, h.own.mono hn⟩
theorem affW_own {β : Type} {w : World} {v0 : Value} {b B : Nat} (hB : b + 3 ≤ B) (n : β → Nat) (D : β → DataW Unit) : OwnFrom B (fun s W => AffW w v0 b (n s) (D s) W) :=
  fun s W W' row hs hg hr => hs.grown hg (fun k e => Nat.le_trans hB (hr k e).1)
end Go.Proofs.Ytodmmckieoakjaa.P
namespace Go.Proofs
open Go.Shelf Go.RowKit Go.Lib Go.Sort
def Try.keysInt_ren : Go.Shelf.Ren := ⟨fun | 7 => 40 | 10 => 61 | n => n, fun | 23 => 76 | 26 => 3 | 3 => 4 | 28 => 81 | 0 => 0 | 27 => 80 | 33 => 109 | 4 => 4 | n => n, fun | n => n⟩
theorem Try.keysInt : Go.Proofs.SlLaysZI.n7 Try.prog Try.keysInt_ren := {
  mixed := by kernel_rfl,
  f7 := ⟨Try.f40.name, by decide, Try.func40.trans (congrArg some (by kernel_rfl))⟩,
  f10 := ⟨Try.f61.name, by decide, Try.func61.trans (congrArg some (by kernel_rfl))⟩,
  t0 := Try.underlying0,
  a0 := Try.isAgg0,
  z0 := Try.sizeOf0,
  v0 := Try.zeroValue0,
  t4 := Try.underlying4,
  a4 := Try.isAgg4,
  z4 := Try.sizeOf4,
  v4 := Try.zeroValue4,
  t23 := Try.underlying76,
  a23 := Try.isAgg76,
  z23 := Try.sizeOf76,
  v23 := Try.zeroValue76,
  t26 := Try.underlying3,
  a26 := Try.isAgg3,
  z26 := Try.sizeOf3,
  v26 := Try.zeroValue3,
  t27 := Try.underlying80,
  a27 := Try.isAgg80,
  z27 := Try.sizeOf80,
  v27 := Try.zeroValue80,
  t28 := Try.underlying81,
  a28 := Try.isAgg81,
  z28 := Try.sizeOf81,
  v28 := Try.zeroValue81,
  t33 := Try.underlying109,
  a33 := Try.isAgg109,
  z33 := Try.sizeOf109,
  v33 := Try.zeroValue109 }
def Try.sortedInt_ren : Go.Shelf.Ren := ⟨fun | 6 => 39 | 8 => 59 | 9 => 60 | 11 => 71 | 13 => 68 | 12 => 72 | 23 => 84 | 24 => 85 | 14 => 86 | 15 => 87 | 16 => 88 | 17 => 89 | 18 => 90 | 19 => 91 | 20 => 92 | 21 => 93 | 22 => 94 | 25 => 108 | 26 => 104 | 27 => 105 | 28 => 109 | 29 => 110 | 30 => 69 | 31 => 115 | n => n, fun | 26 => 3 | 28 => 81 | 24 => 32 | 0 => 0 | 3 => 3 | 37 => 50 | 48 => 136 | 50 => 138 | 4 => 4 | 40 => 129 | 39 => 128 | 45 => 133 | 5 => 5 | 9 => 9 | 51 => 150 | 55 => 154 | 57 => 160 | 58 => 161 | 33 => 109 | n => n, fun | n => n⟩
theorem Try.sortedInt : Go.Proofs.SlLaysZI.n6 Try.prog Try.sortedInt_ren := {
  mixed := by kernel_rfl,
  f6 := ⟨Try.f39.name, by decide, Try.func39.trans (congrArg some (by kernel_rfl))⟩,
  f8 := ⟨Try.f59.name, by decide, Try.func59.trans (congrArg some (by kernel_rfl))⟩,
  f11 := ⟨Try.f71.name, by decide, Try.func71.trans (congrArg some (by kernel_rfl))⟩,
  t0 := Try.underlying0,
  a0 := Try.isAgg0,
  z0 := Try.sizeOf0,
  v0 := Try.zeroValue0,
  t24 := Try.underlying32,
  a24 := Try.isAgg32,
  z24 := Try.sizeOf32,
  v24 := Try.zeroValue32,
  t26 := Try.underlying3,
  a26 := Try.isAgg3,
  z26 := Try.sizeOf3,
  v26 := Try.zeroValue3,
  t28 := Try.underlying81,
  a28 := Try.isAgg81,
  z28 := Try.sizeOf81,
  v28 := Try.zeroValue81,
  i26 := by kernel_rfl }
def Try.sortInt_ren : Go.Shelf.Ren := ⟨fun | 5 => 60 | 8 => 68 | 7 => 72 | 19 => 84 | 20 => 85 | 10 => 86 | 11 => 87 | 12 => 88 | 13 => 89 | 14 => 90 | 15 => 91 | 16 => 92 | 17 => 93 | 18 => 94 | 30 => 108 | 31 => 104 | 32 => 105 | 33 => 109 | 34 => 110 | 35 => 69 | 40 => 115 | n => n, fun | 23 => 32 | 25 => 3 | 3 => 3 | 32 => 50 | 22 => 32 | 0 => 0 | 44 => 136 | 46 => 138 | 4 => 4 | 36 => 129 | 35 => 128 | 41 => 133 | 5 => 5 | 9 => 9 | 53 => 150 | 57 => 154 | 63 => 160 | 64 => 161 | n => n, fun | n => n⟩
theorem Try.sortInt : Go.Proofs.SlLaysM.n5 Try.prog Try.sortInt_ren := {
  mixed := by kernel_rfl,
  f5 := ⟨Try.f60.name, by decide, Try.func60.trans (congrArg some (by kernel_rfl))⟩,
  f7 := ⟨Try.f72.name, by decide, Try.func72.trans (congrArg some (by kernel_rfl))⟩,
  f8 := Try.func68.trans (congrArg some (by kernel_rfl)),
  f10 := ⟨Try.f86.name, by decide, Try.func86.trans (congrArg some (by kernel_rfl))⟩,
  f11 := ⟨Try.f87.name, by decide, Try.func87.trans (congrArg some (by kernel_rfl))⟩,
  f12 := ⟨Try.f88.name, by decide, Try.func88.trans (congrArg some (by kernel_rfl))⟩,
  f13 := ⟨Try.f89.name, by decide, Try.func89.trans (congrArg some (by kernel_rfl))⟩,
  f14 := ⟨Try.f90.name, by decide, Try.func90.trans (congrArg some (by kernel_rfl))⟩,
  f15 := ⟨Try.f91.name, by decide, Try.func91.trans (congrArg some (by kernel_rfl))⟩,
  f16 := ⟨Try.f92.name, by decide, Try.func92.trans (congrArg some (by kernel_rfl))⟩,
  f17 := ⟨Try.f93.name, by decide, Try.func93.trans (congrArg some (by kernel_rfl))⟩,
  f18 := ⟨Try.f94.name, by decide, Try.func94.trans (congrArg some (by kernel_rfl))⟩,
  f19 := Try.func84.trans (congrArg some (by kernel_rfl)),
  f20 := Try.func85.trans (congrArg some (by kernel_rfl)),
  f30 := ⟨Try.f108.name, by decide, Try.func108.trans (congrArg some (by kernel_rfl))⟩,
  f31 := Try.func104.trans (congrArg some (by kernel_rfl)),
  f32 := Try.func105.trans (congrArg some (by kernel_rfl)),
  f33 := ⟨Try.f109.name, by decide, Try.func109.trans (congrArg some (by kernel_rfl))⟩,
  f34 := ⟨Try.f110.name, by decide, Try.func110.trans (congrArg some (by kernel_rfl))⟩,
  f35 := ⟨Try.f69.name, by decide, Try.func69.trans (congrArg some (by kernel_rfl))⟩,
  f40 := ⟨Try.f115.name, by decide, Try.func115.trans (congrArg some (by kernel_rfl))⟩,
  t0 := Try.underlying0,
  a0 := Try.isAgg0,
  z0 := Try.sizeOf0,
  v0 := Try.zeroValue0,
  t3 := Try.underlying3,
  a3 := Try.isAgg3,
  z3 := Try.sizeOf3,
  v3 := Try.zeroValue3,
  t4 := Try.underlying4,
  a4 := Try.isAgg4,
  z4 := Try.sizeOf4,
  v4 := Try.zeroValue4,
  t5 := Try.underlying5,
  a5 := Try.isAgg5,
  z5 := Try.sizeOf5,
  v5 := Try.zeroValue5,
  t9 := Try.underlying9,
  a9 := Try.isAgg9,
  z9 := Try.sizeOf9,
  v9 := Try.zeroValue9,
  t22 := Try.underlying32,
  a22 := Try.isAgg32,
  z22 := Try.sizeOf32,
  v22 := Try.zeroValue32,
  t23 := Try.underlying32,
  a23 := Try.isAgg32,
  z23 := Try.sizeOf32,
  v23 := Try.zeroValue32,
  t25 := Try.underlying3,
  a25 := Try.isAgg3,
  z25 := Try.sizeOf3,
  v25 := Try.zeroValue3,
  t32 := Try.underlying50,
  a32 := Try.isAgg50,
  z32 := Try.sizeOf50,
  v32 := Try.zeroValue50,
  t35 := Try.underlying128,
  a35 := Try.isAgg128,
  z35 := Try.sizeOf128,
  v35 := Try.zeroValue128,
  t36 := Try.underlying129,
  a36 := Try.isAgg129,
  z36 := Try.sizeOf129,
  v36 := Try.zeroValue129,
  t41 := Try.underlying133,
  a41 := Try.isAgg133,
  z41 := Try.sizeOf133,
  v41 := Try.zeroValue133,
  t44 := Try.underlying136,
  a44 := Try.isAgg136,
  z44 := Try.sizeOf136,
  v44 := Try.zeroValue136,
  t46 := Try.underlying138,
  a46 := Try.isAgg138,
  z46 := Try.sizeOf138,
  v46 := Try.zeroValue138,
  t53 := Try.underlying150,
  a53 := Try.isAgg150,
  z53 := Try.sizeOf150,
  v53 := Try.zeroValue150,
  t57 := Try.underlying154,
  a57 := Try.isAgg154,
  z57 := Try.sizeOf154,
  v57 := Try.zeroValue154,
  t63 := Try.underlying160,
  a63 := Try.isAgg160,
  z63 := Try.sizeOf160,
  v63 := Try.zeroValue160,
  t64 := Try.underlying161,
  a64 := Try.isAgg161,
  z64 := Try.sizeOf161,
  v64 := Try.zeroValue161 }
end Go.Proofs
namespace Go.Proofs.Ytodmmckieoakjaa.P
open Go.RowKit Go.Shelf Go.Maps Go.Proofs.YtodmmckieoakjaaW.PrintWords Go.Proofs.YtodmmckieoakjaaW.PrintLast Go.Proofs.YtodmmckieoakjaaW.PrintMore
attribute [local go_sem] Oper.semAt_some
set_option linter.unusedVariables false
set_option linter.unusedSimpArgs false
theorem index_of_in (F : Fence) (n : Nat) (h37 : F.fn 37) (hro : F.round = none) (A : Option Addr) (m c : Nat) (k0 k1 k2 : Int) (w : World) :
    CallsIn F n Try.prog 37 #[.agg #[.slice A m c], .agg #[.int .i64 k0, .int .i64 k1, .int .i64 k2]] w fun e w' =>
      e = .returned (.func (.func 56) #[] #[.pointer (some ⟨w.heap.size, 0, none⟩), .pointer (some ⟨w.heap.size + 1, 0, none⟩)]) ∧ w' = (w.alloc (.cells #[.slice A m c] 28)).alloc (.cells #[.int .i64 k0, .int .i64 k1, .int .i64 k2] 45) := by
  have hu28 := Try.underlying28
  have hu45 := Try.underlying45
  refine callsIn_of_wp Try.func37 rfl h37 ?_ hro
  simp only [Try.ntmps37, List.size_toArray, List.length_cons, List.length_nil, Nat.reduceAdd, Nat.reduceSub, Array.replicate_succ, Array.replicate_zero, List.push_toArray, List.append_toArray, List.nil_append, List.cons_append]
  gi_wp2
  go_ret
  exact ⟨rfl, rfl⟩
theorem insert_length {H : Type} (x : Lit × DataW H) (l : List (Lit × DataW H)) : (DataW.insert x l).length = l.length + 1 := by
  induction l with
  | nil => rfl
  | cons y l ih => unfold DataW.insert; split <;> simp [ih]
theorem size_le {w : World} {P : Program} {k : TypeId} {R : Value → Option (DataW Unit × List MemPlace)} {b n : Nat} {D : DataW Unit} (h : w.ownsMap P k R b n D) : Maps.size D ≤ n := by
  obtain ⟨es, clock, _, _, hs, rfl⟩ := h
  refine Nat.le_trans (Nat.le_of_eq ?_) hs
  rw [Maps.size_eq]
  have : ∀ l : List (Lit × DataW Unit), (l.foldr DataW.insert []).length = l.length := by
    intro l
    induction l with
    | nil => rfl
    | cons y l ih => rw [List.foldr_cons, insert_length, ih]; rfl
  rw [this]
  simp
theorem Turned.R_int {Ds : List Nat} {w w' : World} (h : Turned Ds w w') (hD : ∀ D ∈ Ds, w.heap[D]? = some (.deferred (some []))) {base : Nat} {v : Value} {xs : List Int} (hr : Kd.R (Kd.int .i64) 3 w base (fun _ => True) v xs) : Kd.R (Kd.int .i64) 3 w' base (fun _ => True) v xs := by
  rcases Flat.rowAt_of_R flatI hr with ⟨rfl, rfl⟩ | ⟨g, cap, rfl, hb, hok, hra⟩
  · exact Kd.R_nil _ _ _ _ _
  · refine Flat.R_of_rowAt flatI hb hok (hra.of_heap (h.block g (fun hg => ?_)))
    obtain ⟨_, _, cur, hh, _⟩ := hra
    rw [hD g hg] at hh
    cases hh
theorem R_int_of_own {w : World} {base : Nat} {v : Value} {xs : List Int} (h : w.ownsRow base 3 1 v xs.length (xs.map encZ)) : Kd.R (Kd.int .i64) 3 w base (fun _ => True) v xs := by
  have e : ∀ xs : List Int, xs.map encZ = xs.flatMap (fun x => [.int .i64 x]) := fun xs => by
    induction xs with
    | nil => rfl
    | cons x xs ih => rw [List.map_cons, List.flatMap_cons, ih]; rfl
  rw [e] at h
  exact ⟨fun _ _ => trivial, _, h, Flat.flat_reps flatI _ _ _ _⟩
theorem Try.sortsInt (m : Nat) : AnyZI.SortsIn Try.prog Try.sortedInt_ren Fence.wide m :=
  ⟨fun blk off cap ss W hH hblk hsz => callsIn_wide.2 (AnyM.slices_Sort_int Try.sortInt blk off cap ss W hH hblk hsz),
   fun p cap W => callsIn_wide.2 (AnyM.slices_Sort_int_none Try.sortInt p cap W)⟩
set_option maxHeartbeats 4000000 in
set_option maxRecDepth 100000 in
theorem affected_walk (A0 : Option Addr) (c0 : Nat) (xs : List Lw) (A1 : Option Addr) (c1 : Nat) (l1 : List S63) (w : World) (hr0 : Kd.C k49 w A0 xs.length (xs.map (·.1))) (hr1 : Kd.C k63 w A1 l1.length l1) (hn0 : xs.length ≤ 100000) (hn1 : l1.length ≤ 100000) :
    CallsIn Fence.wide 6 Try.prog 21 #[.agg #[.slice A0 xs.length c0], .slice A1 l1.length c1] w fun e w' => ∃ v0_ : Value, e = .returned v0_ ∧ Kd.R (Kd.int .i64) 3 w' w.heap.size (fun _ => True) v0_ ((intKeys (affAll xs (.map []) l1)).mergeSort leI) ∧ Below w.heap.size w w' := by
  have hu28 := Try.underlying28
  have hu63 := Try.underlying63
  have hmm := @run_makeMap Try.prog
  have HR0 := Aside0.mk hr0
  have HR1 := Aside0.mk hr1
  clear hr0 hr1
  refine callsIn_of_wp_marks Try.func21 rfl trivial ?_ rfl
  simp only [Try.ntmps21, List.size_toArray, List.length_cons, List.length_nil, Nat.reduceAdd, Nat.reduceSub, Array.replicate_succ, Array.replicate_zero, List.push_toArray, List.append_toArray, List.nil_append, List.cons_append]
  gi_wp2
  generalize hW0 : World.alloc _ (Obj.cells #[.map (some (w.heap.size + 1))] 76) = W0
  have HA0 : Aside0 (AffW w (.slice A0 xs.length c0) w.heap.size 0 (.map []) W0) := ⟨by
    rw [← hW0]
    refine ⟨(((Below.refl _ w).alloc (Nat.le_refl _) _).alloc (by simp) _).alloc (by simp; omega) _, ?_, ?_, ?_⟩
    · exact (Below.heap_alloc _ _ _ (by simp; omega)).trans ((Below.heap_alloc _ _ _ (by simp)).trans (blk_new _ _))
    · exact new_blk2 _ _ (by simp)
    · have h := World.ownsMap_made (w.alloc (.cells #[.slice A0 xs.length c0] 28)) Try.prog 3 (plainElem (H := Unit) Try.prog 4)
      rw [World.size_alloc] at h
      exact h.alloc _⟩
  clear hW0
  refine wpIn_loop (fun a' W => ∃ (k : Nat) (Ds : List Nat) (u7 u13 u14 u15 u16 u17 u18 u19 u29 : Value), k ≤ l1.length ∧ Aside0 (AffW w (.slice A0 xs.length c0) w.heap.size (k * xs.length) (affAll xs (.map []) (l1.take k)) W) ∧ Aside0 (Ds.Nodup ∧ ∀ D ∈ Ds, w.heap.size + 3 ≤ D ∧ W.heap[D]? = some (.deferred (some []))) ∧
      a' = { tmps := #[.agg #[.slice A0 xs.length c0], .slice A1 l1.length c1, .pointer (some ⟨w.heap.size, 0, none⟩), undef, .slice none 0 0, .pointer (some ⟨w.heap.size + 1 + 1, 0, none⟩), undef, u7, undef, .map (some (w.heap.size + 1)), .slice A1 l1.length c1, .int .i64 l1.length, .int .i64 k, u13, u14, u15, u16, u17, u18, u19, undef, undef, undef, undef, undef, undef, undef, undef, undef, u29, undef, undef, undef], defers := marks Ds })
    (fun a' _ => l1.length - (intOf (a'.tmps.getD 12 undef)).toNat) ⟨0, [], undef, undef, undef, undef, undef, undef, undef, undef, undef, Nat.zero_le _, ⟨by simpa [affAll] using HA0.out⟩, ⟨List.nodup_nil, fun D hD => by cases hD⟩, rfl⟩ ?_
  clear HA0
  rintro _ wr ⟨k, Ds, u7, u13, u14, u15, u16, u17, u18, u19, u29, hk, HA, HD, rfl⟩
  have hbw := HA.out.below.size
  have hbl := HA.out.own.lt
  have HB := Aside0.mk HA.out.below
  have hlk : wr.cell? ⟨w.heap.size, 0, none⟩ = some (.slice A0 xs.length c0) := (blk_cell HA.out.links 0).trans rfl
  have hbx : wr.cell? ⟨w.heap.size + 2, 0, none⟩ = some (.map (some (w.heap.size + 1))) := (blk_cell HA.out.box 0).trans rfl
  by_cases hlt : k < l1.length
  · obtain ⟨ad, A3, c3, e, x0, x1, x2, x3, _, hC3⟩ := at_T63 HR1.out (k : Int) (by omega) (by omega)
    subst e
    rw [Int.toNat_natCast] at x0 x1 x2 x3
    obtain ⟨ch, HCH, hch⟩ : ∃ ch, Aside0 (ch = rd_T63 l1 (k : Int)) ∧ rd_T63 l1 (k : Int) = ch := ⟨_, ⟨rfl⟩, rfl⟩
    rw [hch] at x0 x1 x2 x3 hC3
    clear hch
    have HC3 := Aside0.mk hC3
    clear hC3
    replace x0 := pw_cell_below HB.out x0
    replace x1 := pw_cell_below HB.out x1
    replace x2 := pw_cell_below HB.out x2
    replace x3 := pw_cell_below HB.out x3
    replace hlk := cell?_alloc_some' (.cells #[.int .i64 ch.f0.f0, .int .i64 ch.f0.f1, .int .i64 ch.f0.f2, .slice A3 ch.f1.length c3] 63) hlk
    gi_wp2_with fail
    refine ⟨trivial, ?_⟩
    refine (index_of_in Fence.wide 5 trivial rfl _ _ _ _ _ _ _).mono ?_
    rintro e w' ⟨rfl, rfl⟩
    clear hlk hbx
    generalize hWn : World.alloc _ (Obj.cells #[.int .i64 ch.f0.f0, .int .i64 ch.f0.f1, .int .i64 ch.f0.f2] 45) = Wn
    have hgn : wr.grownBy Wn none := by
      rw [← hWn]
      exact Flat.grown_trans (Flat.grown_trans (World.grownBy_alloc wr _ none) (World.grownBy_alloc _ _ _)) (World.grownBy_alloc _ _ _)
    have hsn : Wn.heap.size = wr.heap.size + 3 := by rw [← hWn]; simp
    have HAn := Aside0.mk (HA.out.grown hgn (fun k e => by cases e))
    have HGn := Aside0.mk hgn
    have B63 : Aside0 (Wn.heap[wr.heap.size]? = some (.cells #[.int .i64 ch.f0.f0, .int .i64 ch.f0.f1, .int .i64 ch.f0.f2, .slice A3 ch.f1.length c3] 63 (0, 0))) := ⟨by
      rw [← hWn]
      exact (Below.heap_alloc _ _ _ (by simp; omega)).trans ((Below.heap_alloc _ _ _ (by simp)).trans (blk_new _ _))⟩
    have BI : Aside0 (Wn.heap[wr.heap.size + 1]? = some (.cells #[.slice A0 xs.length c0] 28 (0, 0))) := ⟨by
      rw [← hWn]
      exact (Below.heap_alloc _ _ _ (by simp)).trans (new_blk2 _ _ (by simp))⟩
    have BKy : Aside0 (Wn.heap[wr.heap.size + 1 + 1]? = some (.cells #[.int .i64 ch.f0.f0, .int .i64 ch.f0.f1, .int .i64 ch.f0.f2] 45 (0, 0))) := ⟨by
      rw [← hWn]
      exact new_blk2 _ _ (by simp)⟩
    clear hWn hgn x0 x1 x2 x3
    gi_wp2_with fail
    have hlw : ∀ a, some ad = some a → 0 < l1.length → a.block < w.heap.size := fun a e h0 => by
      injection e with e
      subst e
      obtain ⟨ad2, _, _, e2, y0, _⟩ := at_T63 HR1.out 0 (by omega) (by omega)
      injection e2 with e2
      subst e2
      exact World.block_lt_of_cell? w _ (show w.cell? ad = _ from y0)
    have hA0b : ∀ a, A0 = some a → 0 < xs.length → a.block < w.heap.size := fun a e h0 => by
      subst e
      obtain ⟨ad2, e2, y0, _⟩ := at_T49 HR0.out 0 (by omega) (by omega)
      injection e2 with e2
      subst e2
      exact World.block_lt_of_cell? w _ (show w.cell? a = _ from y0)
    have HA0b := Aside0.mk hA0b
    clear hA0b hlw
    refine wpIn_rangeFunc_ownH (F := Fence.wide) (n := 6) rfl (by omega) (gf := 56) (lb := #[.pointer (some ⟨wr.heap.size + 1, 0, none⟩), .pointer (some ⟨wr.heap.size + 1 + 1, 0, none⟩)]) rfl trivial (enters_of Try.func56 (by kernel_rfl) rfl)
      (of1_stops Fence.wide 5 trivial rfl (by omega) (wr.heap.size + 1) (wr.heap.size + 1 + 1) (fun j => j < Wn.heap.size ∧ j ≠ w.heap.size + 1) A0 c0 xs ch.f0 Wn ⟨by omega, by omega⟩ ⟨by omega, by omega⟩ (fun a e h0 => by have := HA0b.out a e h0; exact ⟨by omega, by omega⟩) (fun j hj => hj.1)
        ((blk_cell BI.out 0).trans rfl) ((blk_cell BKy.out 0).trans rfl) ((blk_cell BKy.out 1).trans rfl) ((blk_cell BKy.out 2).trans rfl) (Kd.C_below HR0.out HAn.out.below))
      (fun h k => KeptP.trans h k) (fun W l o o' hl _ _ _ => KeptP.putObj (fun j hj => by have := hj.1; omega)) (Below.refl _ _) (fun _ => rfl)
      (fun pre W => AffW w (.slice A0 xs.length c0) w.heap.size (k * xs.length + pre.length) (affIn ch (affAll xs (.map []) (l1.take k)) pre) W ∧ Wn.grownBy W (some (w.heap.size + 1)))
      (fun _ _ _ => False)
      (OwnFrom.and (affW_own (by omega) _ _) ?hI2)
      (fun _ _ _ _ _ hs _ _ => hs)
      ⟨by simpa [affIn] using HAn.out, ⟨rfl, rfl, rfl, Nat.le_refl _, fun _ _ _ => rfl⟩⟩
      (fun x a' W => ∃ Bx, Wn.heap.size ≤ Bx ∧ W.heap[Bx]? = some (.cells (encL x.1).toArray 49 (0, 0)) ∧ a' = { tmps := #[.agg #[.slice A0 xs.length c0], .slice (some ad) l1.length c1, .pointer (some ⟨w.heap.size, 0, none⟩), undef, .slice none 0 0, .pointer (some ⟨w.heap.size + 1 + 1, 0, none⟩), undef, .pointer (some ⟨wr.heap.size, 0, none⟩), .pointer (some ⟨Bx, 0, none⟩), .map (some (w.heap.size + 1)), .slice (some ad) l1.length c1, .int .i64 l1.length, .int .i64 k,
          .bool true, .pointer (some (ad.add (k * 4))), .agg #[.int .i64 ch.f0.f0, .int .i64 ch.f0.f1, .int .i64 ch.f0.f2, .slice A3 ch.f1.length c3], .agg #[.slice A0 xs.length c0], .pointer (some ⟨wr.heap.size, 0, none⟩), .agg #[.int .i64 ch.f0.f0, .int .i64 ch.f0.f1, .int .i64 ch.f0.f2], .func (.func 56) #[] #[.pointer (some ⟨wr.heap.size + 1, 0, none⟩), .pointer (some ⟨wr.heap.size + 1 + 1, 0, none⟩)], .agg (encL x.1).toArray, undef, undef, undef, undef, undef, undef, undef, undef, u29, undef, undef, undef], defers := [] })
      ?hAx ?assign ?body ?done ?stop
    case hI2 =>
      intro pre X Y row hs hg hr
      exact ⟨hg.os.trans hs.os, hg.tape.trans hs.tape, hg.output.trans hs.output, Nat.le_trans hs.size hg.size, fun j hj hne => (hg.block j (Nat.lt_of_lt_of_le hj hs.size) (fun e => by have := (hr j e.symm).1; omega)).trans (hs.block j hj hne)⟩
    case hAx =>
      rintro x a' _ X Y row ⟨Bx, hb, hx, rfl⟩ hg hr
      refine ⟨Bx, hb, (hg.block Bx (Array.getElem?_eq_some_iff.1 hx).1 (fun e => ?_)).trans hx, rfl⟩
      obtain ⟨_, o, ho, hc⟩ := hr Bx e.symm
      rw [hx] at ho
      cases ho
      cases hc
    case assign =>
      rintro l pre x W K ⟨hA, hg⟩ hK
      simp only [encL]
      gi_wp2
      refine hK _ _ ((KeepsOthers.alloc _ _).from _) ?_ ⟨hA.grown (World.grownBy_alloc W _ none) (fun k e => by cases e), Flat.grown_trans hg (World.grownBy_alloc _ _ _)⟩ ⟨W.heap.size, hg.size, World.alloc_heap_new W _, rfl⟩
      exact KeptP.of_grown (World.grownBy_alloc W _ none) (fun j hj => ⟨Nat.lt_of_lt_of_le hj.1 hg.size, by simp⟩)
    case stop =>
      rintro D c pre W _ _ h _
      exact h.elim
    case done =>
      rintro D ys W hD hys ⟨hA, hg⟩ hK
      subst hys
      have HAD := Aside0.mk hA
      have HDD : Aside0 ((D :: Ds).Nodup ∧ ∀ D' ∈ D :: Ds, w.heap.size + 3 ≤ D' ∧ W.heap[D']? = some (.deferred (some []))) := ⟨by
        have hlt : ∀ D' ∈ Ds, D' < wr.heap.size := fun D' h' => (Array.getElem?_eq_some_iff.1 (HD.out.2 D' h').2).1
        refine ⟨List.nodup_cons.2 ⟨fun h' => by have := hlt D h'; omega, HD.out.1⟩, fun D' h' => ?_⟩
        rcases List.mem_cons.1 h' with rfl | h'
        · exact ⟨by omega, hK⟩
        · have h1 := HD.out.2 D' h'
          have h2 := hlt D' h'
          exact ⟨h1.1, (hg.block D' (by omega) (fun e => by injection e; omega)).trans ((HGn.out.block D' h2 (by simp)).trans h1.2)⟩⟩
      clear hA hg hK
      have hle := ofKey_le ch.f0 xs xs.length
      rw [List.take_length] at hle
      gi_wp2
      refine ⟨⟨k + 1, D :: Ds, ?u1, ?u2, ?u3, ?u4, ?u5, ?u6, ?u7, ?u8, ?u9, hlt, ⟨?ga⟩, HDD, ?gb⟩, ?gc⟩
      case gb =>
        rw [show ((k + 1 : Nat) : Int) = (k : Int) + 1 by omega]
        rfl
      case ga =>
        have e1 : l1.take (k + 1) = l1.take k ++ [ch] := by
          rw [List.take_succ_eq_append_getElem hlt, HCH.out]
          simp [rd_T63, List.getD_eq_getElem?_getD, hlt]
        rw [e1, affAll_snoc]
        exact HAD.out.mono (by rw [Nat.add_mul]; omega)
      case gc =>
        simp [intOf]
        omega
    case body =>
      rintro l pre x a' W hl ⟨r, hlr⟩ ⟨hA, hg⟩ ⟨Bx, hBx, hx, rfl⟩ hlen
      have HAW := Aside0.mk hA
      have HGW := Aside0.mk hg
      simp only [encL] at hx
      have y0 : W.cell? ⟨Bx, 0, none⟩ = some (.int .i64 x.1.f0.f0.f0) := (blk_cell hx 0).trans rfl
      have y1 : W.cell? ⟨Bx, 1, none⟩ = some (.int .i64 x.1.f0.f0.f1) := (blk_cell hx 1).trans rfl
      have y2 : W.cell? ⟨Bx, 2, none⟩ = some (.int .i64 x.1.f0.f0.f2) := (blk_cell hx 2).trans rfl
      have y3 : W.cell? ⟨Bx, 3, none⟩ = some (.int .i64 x.1.f0.f1) := (blk_cell hx 3).trans rfl
      have y4 : W.cell? ⟨Bx, 4, none⟩ = some (.int .i64 x.1.f0.f2) := (blk_cell hx 4).trans rfl
      have y5 : W.cell? ⟨Bx, 5, none⟩ = some (.int .i64 x.1.f1) := (blk_cell hx 5).trans rfl
      have hb63 : W.heap[wr.heap.size]? = _ := (hg.block wr.heap.size (by omega) (fun e => by injection e; omega)).trans B63.out
      have z3 : W.cell? ⟨wr.heap.size, 3, none⟩ = some (.slice A3 ch.f1.length c3) := (blk_cell hb63 3).trans rfl
      have hbx : W.cell? ⟨w.heap.size + 2, 0, none⟩ = some (.map (some (w.heap.size + 1))) := (blk_cell hA.box 0).trans rfl
      have hBxl : Bx < W.heap.size := (Array.getElem?_eq_some_iff.1 hx).1
      have hWb : w.heap.size + 3 ≤ W.heap.size := by have := hg.size; omega
      clear hA hg hx hb63 hlr
      have hkx : k * xs.length ≤ 100000 * 100000 := Nat.mul_le_mul (by omega) hn0
      gi_wp2_with fail
      refine ⟨trivial, ?_⟩
      refine (CallsIn.inRound l (callsIn_wide.2 (index_touched_calls x.1.f0 A3 c3 ch.f1 W (Kd.C_below HC3.out HAW.out.below)))).mono ?_
      rintro e W2 ⟨rfl, hb2⟩
      have HA2 := Aside0.mk (HAW.out.grown (grown_of_below hb2 none) (fun k e => by cases e))
      have HG2 := Aside0.mk (Flat.grown_trans HGW.out (grown_of_below hb2 (some (w.heap.size + 1))))
      have HW2 := Aside0.mk (grown_of_below hb2 (some (w.heap.size + 1)))
      have hbx2 : W2.cell? ⟨w.heap.size + 2, 0, none⟩ = some (.map (some (w.heap.size + 1))) := (hb2.cell (p := ⟨w.heap.size + 2, 0, none⟩) (by show w.heap.size + 2 < _; omega)).trans hbx
      have hy5 : W2.cell? ⟨Bx, 5, none⟩ = some (.int .i64 x.1.f1) := (hb2.cell (p := ⟨Bx, 5, none⟩) hBxl).trans y5
      clear hb2 hbx y0 y1 y2 y3 y4 y5 z3
      have hex : affIn ch (affAll xs (.map []) (l1.take k)) (pre ++ [x]) = affPut ch (affIn ch (affAll xs (.map []) (l1.take k)) pre) x := affIn_snoc _ _ _ _
      unfold affPut at hex
      have HEX := Aside0.mk hex
      clear hex
      have hS : ∀ j, (j < Wn.heap.size ∧ j ≠ w.heap.size + 1) → j < W.heap.size ∧ some j ≠ some (w.heap.size + 1) := fun j hj => ⟨by have := HGW.out.size; omega, fun e => by injection e; omega⟩
      have HS := Aside0.mk hS
      clear hS
      cases ht : touches x.1.f0.f1 x.1.f0.f2 ch.f1 with
      | true =>
        rw [ht, if_pos rfl] at HEX
        clear ht
        have hnm : k * xs.length + pre.length < maxLen := by simp only [maxLen]; omega
        gi_wp2_with (gi_at_mapUpdate; refine wpListIn_mapUpdate_own _ rfl _ _ _ 76 rfl 3 4 (Maps.int_keyed Try.underlying3) Try.underlying76 _ (w.heap.size + 1) (k * xs.length + pre.length) _ rfl HA2.out.own hnm _ _ _ rfl rfl (Maps.keyOf_int_mk Try.underlying3 x.2) _ [] (plainElem_bool Try.underlying4 true) ?_; intro w1 hown1 hgrow1)
        have hg1 := Flat.grown_trans HW2.out hgrow1
        refine ⟨KeepsFrom.of_grownBy hg1 (fun j e => by cases e; omega), KeptP.of_grown hg1 HS.out, ?_, Flat.grown_trans HGW.out hg1⟩
        rw [HEX.out, List.length_append]
        exact HA2.out.put hgrow1 hown1
      | false =>
        rw [ht, if_neg (by simp)] at HEX
        clear ht
        gi_wp2
        refine ⟨KeepsFrom.of_grownBy HW2.out (fun j e => by cases e; omega), KeptP.of_grown HW2.out HS.out, ?_, HG2.out⟩
        rw [HEX.out, List.length_append]
        exact HA2.out.mono (by omega)
  · have hkn : k = l1.length := by omega
    have hown := HA.out.own
    rw [hkn, List.take_length, ← hkn] at hown
    have hkx : k * xs.length ≤ 100000 * 100000 := Nat.mul_le_mul (by omega) hn0
    have hsz : Maps.size (affAll xs (.map []) l1) ≤ 100000 * 100000 := Nat.le_trans (size_le hown) hkx
    have hseq : SeqGives Fence.wide 2 Try.prog 61 #[.pointer (some ⟨wr.heap.size, 0, none⟩)] encZ (fun ss => ss.Perm (intKeys (affAll xs (.map []) l1))) (Maps.size (affAll xs (.map []) l1)) (wr.alloc (.cells #[.map (some (w.heap.size + 1))] 76)) :=
      AnyZI.keys_gives (ρ := Try.keysInt_ren) { Try.keysInt with } Fence.wide _ trivial rfl (by omega) wr.heap.size (w.heap.size + 1) (k * xs.length) _ _ (by simp) (by simp) (by
        obtain ⟨es, clock, hb, Ft, hs, hD⟩ := hown
        exact ⟨es, clock, (Below.heap_alloc _ _ _ hbl).trans hb, Ft, hs, hD⟩)
    have cK : ∀ mb W, CallsIn Fence.wide 5 Try.prog 40 #[.map mb] W fun e w' => e = .returned (.func (.func 61) #[] #[.pointer (some ⟨W.heap.size, 0, none⟩)]) ∧ w' = W.alloc (.cells #[.map mb] 76) := fun mb W => AnyZI.keys_in Try.keysInt Fence.wide 5 trivial rfl mb W
    have cS := AnyZI.sorted_in Try.sortedInt Fence.wide 5 trivial trivial trivial trivial rfl (by omega) (Try.sortsInt _) (enters_of Try.func60 (by kernel_rfl) rfl) 61 #[.pointer (some ⟨wr.heap.size, 0, none⟩)] trivial (enters_of Try.func61 (by kernel_rfl) rfl) _ _ (by simp only [maxLen]; omega) (by omega) _ hseq
    change CallsIn _ _ Try.prog 39 _ _ _ at cS
    have hfK : Fence.wide.fn 40 := trivial
    have hfS : Fence.wide.fn 39 := trivial
    have CS := Aside0.mk cS
    clear cS hseq
    gi_wp2_with (first
      | (gi_at_call 40; refine (cK _ _).mono ?_; rintro e w' ⟨rfl, rfl⟩)
      | (gi_at_call 39; refine CS.out.mono ?_; rintro e w' ⟨v, ss, rfl, hS, hrow, hnil, hb⟩))
    have hHD : ∀ D ∈ Ds, w'.heap[D]? = some (.deferred (some [])) := fun D hD => by
      have h1 := (HD.out.2 D hD).2
      have h2 := (Array.getElem?_eq_some_iff.1 h1).1
      exact (hb.block D (by simp; omega)).trans ((Below.heap_alloc _ _ _ h2).trans h1)
    refine leaves_marks Ds _ HD.out.1 hHD (fun w2 hw => ?_)
    refine ⟨_, results_tmp rfl _ _ _, v, rfl, ?_, ?_⟩
    · refine hw.R_int hHD ?_
      rw [← mergeSort_of_perm_i hS]
      refine R_int_of_own ?_
      have hl : (ss.mergeSort leI).length = ss.length := (List.mergeSort_perm ss leI).length_eq
      rw [hl]
      exact ownsRow_base_a hrow (by simp; omega)
    · have hb1 : Below w.heap.size w w' := (HB.out.alloc hbw _).trans (hb.mono (by simp; omega))
      exact ⟨hw.os.trans hb1.os, hw.tape.trans hb1.tape, hw.output.trans hb1.output, by rw [hw.size]; exact hb1.size, fun j hj => (hw.block j (fun h => by have := (HD.out.2 j h).1; omega)).trans (hb1.block j hj)⟩
def index_Affected.f (l0 : List S49) (l1 : List S63) : Option (List Int) :=
  if h : l0.length ≤ 100000 ∧ l1.length ≤ 100000 ∧ (∀ x ∈ l0, (Lit.int .i64 x.f1).wf = true) then some ((intKeys (affAll (l0.attachWith _ h.2.2) (.map []) l1)).mergeSort leI) else none
theorem index_Affected.calls (A0 : Option Addr) (c0 : Nat) (l0 : List S49) (A1 : Option Addr) (c1 : Nat) (l1 : List S63) (r : List Int) (w : World) (hr0 : Kd.C k49 w A0 l0.length l0) (hc0 : l0.length ≤ c0) (hr1 : Kd.C k63 w A1 l1.length l1) (hc1 : l1.length ≤ c1) (h : index_Affected.f l0 l1 = some r) :
    Calls Try.prog 21 #[.agg #[.slice A0 l0.length c0], .slice A1 l1.length c1] w fun e w' => ∃ v0_ : Value, e = .returned v0_ ∧ Kd.R (Kd.int .i64) 3 w' w.heap.size (fun _ => True) v0_ r ∧ Below w.heap.size w w' := by
  unfold index_Affected.f at h
  split at h
  · rename_i hh
    injection h with h
    subst h
    have hl : (l0.attachWith _ hh.2.2).length = l0.length := by simp
    have hv : (l0.attachWith _ hh.2.2).map (·.1) = l0 := by simp
    have hr : Kd.C k49 w A0 (l0.attachWith _ hh.2.2).length ((l0.attachWith _ hh.2.2).map (·.1)) := by rw [hl, hv]; exact hr0
    have := affected_walk A0 c0 (l0.attachWith _ hh.2.2) A1 c1 l1 w hr hr1 (by rw [hl]; exact hh.1) hh.2.1
    rw [hl] at this
    exact callsIn_wide.1 this
  · cases h
end Go.Proofs.Ytodmmckieoakjaa.P
namespace Go.Proofs.Ytodmmckieoakjaa.P
open Go.RowKit Go.Proofs.YtodmmckieoakjaaW.PrintWords Go.Proofs.YtodmmckieoakjaaW.PrintLast Go.Proofs.YtodmmckieoakjaaW.PrintMore
open Go.Lib Go.Sort
set_option linter.unusedVariables false
set_option linter.unusedSimpArgs false
/-- What a predicate does not name. -/
def delL (p : S49 → Bool) (xs : List S49) : List S49 := xs.filter fun x => !p x
theorem firstOf (p : S49 → Bool) (xs : List S49) : (∀ i, i < xs.length → p xs[i]! = false) ∨ ∃ j, j < xs.length ∧ p xs[j]! = true ∧ ∀ i, i < j → p xs[i]! = false := by
  by_cases h : xs.findIdx p < xs.length
  · refine .inr ⟨_, h, ?_, fun i hi => ?_⟩
    · rw [getElem!_pos xs _ h]; exact List.findIdx_getElem (w := h)
    · rw [getElem!_pos xs i (by omega)]; simpa using List.not_of_lt_findIdx hi
  · refine .inl fun i hi => ?_
    have := List.not_of_lt_findIdx (p := p) (xs := xs) (i := i) (by omega)
    rw [getElem!_pos xs i hi]; simpa using this
theorem delL_none {p : S49 → Bool} {xs : List S49} (h : ∀ i, i < xs.length → p xs[i]! = false) : delL p xs = xs := by
  refine List.filter_eq_self.2 fun x hx => ?_
  obtain ⟨i, hi, rfl⟩ := List.getElem_of_mem hx
  have := h i hi
  rw [getElem!_pos xs i hi] at this
  simp [this]
/-- What lies in the row when i elements are read and kk kept. -/
structure DelInv (p : S49 → Bool) (xs : List S49) (i kk : Nat) (dk : List S49) : Prop where
  len : dk.length = xs.length
  lt : kk < i
  le : i ≤ xs.length
  low : dk.take kk = delL p (xs.take i)
  high : ∀ j, i ≤ j → dk[j]! = xs[j]!
theorem take_succ! (xs : List S49) (i : Nat) (h : i < xs.length) : xs.take (i + 1) = xs.take i ++ [xs[i]!] := by
  rw [List.take_add_one, getElem!_pos xs i h, List.getElem?_eq_getElem h]; rfl
theorem DelInv.start {p : S49 → Bool} {xs : List S49} {j : Nat} (h1 : j < xs.length) (h2 : p xs[j]! = true) (h3 : ∀ i, i < j → p xs[i]! = false) : DelInv p xs (j + 1) j xs := by
  refine ⟨rfl, Nat.lt_succ_self _, h1, ?_, fun _ _ => rfl⟩
  rw [take_succ! xs j h1, delL, List.filter_append]
  have : List.filter (fun x => !p x) (xs.take j) = xs.take j := delL_none fun i hi => by
    rw [List.length_take] at hi
    have := h3 i (by omega)
    rw [getElem!_pos xs i (by omega)] at this
    rw [getElem!_pos (xs.take j) i (by rw [List.length_take]; omega), List.getElem_take]
    exact this
  rw [this]
  rw [List.filter_cons_of_neg (by simp only [h2]; decide), List.filter_nil, List.append_nil]
theorem DelInv.skip {p : S49 → Bool} {xs dk : List S49} {i kk : Nat} (h : DelInv p xs i kk dk) (hi : i < xs.length) (hp : p xs[i]! = true) : DelInv p xs (i + 1) kk dk := by
  refine ⟨h.len, Nat.lt_succ_of_lt h.lt, hi, ?_, fun j hj => h.high j (by omega)⟩
  rw [take_succ! xs i hi, delL, List.filter_append, h.low, delL]
  rw [List.filter_cons_of_neg (by simp only [hp]; decide), List.filter_nil, List.append_nil]
theorem DelInv.keep {p : S49 → Bool} {xs dk : List S49} {i kk : Nat} (h : DelInv p xs i kk dk) (hi : i < xs.length) (hp : p xs[i]! = false) : DelInv p xs (i + 1) (kk + 1) (dk.set kk xs[i]!) := by
  have hk : kk < dk.length := by have := h.len; have := h.lt; omega
  refine ⟨by rw [List.length_set]; exact h.len, Nat.succ_lt_succ h.lt, hi, ?_, fun j hj => ?_⟩
  · rw [take_succ! xs i hi, delL, List.filter_append, List.take_add_one, List.getElem?_set_self hk]
    have : (dk.set kk xs[i]!).take kk = dk.take kk := by
      apply List.ext_getElem?
      intro t
      rw [List.getElem?_take, List.getElem?_take]
      split
      · rw [List.getElem?_set_ne (by omega)]
      · rfl
    rw [this, h.low, delL, List.filter_cons_of_pos (by simp only [hp]; decide), List.filter_nil]; rfl
  · have := h.lt
    have := h.high j (by omega)
    rw [← this]
    simp [List.getElem!_eq_getElem?_getD, List.getElem?_set_ne (show kk ≠ j by omega)]
set_option maxHeartbeats 4000000 in
set_option maxRecDepth 100000 in
theorem slices_DeleteFunc_link {base : Nat} {ok : Nat → Prop} {g c : Nat} {xs : List S49} {w : World} (p : S49 → Bool) (gf : Nat) (lb : Array Value) (eg : ∀ args w, (callFunc gf args).run Try.prog w = .ok (.enter gf args) w)
    (h : k49.R 49 w base ok (.slice (some ⟨g, 0, none⟩) xs.length c) xs)
    (hp : ∀ (W : World) (x : S49), w.grownBy W (some g) → Calls Try.prog gf (#[.agg (encL x).toArray] ++ lb) W fun e w' => e = .returned (.bool (p x)) ∧ Below W.heap.size W w') :
    Calls Try.prog 34 #[.slice (some ⟨g, 0, none⟩) xs.length c, .func (.func gf) #[] lb] w fun e w' => e = .returned (.slice (some ⟨g, 0, none⟩) (delL p xs).length c) ∧ k49.R 49 w' base ok (.slice (some ⟨g, 0, none⟩) (delL p xs).length c) (delL p xs) ∧ w.grownBy w' (some g) := by
  have HH := Aside0.mk h
  have hm : xs.length ≤ 9223372036854775807 := (Kd.R_reads' h).2.2.2.1
  have hc0 := (Kd.R_reads' h).2.1
  have hgl : g < w.heap.size := Kd.R_lt h g rfl
  have HP := Aside0.mk hp
  clear hp h
  have HIX : Aside0 (Calls Try.prog 55 #[.slice (some ⟨g, 0, none⟩) xs.length c, .func (.func gf) #[] lb] w fun e w' => e = .returned (.int .i64 (Lib.idxBy (fun _ y => p y) (xs.take xs.length) default)) ∧ Below w.heap.size w w') := ⟨by
    refine AnyQ.slices_IndexFunc Try.indexLink 6 Try.isAgg49 Try.sizeOf49 encL encL_len p gf lb eg g 0 xs.length c xs w (fun W x hb => (HP.out W x (grown_of_below hb _)).mono ?_) (Nat.le_refl _) hm hgl (fun j hj i v hi => ?_)
    · rintro e w' ⟨rfl, h2⟩
      exact ⟨rfl, hb.trans (h2.mono hb.size)⟩
    · obtain ⟨e0, e1, e2, e3, e4, e5⟩ := cellsL HH.out j hj
      have hx : xs.toArray[j]! = xs[j]! := by simp
      rw [hx] at e0 e1 e2 e3 e4 e5
      rw [Nat.zero_add]
      match i, hi with
      | 0, hi => exact e0.trans hi
      | 1, hi => exact e1.trans hi
      | 2, hi => exact e2.trans hi
      | 3, hi => exact e3.trans hi
      | 4, hi => exact e4.trans hi
      | 5, hi => exact e5.trans hi⟩
  rcases firstOf p xs with hno | ⟨j, hj, hpj, hbj⟩
  · have HD := Aside0.mk (delL_none hno)
    replace HIX := (Lib.idxBy_miss (fun _ y => p y) xs xs.length default hno) ▸ HIX
    clear hno
    go_enter Try.func34, Try.ntmps34
    go_wp2_with (go_at_call 55; refine HIX.out.mono ?_; rintro e w' ⟨rfl, hb'⟩)
    go_ret
    rw [HD.out]
    exact ⟨rfl, Kd.R_below HH.out hb', grown_of_below hb' _⟩
  · have HIV := Aside0.mk (DelInv.start hj hpj hbj)
    replace HIX := (Lib.idxBy_hit (fun _ y => p y) xs xs.length j default hj (Nat.le_refl _) hpj hbj) ▸ HIX
    clear hpj hbj
    go_enter Try.func34, Try.ntmps34
    go_wp2_with (go_at_call 55; refine HIX.out.mono ?_; rintro e w1 ⟨rfl, hb1⟩; have HB1 := Aside0.mk hb1; clear hb1)
    go_loopg [5, 6] xs.length (fun gg s5 s6 wr => ∃ (kk i : Nat) (dk : List S49), s5 = .int .i64 kk ∧ s6 = .int .i64 i ∧ i ≤ xs.length ∧ xs.length - i ≤ gg ∧ Aside0 (DelInv p xs i kk dk) ∧ Aside0 (k49.R 49 wr base ok (.slice (some ⟨g, 0, none⟩) xs.length c) dk) ∧ Aside0 (w.grownBy wr (some g)))
    case atStart => exact ⟨j, j + 1, xs, rfl, by go_num, hj, by omega, HIV, ⟨Kd.R_below HH.out HB1.out⟩, ⟨grown_of_below HB1.out _⟩⟩
    case round =>
      obtain ⟨kk, i, dk, rfl, rfl, hi, hg, HI, HO, HG⟩ := hrel
      have hkk := HI.out.lt
      have HL := HI.out.len
      by_cases hlt : i < xs.length
      · obtain ⟨a0, a1, a2, a3, a4, a5⟩ := cellsL HO.out i (by rw [HL]; exact hlt)
        have hx : dk.toArray[i]! = xs[i]! := by rw [← HI.out.high i (Nat.le_refl _)]; simp
        rw [hx] at a0 a1 a2 a3 a4 a5
        clear hx
        obtain ⟨x, HX, hx⟩ : ∃ x, Aside0 (x = xs[i]!) ∧ xs[i]! = x := ⟨_, ⟨rfl⟩, rfl⟩
        rw [hx] at a0 a1 a2 a3 a4 a5
        clear hx
        go_wp2_with fail
        clear a0 a1 a2 a3 a4 a5
        refine (HP.out _ x (Flat.grown_trans HG.out (World.grownBy_alloc _ _ _))).mono ?_
        rintro e w2 ⟨rfl, hb2⟩
        have HB2 := Aside0.mk hb2
        clear hb2
        have HG2 : Aside0 (w.grownBy w2 (some g)) := ⟨Flat.grown_trans (Flat.grown_trans HG.out (World.grownBy_alloc _ _ _)) (grown_of_below HB2.out _)⟩
        have HO2 : Aside0 (k49.R 49 w2 base ok (.slice (some ⟨g, 0, none⟩) xs.length c) dk) := ⟨Kd.R_below (Kd.R_alloc HO.out _) HB2.out⟩
        have BK : Aside0 (w2.heap[wr.heap.size]? = some (.cells (encL x).toArray 49 (0, 0))) := ⟨(HB2.out.block _ (by simp)).trans (blk_new wr _)⟩
        cases hpx : p x with
        | true =>
          go_wp2
          go_roundg (xs.length - (i + 1))
          case measure => omega
          case rel => exact ⟨kk, i + 1, dk, rfl, by go_num, hlt, Nat.le_refl _, ⟨HI.out.skip hlt (by rw [← HX.out]; exact hpx)⟩, HO2, HG2⟩
        | false =>
          have b0 : w2.cell? ⟨wr.heap.size, 0, none⟩ = some (.int .i64 x.f0.f0.f0) := (blk_cell BK.out 0).trans rfl
          have b1 : w2.cell? ⟨wr.heap.size, 1, none⟩ = some (.int .i64 x.f0.f0.f1) := (blk_cell BK.out 1).trans rfl
          have b2 : w2.cell? ⟨wr.heap.size, 2, none⟩ = some (.int .i64 x.f0.f0.f2) := (blk_cell BK.out 2).trans rfl
          have b3 : w2.cell? ⟨wr.heap.size, 3, none⟩ = some (.int .i64 x.f0.f1) := (blk_cell BK.out 3).trans rfl
          have b4 : w2.cell? ⟨wr.heap.size, 4, none⟩ = some (.int .i64 x.f0.f2) := (blk_cell BK.out 4).trans rfl
          have b5 : w2.cell? ⟨wr.heap.size, 5, none⟩ = some (.int .i64 x.f1) := (blk_cell BK.out 5).trans rfl
          have hkd : kk < dk.length := by omega
          have HCC : Aside0 (∀ j u', (encL dk.toArray[kk]!)[j]? = some u' → w2.cell? ⟨g, (kk : Int).toNat * k49.sz + j, none⟩ = some u') := ⟨by
            obtain ⟨e0, e1, e2, e3, e4, e5⟩ := cellsL HO2.out kk hkd
            intro j u' hj
            show w2.cell? ⟨g, kk * 6 + j, none⟩ = some u'
            match j, hj with
            | 0, hj => exact e0.trans hj
            | 1, hj => exact e1.trans hj
            | 2, hj => exact e2.trans hj
            | 3, hj => exact e3.trans hj
            | 4, hj => exact e4.trans hj
            | 5, hj => exact e5.trans hj⟩
          go_wp2_with ((with_reducible refine gate_ (.store 49 (.tmp 33) (.tmp 32)) rfl ?_); refine Kd.R_store k49 (w0 := w2) base rfl rfl 49 (.tmp 33) (.tmp 32) rfl 49 (kk : Int) 0 dk x (.agg (encL x).toArray) (encL x) (encL dk.toArray[kk]!) ok (fun _ => False) rfl rfl rfl rfl (by kernel_rfl) (encL_one x) HO2.out (by omega) (by omega) rfl HCC.out (Nat.le_refl _) (k49_M _ _ _ _) (fun _ h => h.elim) (Below.refl _ _) ?_; intro w3 hr3 hb3 hg3; have HR3 := Aside0.mk hr3; have HG3 := Aside0.mk hg3; clear hr3 hb3 hg3)
          go_roundg (xs.length - (i + 1))
          case measure => omega
          case rel => exact ⟨kk + 1, i + 1, dk.set kk x, by go_num, by go_num, hlt, Nat.le_refl _, ⟨by rw [HX.out]; exact HI.out.keep hlt (by rw [← HX.out]; exact hpx)⟩, HR3, ⟨Flat.grown_trans HG2.out HG3.out⟩⟩
      · have hend : i = xs.length := by omega
        have HCL : ∃ W2, Aside0 (k49.R 49 W2 base ok (.slice (some ⟨g, 0, none⟩) kk c) (dk.take kk)) ∧ Aside0 (w.grownBy W2 (some g)) ∧ ∀ ty, (Builtin.clear_ #[26] ty #[.slice (some ⟨g, kk * 6, none⟩) (xs.length - kk) (c - kk)]).run Try.prog wr = .ok (.tuple #[]) W2 := by
          have hkn : kk ≤ dk.length := by omega
          rcases Flat.rowAt_of_R flatL HO.out with ⟨hv, _⟩ | ⟨g', cap, hv, hb, hok, hr⟩
          · cases hv
          · injection hv with e1 e2 e3
            injection e1 with e1
            injection e1 with e1
            subst e1 e3
            have hr2 := (hr.cut flatL hkn).over (o := kk * 6) (seg := (Builtin.zeroCells (Value.agg #[.int .i64 0, .int .i64 0, .int .i64 0, .int .i64 0, .int .i64 0, .int .i64 0]).cells (xs.length - kk)).toList) (by rw [List.length_take, Nat.min_eq_left hkn]; exact Nat.le_refl _)
            have hlt : (dk.take kk).length = kk := by rw [List.length_take, Nat.min_eq_left hkn]
            have h3 := Flat.R_of_rowAt flatL hb hok hr2
            rw [hlt] at h3
            refine ⟨_, ⟨h3⟩, ⟨Flat.grown_trans HG.out Flat.grown_setCells⟩, fun ty => ?_⟩
            obtain ⟨hnc, hcm, cur, hh, hcs, _⟩ := hr
            refine Flat.run_clear_row 26 49 ty _ Try.underlying26 Try.zeroValue49 (by decide) hh (by omega) ?_
            show kk * 6 + (xs.length - kk) * 6 ≤ cur.size
            rw [hcs, ← Nat.add_mul]
            exact Nat.mul_le_mul_right _ (by omega)
        obtain ⟨W2, HR2, HG2, hcl⟩ := HCL
        have e1 : delL p xs = dk.take kk := by
          have h1 := HI.out.low
          rw [hend, List.take_length] at h1
          exact h1.symm
        have HE1 := Aside0.mk e1
        have HE2 : Aside0 ((dk.take kk).length = kk) := ⟨by rw [List.length_take]; omega⟩
        clear e1
        go_wp2
        go_ret
        rw [HE1.out, HE2.out]
        exact ⟨rfl, HR2.out, HG2.out⟩
theorem slices_DeleteFunc_nil (p : S49 → Bool) (gf : Nat) (lb : Array Value) (w : World) : Calls Try.prog 34 #[.slice none 0 0, .func (.func gf) #[] lb] w fun e w' => e = .returned (.slice none 0 0) ∧ w' = w := by
  have h55 : Calls Try.prog 55 #[.slice none 0 0, .func (.func gf) #[] lb] w fun e w' => e = .returned (.int .i64 (-1)) ∧ w' = w := by
    go_enter Try.func55, Try.ntmps55
    go_wp2
    go_loopg [5, 8] 0 (fun gg s5 s8 wr => s8 = .int .i64 0 ∧ wr = w)
    case atStart => exact ⟨rfl, rfl⟩
    case round =>
      obtain ⟨rfl, rfl⟩ := hrel
      go_wp2
      go_ret
      exact ⟨rfl, rfl⟩
  go_enter Try.func34, Try.ntmps34
  go_wp2_with (go_at_call 55; refine h55.mono ?_; rintro e w' ⟨rfl, rfl⟩)
  go_ret
  exact ⟨rfl, rfl⟩
set_option maxHeartbeats 2000000 in
set_option maxRecDepth 100000 in
/-- slices.Clone, of whatever row of links. -/
theorem slices_Clone_link {A : Option Addr} {c : Nat} {xs : List S49} {w : World} (h : Kd.C k49 w A xs.length xs) (hN : xs.length * 48 ≤ 140737488355328) :
    Calls Try.prog 35 #[.slice A xs.length c] w fun e w' => ∃ v, e = .returned v ∧ k49.R 49 w' w.heap.size (fun _ => True) v xs ∧ Below w.heap.size w w' := by
  cases A with
  | none =>
    have hx : xs = [] := by
      rcases Nat.eq_zero_or_pos xs.length with h0 | h0
      · exact List.eq_nil_of_length_eq_zero h0
      · obtain ⟨ad, e, _⟩ := h.2.2 h0
        cases e
    subst hx
    refine (AnyE.slices_Clone_nil Try.cloneLink 0 c w).mono ?_
    rintro e w' ⟨rfl, rfl⟩
    exact ⟨_, rfl, Kd.R_nil k49 49 _ _ _, Below.refl _ _⟩
  | some ad =>
    have HNEWS : Aside0 (∀ j u, (xs.flatMap encL)[j]? = some u → w.cell? (ad.add j) = some u) := ⟨by
      rcases Nat.eq_zero_or_pos xs.length with h0 | h0
      · have hx : xs = [] := List.eq_nil_of_length_eq_zero h0
        subst hx
        intro j u hj; simp at hj
      · obtain ⟨news, hnr, hnc⟩ := ReadsRow.inner_ h
        have hnM : Reps (k49.M w 0 (fun _ => True)) k49.sz xs news := hnr.imp_ (fun p c hp => k49_M_iff.2 (flatL.K hp))
        have := Flat.reps_flat flatL hnM
        subst this
        exact hnc⟩
    have hl : (xs.flatMap encL).length = xs.length * 6 := Flat.flat_len flatL xs
    have h1 : ∀ u ∈ xs.flatMap encL, u.oneCell' = true := by
      intro u hu
      rw [List.mem_flatMap] at hu
      obtain ⟨p, _, hu⟩ := hu
      exact encL_one p u hu
    obtain ⟨i0, hi, hzz⟩ := Option.map_eq_some_iff.1 info49
    simp only [Prod.mk.injEq] at hzz
    obtain ⟨hz0, hz1, hz2⟩ := hzz
    have H1 := Aside0.mk h1
    clear h1 h
    have q26 : ∀ (w : World) (a : Option Addr) (n c n' c' : Nat), (binOp .eql 26 (.slice a n c) (.slice none n' c')).run Try.prog w = .ok (.bool a.isNone) w := fun w a n c n' c' => Lib.run_eql_slice_nil w _ _ a n c n' c' Try.underlying26
    go_enter Try.func35, Try.ntmps35
    go_wp2_with ((with_reducible refine gate_builtin (b := .append) (xs := #[.tmp 5, .tmp 6]) rfl ?_); at_builtin; refine wpList_append_own _ rfl _ _ 26 rfl w.heap.size 49 i0 _ 6 48 Try.underlying26 hi hz0 hz1 hz2 rfl (by decide) _ _ _ rfl (World.ownsRow_made w #[] 0 (Nat.le_refl _) (Nat.zero_le _) (by simp)) ad xs.length c (xs.flatMap encL) rfl ?qc1 ?qc2 ?qc3 ?qc4 ?qc5 ?qc6 ?_)
    case qc1 => exact hl
    case qc2 =>
      intro j u hj
      exact Lib.cell?_alloc_some _ (HNEWS.out j u hj)
    case qc3 => exact H1.out
    case qc4 => rw [Nat.zero_add]; simp only [maxLen]; omega
    case qc5 => rw [Nat.zero_add]; exact hN
    case qc6 => simp
    intro v' w1 hown hgrow hnil
    go_wp2
    go_ret
    refine ⟨v', rfl, ⟨fun _ _ => trivial, xs.flatMap encL, (show w1.ownsRow w.heap.size 49 6 v' xs.length (xs.flatMap encL) from by simpa using hown), Flat.flat_reps flatL _ _ _ _⟩, ?_⟩
    exact ((Below.refl _ w).alloc (Nat.le_refl _) _).grown hgrow (by simp) (by intro k hk; simp [Value.ownBlock] at hk; omega)
end Go.Proofs.Ytodmmckieoakjaa.P
namespace Go.Proofs.Ytodmmckieoakjaa.P
open Go.RowKit Go.Proofs.YtodmmckieoakjaaW.PrintWords Go.Proofs.YtodmmckieoakjaaW.PrintLast Go.Proofs.YtodmmckieoakjaaW.PrintMore
set_option linter.unusedVariables false
set_option linter.unusedSimpArgs false
/-- The links that come from elsewhere. -/
def elseL (a : Int) (xs : List S49) : List S49 := delL (fun x => x.f1 == a) xs
theorem index_Replace_pred (a : Int) (b : Nat) (w : World) (hb : w.cell? ⟨b, 0, none⟩ = some (.int .i64 a)) (x : S49) :
    Calls Try.prog 36 (#[.agg (encL x).toArray] ++ #[.pointer (some ⟨b, 0, none⟩)]) w fun e w' => e = .returned (.bool (x.f1 == a)) ∧ Below w.heap.size w w' := by
  have hu := Try.underlying49
  show Calls Try.prog 36 #[.agg #[.int .i64 x.f0.f0.f0, .int .i64 x.f0.f0.f1, .int .i64 x.f0.f0.f2, .int .i64 x.f0.f1, .int .i64 x.f0.f2, .int .i64 x.f1], .pointer (some ⟨b, 0, none⟩)] w _
  have hb1 := cell?_alloc_some' (o := .cells #[.int .i64 x.f0.f0.f0, .int .i64 x.f0.f0.f1, .int .i64 x.f0.f0.f2, .int .i64 x.f0.f1, .int .i64 x.f0.f2, .int .i64 x.f1] 49) hb
  have hlt := World.block_lt_of_cell? w _ hb
  generalize hW : w.alloc (.cells #[.int .i64 x.f0.f0.f0, .int .i64 x.f0.f0.f1, .int .i64 x.f0.f0.f2, .int .i64 x.f0.f1, .int .i64 x.f0.f2, .int .i64 x.f1] 49) = W at hb1
  have HB : Aside0 (Below w.heap.size w W) := ⟨by rw [← hW]; exact (Below.refl _ _).alloc (Nat.le_refl _) _⟩
  have hc : W.cell? ⟨w.heap.size, 5, none⟩ = some (.int .i64 x.f1) := by rw [← hW]; exact new_cell _ _ _ rfl 5 _ rfl
  go_enter Try.func36, Try.ntmps36
  go_wp2
  go_ret
  exact ⟨rfl, HB.out⟩
theorem new_blk (W : World) (o : Obj) {b : Nat} (hb : b = W.heap.size) : (W.alloc o).heap[b]? = some o := by subst hb; exact blk_new _ _
theorem elseL_len (a : Int) (xs : List S49) : (elseL a xs).length ≤ xs.length := List.length_filter_le _ _
/-- slices.DeleteFunc, of whatever row of the call's own. -/
theorem slices_DeleteFunc_at (a : Int) {base : Nat} {ok : Nat → Prop} {A : Option Addr} {n c b : Nat} {xs : List S49} {w : World} (h : k49.R 49 w base ok (.slice A n c) xs) (hb : w.cell? ⟨b, 0, none⟩ = some (.int .i64 a)) (hne : some b ≠ (Value.slice A n c).ownBlock) :
    Calls Try.prog 34 #[.slice A n c, .func (.func 36) #[] #[.pointer (some ⟨b, 0, none⟩)]] w fun e w' => ∃ n', e = .returned (.slice A n' c) ∧ k49.R 49 w' base ok (.slice A n' c) (elseL a xs) ∧ w.grownBy w' (Value.slice A n c).ownBlock := by
  rcases Flat.rowAt_of_R flatL h with ⟨hv, rfl⟩ | ⟨g, cap, hv, hb2, hok, hr⟩
  · injection hv with h1 h2 h3
    subst h1 h2 h3
    refine (slices_DeleteFunc_nil (fun x => x.f1 == a) 36 _ w).mono ?_
    rintro e w' ⟨rfl, rfl⟩
    exact ⟨0, rfl, h, ⟨rfl, rfl, rfl, Nat.le_refl _, fun _ _ _ => rfl⟩⟩
  · injection hv with h1 h2 h3
    subst h1 h2 h3
    refine (slices_DeleteFunc_link (fun x => x.f1 == a) 36 _ (enters_of Try.func36 (by kernel_rfl) rfl) h (fun W x hW => index_Replace_pred a b W (hW.cell hb hne) x)).mono ?_
    rintro e w' ⟨rfl, h1, h2⟩
    exact ⟨_, rfl, h1, h2⟩
def index_Replace.f (l0 : List S49) (a1 a2_0 a2_1 a2_2 a2_3 a2_4 a2_5 a2_6 : Int) (l2_7 : List Int) (l2_8 : List S47) (l2_9 : List Int) : Option (List S49) :=
  if l0.length ≤ 100000 ∧ l2_8.length ≤ 100000 then some (normL (elseL a1 l0 ++ linksOf a1 l2_8)) else none
set_option maxHeartbeats 4000000 in
set_option maxRecDepth 100000 in
theorem index_Replace.calls (A0 : Option Addr) (c0 : Nat) (l0 : List S49) (a1 a2_0 a2_1 a2_2 a2_3 a2_4 a2_5 a2_6 : Int) (A2_7 : Option Addr) (c2_7 : Nat) (l2_7 : List Int) (A2_8 : Option Addr) (c2_8 : Nat) (l2_8 : List S47) (A2_9 : Option Addr) (c2_9 : Nat) (l2_9 : List Int) (r : List S49) (w : World)
    (hr0 : Kd.C k49 w A0 l0.length l0) (hc0 : l0.length ≤ c0) (hr2_7 : Kd.C (Kd.int .i64) w A2_7 l2_7.length l2_7) (hc2_7 : l2_7.length ≤ c2_7) (hr2_8 : Kd.C k47 w A2_8 l2_8.length l2_8) (hc2_8 : l2_8.length ≤ c2_8) (hr2_9 : Kd.C (Kd.int .i64) w A2_9 l2_9.length l2_9) (hc2_9 : l2_9.length ≤ c2_9)
    (h : index_Replace.f l0 a1 a2_0 a2_1 a2_2 a2_3 a2_4 a2_5 a2_6 l2_7 l2_8 l2_9 = some r) :
    Calls Try.prog 18 #[.agg #[.slice A0 l0.length c0], .int .i64 a1, .agg #[.int .i64 a2_0, .int .i64 a2_1, .int .i64 a2_2, .int .i64 a2_3, .int .i64 a2_4, .int .i64 a2_5, .int .i64 a2_6, .slice A2_7 l2_7.length c2_7, .slice A2_8 l2_8.length c2_8, .slice A2_9 l2_9.length c2_9]] w
      fun e w' => ∃ v0_ : Value, e = .returned (.agg #[v0_]) ∧ Kd.R k49 49 w' w.heap.size (fun _ => True) v0_ r ∧ Below w.heap.size w w' := by
  have hu28 := Try.underlying28
  have hu35 := Try.underlying35
  have HR0 := Aside0.mk hr0
  have HR8 := Aside0.mk hr2_8
  clear hr0 hr2_7 hr2_8 hr2_9 hc2_7 hc2_8 hc2_9 hc0
  have hlim : l0.length ≤ 100000 ∧ l2_8.length ≤ 100000 := by
    unfold index_Replace.f at h
    split at h
    · assumption
    · cases h
  have HRES : Aside0 (r = normL (elseL a1 l0 ++ linksOf a1 l2_8)) := by
    unfold index_Replace.f at h
    rw [if_pos hlim] at h
    exact ⟨(Option.some.inj h).symm⟩
  clear h
  obtain ⟨hl1, hl2⟩ := hlim
  go_enter Try.func18, Try.ntmps18
  go_wp2_with fail
  generalize hW0 : World.alloc _ (Obj.cells #[.slice none 0 0] 28) = W0
  have HB0 : Aside0 (Below w.heap.size w W0) := ⟨by rw [← hW0]; exact ((((Below.refl _ w).alloc (Nat.le_refl _) _).alloc (by simp) _).alloc (by simp; omega) _).alloc (by simp; omega) _⟩
  have HS0 : Aside0 (W0.heap.size = w.heap.size + 4) := ⟨by rw [← hW0]; simp⟩
  have BA0 : Aside0 (W0.heap[w.heap.size + 1]? = some (.cells #[.int .i64 a1] 3 (0, 0))) := ⟨by
    rw [← hW0]
    refine (Below.heap_alloc _ _ _ (by simp)).trans ((Below.heap_alloc _ _ _ (by simp)).trans ?_)
    exact new_blk _ _ (by simp)⟩
  have BD0 : Aside0 (W0.heap[w.heap.size + 1 + 1]? = some (.cells #[.int .i64 a2_0, .int .i64 a2_1, .int .i64 a2_2, .int .i64 a2_3, .int .i64 a2_4, .int .i64 a2_5, .int .i64 a2_6, .slice A2_7 l2_7.length c2_7, .slice A2_8 l2_8.length c2_8, .slice A2_9 l2_9.length c2_9] 35 (0, 0))) := ⟨by
    rw [← hW0]
    refine (Below.heap_alloc _ _ _ (by simp)).trans ?_
    exact new_blk _ _ (by simp)⟩
  have BK0 : Aside0 (W0.heap[w.heap.size + 1 + 1 + 1]? = some (.cells #[.slice none 0 0] 28 (0, 0))) := ⟨by
    rw [← hW0]
    exact new_blk _ _ (by simp)⟩
  clear hW0
  refine (slices_Clone_link (Kd.C_below HR0.out HB0.out) (by omega)).mono ?_
  rintro e w1 ⟨v1, rfl, hr, hb⟩
  obtain ⟨A1, c1, rfl⟩ := Kd.R_slice hr
  have HO1 := Aside0.mk hr
  have HB1 := Aside0.mk (HB0.out.trans (hb.mono HB0.out.size))
  have BA1 := Aside0.mk ((hb.block _ (by have := HS0.out; omega)).trans BA0.out)
  have BD1 := Aside0.mk ((hb.block _ (by have := HS0.out; omega)).trans BD0.out)
  have BK1 := Aside0.mk ((hb.block _ (by have := HS0.out; omega)).trans BK0.out)
  have HS1 : Aside0 (w.heap.size + 4 ≤ w1.heap.size) := ⟨by have := HS0.out; have := hb.size; omega⟩
  clear hr hb BA0 BD0 BK0 HB0
  generalize hn1 : l0.length = n1 at HO1
  have HN1 := Aside0.mk hn1
  clear hn1
  have HSB : Aside0 (∀ kk, (Value.slice A1 n1 c1).ownBlock = some kk → kk < w1.heap.size ∧ w.heap.size + 4 ≤ kk) := ⟨fun kk hk => ⟨Kd.R_lt HO1.out kk hk, by have := Kd.R_base HO1.out kk hk; have := HS0.out; omega⟩⟩
  go_wp2_with fail
  refine (slices_DeleteFunc_at a1 HO1.out ((blk_cell BA1.out 0).trans rfl) (fun e => by have := (HSB.out _ e.symm).2; omega)).mono ?_
  rintro e w2 ⟨n2, rfl, hr, hg⟩
  have hsz := hg.size
  have HB2 : Aside0 (Below w.heap.size w w2) := ⟨pw_below_grown HB1.out _ HB1.out.size hg (fun kk hk => by have := (HSB.out kk hk).2; omega)⟩
  have HOK : ∀ j, j < w.heap.size + 4 → some j ≠ (Value.slice A1 n1 c1).ownBlock := fun j hj e => by have := (HSB.out _ e.symm).2; omega
  have BA2 := Aside0.mk (blk_grown BA1.out hg (HOK _ (by omega)))
  have BD2 := Aside0.mk (blk_grown BD1.out hg (HOK _ (by omega)))
  have BK2 := Aside0.mk (blk_grown BK1.out hg (HOK _ (by omega)))
  have HO2 := Aside0.mk hr
  have HS2 : Aside0 (w.heap.size + 4 ≤ w2.heap.size) := ⟨Nat.le_trans HS1.out hsz⟩
  clear hr hg hsz HOK BA1 BD1 BK1 HB1 HO1
  have HSB2 : Aside0 (∀ kk, (Value.slice A1 n2 c1).ownBlock = some kk → kk < w2.heap.size ∧ w.heap.size + 4 ≤ kk) := ⟨fun kk hk => ⟨Kd.R_lt HO2.out kk hk, by have := Kd.R_base HO2.out kk hk; have := HS0.out; omega⟩⟩
  have ha := (blk_cell BA2.out 0).trans rfl
  have x0 := (blk_cell BD2.out 0).trans rfl
  have x1 := (blk_cell BD2.out 1).trans rfl
  have x2 := (blk_cell BD2.out 2).trans rfl
  have x3 := (blk_cell BD2.out 3).trans rfl
  have x4 := (blk_cell BD2.out 4).trans rfl
  have x5 := (blk_cell BD2.out 5).trans rfl
  have x6 := (blk_cell BD2.out 6).trans rfl
  have x7 := (blk_cell BD2.out 7).trans rfl
  have x8 := (blk_cell BD2.out 8).trans rfl
  have x9 := (blk_cell BD2.out 9).trans rfl
  go_wp2_with (go_at_call 29; refine (index_links_calls _ _ _ _ _ _ _ _ _ _ _ _ _ _ _ _ _ _ _ _ rfl rfl rfl _).mono ?_; rintro e w' ⟨rfl, rfl⟩)
  go_at_call 28
  refine (append_links (rs := l2_8) (A8 := A2_8) (c8 := c2_8) (at_ := a1) (xs := elseL a1 l0) (base := W0.heap.size) (ok := fun _ => True) (Kd.R_alloc (Kd.R_alloc HO2.out _) _) ?q1 ?q2 ?q3 ?q4 ?q5 ?q6 ?q7 ?q0).mono ?q8
  case q0 => have := elseL_len a1 l0; omega
  case q1 => have := HS0.out; have := HS2.out; simp; omega
  case q2 => exact new_cell _ _ _ (by simp) 8 _ rfl
  case q3 => exact cell?_alloc_some' _ (new_cell _ _ _ (by simp) 0 _ rfl)
  case q4 => exact Kd.C_alloc (Kd.C_alloc (Kd.C_below HR8.out HB2.out) _) _
  case q5 => intro e; have := (HSB2.out _ e.symm).1; omega
  case q6 => intro e; have := (HSB2.out _ e.symm).1; omega
  case q7 =>
    intro ad' e h0 e2
    obtain ⟨ad2, e2', y0, _⟩ := at_T47 HR8.out 0 (by omega) (by omega)
    have : ad' = ad2 := by rw [e] at e2'; injection e2'
    subst this
    have := World.block_lt_of_cell? w _ y0
    have hb : (ad'.add ((0 : Int).toNat * 5)).block = ad'.block := by unfold Addr.add; split <;> rfl
    have := (HSB2.out _ e2.symm).2
    omega
  case q8 =>
    rintro e w3 ⟨v3, rfl, hr, hg⟩
    obtain ⟨A3, c3, rfl⟩ := Kd.R_slice hr
    have hg2 := Flat.grown_trans (Flat.grown_trans (World.grownBy_alloc w2 _ (Value.slice A1 n2 c1).ownBlock) (World.grownBy_alloc _ _ _)) hg
    have HO3 := Aside0.mk hr
    have HB3 : Aside0 (Below w.heap.size w w3) := ⟨pw_below_grown HB2.out _ HB2.out.size hg2 (fun kk hk => by have := (HSB2.out kk hk).2; omega)⟩
    have BK3 := Aside0.mk (blk_grown BK2.out hg2 (fun e => by have := (HSB2.out _ e.symm).2; omega))
    have HS3 : Aside0 (w.heap.size + 4 ≤ w3.heap.size) := ⟨Nat.le_trans HS2.out hg2.size⟩
    clear hr hg hg2 x0 x1 x2 x3 x4 x5 x6 x7 x8 x9 ha
    have HL3 : Aside0 ((elseL a1 l0 ++ linksOf a1 l2_8).length ≤ 4611686018427387000) := ⟨by rw [List.length_append, linksOf_len]; have := elseL_len a1 l0; omega⟩
    generalize hn3 : (elseL a1 l0 ++ linksOf a1 l2_8).length = n3 at HO3
    have HSB3 : Aside0 (∀ kk, (Value.slice A3 n3 c3).ownBlock = some kk → kk < w3.heap.size ∧ w.heap.size + 4 ≤ kk) := ⟨fun kk hk => ⟨Kd.R_lt HO3.out kk hk, by have := Kd.R_base HO3.out kk hk; have := HS0.out; omega⟩⟩
    clear hn3
    go_wp2_with fail
    go_at_call 30
    refine (index_ordered_calls HO3.out HL3.out).mono ?_
    rintro e w4 ⟨v4, rfl, hr, hg⟩
    obtain ⟨A4, c4, rfl⟩ := Kd.R_slice hr
    have HO4 := Aside0.mk hr
    have HB4 : Aside0 (Below w.heap.size w w4) := ⟨pw_below_grown HB3.out _ HB3.out.size hg (fun kk hk => by have := (HSB3.out kk hk).2; omega)⟩
    have BK4 := Aside0.mk (blk_grown BK3.out hg (fun e => by have := (HSB3.out _ e.symm).2; omega))
    clear hr hg
    have hc := (blk_cell BK4.out 0).trans rfl
    have hf := blk_frozen BK4.out 0
    go_wp2
    refine bodyPost_ret (results_cell_row rfl _ _ (w.heap.size + 1 + 1 + 1) 28 #[.slice A4 _ c4] (0, 0) _ rfl (by refine blk_put (cs := #[.slice none 0 0]) ?_ 0 _ rfl; exact BK4.out) Try.underlying28 rfl (by kernel_rfl)) rfl ?_
    refine ⟨_, rfl, ?_, below_set HB4.out (by show w.heap.size ≤ w.heap.size + 1 + 1 + 1; omega)⟩
    rw [HRES.out]
    refine Kd.R_lower (Kd.R_mono (Kd.R_set HO4.out BK4.out (by decide) 0 _) (fun _ h => h)) ?_
    have := HS0.out
    omega
end Go.Proofs.Ytodmmckieoakjaa.P
